/-
  Part 12 of the proof: PQ4.
-/
import Derived.Test.YtphmhnabilhbgaaGreatDoorPk11
namespace Go.Proofs.YtphmhnabilhbgaaGreatDoor
open Go.RowKit
set_option maxRecDepth 100000
set_option maxHeartbeats 0
set_option linter.unusedVariables false
def dy:List AV:=[(.d (.v (.slice none 0 0))),(.d (.v (.slice none 0 0))),(.d (.v (.slice none 0 0))),(.d (.v (.slice none 0 0))),(.d (.v (.slice none 0 0)))]
def mB:List AV:=[(bt (0:Int64)),(.d (.v (.slice none 0 0)))]
def C1(v:ao)(r:List AV):List AV:=(an v.bg)::(bq v.aq)::(bt v.dK.xN)::(bt v.dK.xD)::(an v.aB.cA)::(an v.aB.cD)::(an v.aB.dg)::(an v.aB.de)::(an v.aB.dc)::(bt v.aQ.xK)::(.d (.sl (bP v.aQ.xL)))::(.d (.sl (bM v.xIdx)))::(.d (.sl (cW v.aT)))::r
def tW(N:Nat)(v2:List ByteArray)(v8:List cF)(aI:List cq)(v3:List ByteArray):List aL→Nat→Nat→(List aL)→Option ((List ByteArray)×(List cF)×(List cq)×Nat×(List ByteArray)×(List aL))
 |[],_,aU,bU=>
  some (v2,v8,aI,aU,v3,bU)
 |aW::aH,aD,aU,bU=>
  Option.bind (rC N aW.aJ) fun v20=>
  Option.bind (rC N aW.bG) fun dF=>
  Option.bind (A1 N aW.bE) fun dh=>
  bif (Nat.beq bU.length aU)then
  bif (Nat.ble ((aU+1)*272) 140737488355328)then
  (fun lD xC=>tW N v2 v8 aI v3 aH (aD+1) lD xC) (aU+1) (bU++[(⟨aW.aq,aW.aB,v20,dF,aW.cP,dh⟩:aL)])
  else none
  else none
def rY(N:Nat)(v2:List ByteArray)(v8:List cF)(v3:List ByteArray)(v1:aY):List cq→Nat→(List cq)→Option ((List ByteArray)×(List cF)×(List cq)×Nat×(List ByteArray)×(List aL))
 |[],_,aI=>
  tW N v2 v8 aI v3 v1.aA 0 0 []
 |v11::aC,v9,aI=>
  Option.bind (yg N v11.aJ) fun cz=>
  bif (Nat.ble ((aI.length+1)*80) 140737488355328)then
  (fun fS=>rY N v2 v8 v3 v1 aC (v9+1) fS) (aI++[(⟨v11.aq,v11.aB,cz⟩:cq)])
  else none
def tr(N:Nat)(v2:List ByteArray)(v3:List ByteArray)(v1:aY):List cF→Nat→(List cF)→Option ((List ByteArray)×(List cF)×(List cq)×Nat×(List ByteArray)×(List aL))
 |[],_,v8=>
  rY N v2 v8 v3 v1 v1.bu 0 []
 |v6::v7,v4,v8=>
  Option.bind (sF N v6.aQ) fun cb=>
  bif (Nat.ble ((v8.length+1)*40) 140737488355328)then
  (fun ck=>tr N v2 v3 v1 v7 (v4+1) ck) (v8++[(⟨cb,v6.hJ⟩:cF)])
  else none
def rM(N:Nat)(v1:aY):Option ((List ByteArray)×(List cF)×(List cq)×Nat×(List ByteArray)×(List aL)):=
 Option.bind (FR N v1.bx) fun v2=>
 Option.bind (FR N v1.cU) fun v3=>
 tr N v2 v3 v1 v1.cX 0 []
theorem Fk(N:Nat)(v1:aY)(r:(List ByteArray)×(List cF)×(List cq)×Nat×(List ByteArray)×(List aL))(J:rM N v1=some r):bW Tryz.prog 26 [(aX v1)] [] fun r1 h1=>r1=(.agg [(.d (.sl (ax r.1))),(.own 3 (bJ r.2.1)),(.own 4 (bN r.2.2.1)),(.vec 5 0 r.2.2.2.1 r.2.2.2.1 22),(.d (.sl (ax r.2.2.2.2.1)))])∧h1=[.gone, .cells [(.d (.sl (ax r.1))),(.own 3 (bJ r.2.1)),(.own 4 (bN r.2.2.1)),(.vec 5 0 r.2.2.2.1 r.2.2.2.1 22),(.d (.sl (ax r.2.2.2.2.1)))], .gone, .front 57 3 r.2.1.length, .front 60 7 r.2.2.1.length, .vec 54 22 (aK (r.2.2.2.2.2.map cw))]:=by
 rw[rM]at J;refine sK 6 Tryz.func26 rfl (by kernel_rfl) (agB rfl) ?_;refine lS (s':=⟨81,[(0,(aX v1))],[]⟩) (by kernel_rfl) ?_;refine aN ?_;refine rg [] [(1,(.ptr 0 0)),(2,(.ptr 1 0))] [.cells (aX v1).cells, .cells dy] (by kernel_rfl) ?_;refine aN ?_;obtain⟨v2,h1,J⟩:=ar J;obtain⟨v3,h2,J⟩:=ar J;refine rt 3 ai [(7,cL (UD N v1.bx v2 h1)),(16,cL (UD N v1.cU v3 h2))] [(3,(.ptr 2 0))] [.cells (aX v1).cells, .cells dy, .cells [(.d (.sl (ax v2))),(.d (.v (.slice none 0 0))),(.d (.v (.slice none 0 0))),(.d (.v (.slice none 0 0))),(.d (.sl (ax v3)))]] (by kernel_rfl) ?_;refine aN ?_;refine aN ?_;refine rg [(7,oL v1.cX fa)] [(18,(.d (.sl (bJ v1.cX)))),(19,(an (v1.cX.length:Int))),(20,(an (0:Int)))] [.cells (aX v1).cells, .cells dy, .cells [(.d (.sl (ax v2))),(.d (.v (.slice none 0 0))),(.d (.v (.slice none 0 0))),(.d (.v (.slice none 0 0))),(.d (.sl (ax v3)))]] (by kernel_rfl) ?_;refine e6 ?_;refine HL 2 1 57 3 [] rfl (.inr ⟨rfl,rfl⟩) ?_;refine oe 18 (bJ v1.cX) (by kernel_rfl) fun h3=> ?_;have h4:=cr fa h3;refine pc [1,2,3,18,19,20] 4 [] [(1,0),(1,1),(1,2),(1,3),(1,4),(2,2),(2,3)] (fun((v4,v5,v8):Nat×(List cF)×(List cF))=>⟨81,[(1,(.ptr 0 0)),(2,(.ptr 1 0)),(3,(.ptr 2 0)),(18,(.d (.sl (bJ v1.cX)))),(19,(an (v1.cX.length:Int))),(20,(an (v4:Int)))],[.cells (aX v1).cells, .cells dy, .cells [(.d (.sl (ax v2))),(.own 3 (bJ v8)),(.d (.v (.slice none 0 0))),(.d (.v (.slice none 0 0))),(.d (.sl (ax v3)))], .front 57 3 v8.length]⟩) (fun((v4,v5,v8):Nat×(List cF)×(List cF))=>v1.cX.drop v4=v5∧tr N v2 v3 v1 v5 v4 v8=some r) (fun((v4,v5,v8):Nat×(List cF)×(List cF))=>v5.length) (0,v1.cX,[]) (agB rfl) ⟨(dQ trivial (dQ trivial (dQ trivial (dQ trivial fh)))),by kernel_rfl⟩ ⟨rfl,J⟩ ?_
 rintro⟨v4,v5,v8⟩ ⟨h5,J⟩;cases v5 with
 |nil=>
  rw[tr]at J;refine aN ?_;refine rg [] [(21,(aM (decide ((v4:Int)<(v1.cX.length:Int)))))] [.cells (aX v1).cells, .cells dy, .cells [(.d (.sl (ax v2))),(.own 3 (bJ v8)),(.d (.v (.slice none 0 0))),(.d (.v (.slice none 0 0))),(.d (.sl (ax v3)))], .front 57 3 v8.length] (by kernel_rfl) ?_;refine aN ?_;refine ft (t:=(decide ((v4:Int)<(v1.cX.length:Int)))) (by kernel_rfl) (bS h5) ?_;refine jZ (gK (gK (kZ rfl ?_)));refine cm ?_;refine aN ?_;refine aN ?_;refine rg [(7,oL v1.bu er)] [(37,(.d (.sl (bN v1.bu)))),(38,(an (v1.bu.length:Int))),(39,(an (0:Int)))] [.cells (aX v1).cells, .cells dy, .cells [(.d (.sl (ax v2))),(.own 3 (bJ v8)),(.d (.v (.slice none 0 0))),(.d (.v (.slice none 0 0))),(.d (.sl (ax v3)))], .front 57 3 v8.length] (by kernel_rfl) ?_;refine e6 ?_;refine HL 2 2 60 7 [] rfl (.inr ⟨rfl,rfl⟩) ?_;refine oe 37 (bN v1.bu) (by kernel_rfl) fun h6=> ?_;have h7:=cr er h6;refine pc [1,2,3,37,38,39] 5 [] [(1,0),(1,1),(1,2),(1,3),(1,4),(2,3)] (fun((v9,v10,aI):Nat×(List cq)×(List cq))=>⟨81,[(1,(.ptr 0 0)),(2,(.ptr 1 0)),(3,(.ptr 2 0)),(37,(.d (.sl (bN v1.bu)))),(38,(an (v1.bu.length:Int))),(39,(an (v9:Int)))],[.cells (aX v1).cells, .cells dy, .cells [(.d (.sl (ax v2))),(.own 3 (bJ v8)),(.own 4 (bN aI)),(.d (.v (.slice none 0 0))),(.d (.sl (ax v3)))], .front 57 3 v8.length, .front 60 7 aI.length]⟩) (fun((v9,v10,aI):Nat×(List cq)×(List cq))=>v1.bu.drop v9=v10∧rY N v2 v8 v3 v1 v10 v9 aI=some r) (fun((v9,v10,aI):Nat×(List cq)×(List cq))=>v10.length) (0,v1.bu,[]) (agB rfl) ⟨(dQ trivial (dQ trivial (dQ trivial (dQ trivial (dQ trivial fh))))),by kernel_rfl⟩ ⟨rfl,J⟩ ?_
  rintro⟨v9,v10,aI⟩ ⟨h8,J⟩;cases v10 with
  |nil=>
   rw[rY]at J;refine aN ?_;refine rg [] [(40,(aM (decide ((v9:Int)<(v1.bu.length:Int)))))] [.cells (aX v1).cells, .cells dy, .cells [(.d (.sl (ax v2))),(.own 3 (bJ v8)),(.own 4 (bN aI)),(.d (.v (.slice none 0 0))),(.d (.sl (ax v3)))], .front 57 3 v8.length, .front 60 7 aI.length] (by kernel_rfl) ?_;refine aN ?_;refine ft (t:=(decide ((v9:Int)<(v1.bu.length:Int)))) (by kernel_rfl) (bS h8) ?_;refine jZ (gK (gK (kZ rfl ?_)));refine cm ?_;refine aN ?_;refine aN ?_;refine rg [(7,oL v1.aA dB)] [(55,(.d (.sl (cg v1.aA)))),(56,(an (v1.aA.length:Int))),(57,(an (0:Int)))] [.cells (aX v1).cells, .cells dy, .cells [(.d (.sl (ax v2))),(.own 3 (bJ v8)),(.own 4 (bN aI)),(.d (.v (.slice none 0 0))),(.d (.sl (ax v3)))], .front 57 3 v8.length, .front 60 7 aI.length] (by kernel_rfl) ?_;refine e6 ?_;refine abu 2 3 54 22 rfl rfl ?_;refine oe 55 (cg v1.aA) (by kernel_rfl) fun h9=> ?_;have az:=cr dB h9;refine pc [2,3,55,56,57] 6 [] [(1,0),(1,1),(1,2),(1,3),(1,4)] (fun((aD,aP,aU,bU):Nat×(List aL)×Nat×(List aL))=>⟨81,[(2,(.ptr 1 0)),(3,(.ptr 2 0)),(55,(.d (.sl (cg v1.aA)))),(56,(an (v1.aA.length:Int))),(57,(an (aD:Int)))],[.cells (aX v1).cells, .cells dy, .cells [(.d (.sl (ax v2))),(.own 3 (bJ v8)),(.own 4 (bN aI)),(.vec 5 0 aU aU 22),(.d (.sl (ax v3)))], .front 57 3 v8.length, .front 60 7 aI.length, .vec 54 22 (aK (bU.map cw))]⟩) (fun((aD,aP,aU,bU):Nat×(List aL)×Nat×(List aL))=>v1.aA.drop aD=aP∧tW N v2 v8 aI v3 aP aD aU bU=some r) (fun((aD,aP,aU,bU):Nat×(List aL)×Nat×(List aL))=>aP.length) (0,v1.aA,0,[]) (agB rfl) ⟨(dQ trivial (dQ trivial (dQ trivial (dQ trivial (dQ trivial (gb (xs:=(([]:List aL).map cw)) fh)))))),by kernel_rfl⟩ ⟨rfl,J⟩ ?_
   rintro⟨aD,aP,aU,bU⟩ ⟨aZ,J⟩;cases aP with
   |nil=>
    rw[tW]at J;refine aN ?_;refine rg [] [(58,(aM (decide ((aD:Int)<(v1.aA.length:Int)))))] [.cells (aX v1).cells, .cells dy, .cells [(.d (.sl (ax v2))),(.own 3 (bJ v8)),(.own 4 (bN aI)),(.vec 5 0 aU aU 22),(.d (.sl (ax v3)))], .front 57 3 v8.length, .front 60 7 aI.length, .vec 54 22 (aK (bU.map cw))] (by kernel_rfl) ?_;refine aN ?_;refine ft (t:=(decide ((aD:Int)<(v1.aA.length:Int)))) (by kernel_rfl) (bS aZ) ?_;refine jZ (gK (gK (kZ rfl ?_)));refine cm ?_;refine aN ?_;refine rg [] [] [.cells (aX v1).cells, .cells [(.d (.sl (ax v2))),(.own 3 (bJ v8)),(.own 4 (bN aI)),(.vec 5 0 aU aU 22),(.d (.sl (ax v3)))], .cells [(.d (.sl (ax v2))),(.own 3 (bJ v8)),(.own 4 (bN aI)),(.vec 5 0 aU aU 22),(.d (.sl (ax v3)))], .front 57 3 v8.length, .front 60 7 aI.length, .vec 54 22 (aK (bU.map cw))] (by kernel_rfl) ?_;refine Pp 0 ?_;refine Pp 2 ?_;refine dM ?_;have hr:=agM J;subst hr;exact lX (dQ trivial (dQ trivial (dQ trivial (dQ trivial (dQ trivial (gb (xs:=(bU.map cw)) fh)))))) (by kernel_rfl)
   |cons aW aH=>
    rw[tW]at J;refine aN ?_;refine rg [] [(58,(aM (decide ((aD:Int)<(v1.aA.length:Int)))))] [.cells (aX v1).cells, .cells dy, .cells [(.d (.sl (ax v2))),(.own 3 (bJ v8)),(.own 4 (bN aI)),(.vec 5 0 aU aU 22),(.d (.sl (ax v3)))], .front 57 3 v8.length, .front 60 7 aI.length, .vec 54 22 (aK (bU.map cw))] (by kernel_rfl) ?_;refine aN ?_;refine fz (t:=(decide ((aD:Int)<(v1.aA.length:Int)))) (by kernel_rfl) (bR aZ) ?_;refine et ?_;refine cm ?_;refine aN ?_;refine e6 ?_;refine aN ?_;refine rg [(1,oE (gA (bj aZ)))] [(9,(.ptr 6 0))] [.cells (aX v1).cells, .cells dy, .cells [(.d (.sl (ax v2))),(.own 3 (bJ v8)),(.own 4 (bN aI)),(.vec 5 0 aU aU 22),(.d (.sl (ax v3)))], .front 57 3 v8.length, .front 60 7 aI.length, .vec 54 22 (aK (bU.map cw)), .cells (cE aW).cells] (by kernel_rfl) ?_;refine aN ?_;obtain⟨v20,bf,J⟩:=ar J;obtain⟨dF,b5,J⟩:=ar J;obtain⟨dh,a8,J⟩:=ar J;refine rd ai (by kernel_rfl) [(7,cL (O9 N aW.aJ v20 bf)),(16,cL (O9 N aW.bG dF b5)),(25,cL (WT N aW.bE dh a8))] [] [.cells (aX v1).cells, .cells dy, .cells [(.d (.sl (ax v2))),(.own 3 (bJ v8)),(.own 4 (bN aI)),(.vec 5 0 aU aU 22),(.d (.sl (ax v3)))], .front 57 3 v8.length, .front 60 7 aI.length, .vec 54 22 (aK (bU.map cw)), .cells ((bq aW.aq)::(an aW.aB.cA)::(an aW.aB.cD)::(an aW.aB.dg)::(an aW.aB.de)::(an aW.aB.dc)::(.d (.sl (cy v20)))::(.d (.sl (cy dF)))::(an aW.cP)::C1 dh [])] (by kernel_rfl) ?_
    have bA:=fv J;replace J:=(dx bA).symm.trans J;have a9:=fv J;replace J:=(dx a9).symm.trans J;refine re [(13,⟨_,_, .pr (.ap (aK ((bU++[(⟨aW.aq,aW.aB,v20,dF,aW.cP,dh⟩:aL)]).map cw)) (aK (([(⟨aW.aq,aW.aB,v20,dF,aW.cP,dh⟩:aL)]).map cw)) (aU+1) (aU+1)) (Us (f:=cw) (h:=[.cells (aX v1).cells, .cells dy, .cells [(.d (.sl (ax v2))),(.own 3 (bJ v8)),(.own 4 (bN aI)),(.vec 5 0 aU aU 22),(.d (.sl (ax v3)))], .front 57 3 v8.length, .front 60 7 aI.length, .vec 54 22 (aK (bU.map cw)), .cells ((bq aW.aq)::(an aW.aB.cA)::(an aW.aB.cD)::(an aW.aB.dg)::(an aW.aB.de)::(an aW.aB.dc)::(.d (.sl (cy v20)))::(.d (.sl (cy dF)))::(an aW.cP)::C1 dh [])]) (y:=(.full (cg [(⟨aW.aq,aW.aB,v20,dF,aW.cP,dh⟩:aL)]))) (k:=22) (agH bA) rfl (fun c hc=>Cd c (by rw[lz];exact hc)) rfl rfl (cY a9 (by decide)).1 (cY a9 (by decide)).2)⟩)] [(78,(.ptr 2 3)),(77,(.vec 5 0 (aU+1) (aU+1) 22)),(76,(.full (cg [(⟨aW.aq,aW.aB,v20,dF,aW.cP,dh⟩:aL)]))),(75,(.agg [(bq aW.aq),(an aW.aB.cA),(an aW.aB.cD),(an aW.aB.dg),(an aW.aB.de),(an aW.aB.dc),(.d (.sl (cy v20))),(.d (.sl (cy dF))),(an aW.cP),(an dh.bg),(bq dh.aq),(bt dh.dK.xN),(bt dh.dK.xD),(an dh.aB.cA),(an dh.aB.cD),(an dh.aB.dg),(an dh.aB.de),(an dh.aB.dc),(bt dh.aQ.xK),(.d (.sl (bP dh.aQ.xL))),(.d (.sl (bM dh.xIdx))),(.d (.sl (cW dh.aT)))])),(74,(.vec 5 0 aU aU 22)),(73,(.ptr 2 3))] [.cells (aX v1).cells, .cells dy, .cells [(.d (.sl (ax v2))),(.own 3 (bJ v8)),(.own 4 (bN aI)),(.vec 5 0 (aU+1) (aU+1) 22),(.d (.sl (ax v3)))], .front 57 3 v8.length, .front 60 7 aI.length, .vec 54 22 (aK ((bU++[(⟨aW.aq,aW.aB,v20,dF,aW.cP,dh⟩:aL)]).map cw)), .cells ((bq aW.aq)::(an aW.aB.cA)::(an aW.aB.cD)::(an aW.aB.dg)::(an aW.aB.de)::(an aW.aB.dc)::(.d (.sl (cy v20)))::(.d (.sl (cy dF)))::(an aW.cP)::C1 dh [])] (by kernel_rfl) ?_
    refine iJ ?_;refine cm ?_;refine re [(2,oq (b8 aZ rfl az))] [(57,(an ((aD+1:Nat):Int))),(79,(an ((aD+1:Nat):Int)))] [.cells (aX v1).cells, .cells dy, .cells [(.d (.sl (ax v2))),(.own 3 (bJ v8)),(.own 4 (bN aI)),(.vec 5 0 (aU+1) (aU+1) 22),(.d (.sl (ax v3)))], .front 57 3 v8.length, .front 60 7 aI.length, .vec 54 22 (aK ((bU++[(⟨aW.aq,aW.aB,v20,dF,aW.cP,dh⟩:aL)]).map cw)), .cells ((bq aW.aq)::(an aW.aB.cA)::(an aW.aB.cD)::(an aW.aB.dg)::(an aW.aB.de)::(an aW.aB.dc)::(.d (.sl (cy v20)))::(.d (.sl (cy dF)))::(an aW.cP)::C1 dh [])] (by kernel_rfl) ?_;refine cm ?_;exact⟨(aD+1,aH,(aU+1),(bU++[(⟨aW.aq,aW.aB,v20,dF,aW.cP,dh⟩:aL)])),⟨(dQ trivial (dQ trivial (dQ trivial (dQ trivial (dQ trivial (gb (xs:=((bU++[(⟨aW.aq,aW.aB,v20,dF,aW.cP,dh⟩:aL)]).map cw)) fh)))))),by kernel_rfl⟩,⟨b7 aZ,J⟩,ahf _⟩
  |cons v11 aC=>
   rw[rY]at J;refine aN ?_;refine rg [] [(40,(aM (decide ((v9:Int)<(v1.bu.length:Int)))))] [.cells (aX v1).cells, .cells dy, .cells [(.d (.sl (ax v2))),(.own 3 (bJ v8)),(.own 4 (bN aI)),(.d (.v (.slice none 0 0))),(.d (.sl (ax v3)))], .front 57 3 v8.length, .front 60 7 aI.length] (by kernel_rfl) ?_;refine aN ?_;refine fz (t:=(decide ((v9:Int)<(v1.bu.length:Int)))) (by kernel_rfl) (bR h8) ?_;refine et ?_;refine cm ?_;refine aN ?_;refine e6 ?_;refine aN ?_;refine rg [(1,oE (kJ (bj h8)))] [(7,(.ptr 5 0))] [.cells (aX v1).cells, .cells dy, .cells [(.d (.sl (ax v2))),(.own 3 (bJ v8)),(.own 4 (bN aI)),(.d (.v (.slice none 0 0))),(.d (.sl (ax v3)))], .front 57 3 v8.length, .front 60 7 aI.length, .cells (qO v11).cells] (by kernel_rfl) ?_;refine aN ?_;obtain⟨cz,cv,J⟩:=ar J;refine rg [(7,cL (SF N v11.aJ cz cv))] [] [.cells (aX v1).cells, .cells dy, .cells [(.d (.sl (ax v2))),(.own 3 (bJ v8)),(.own 4 (bN aI)),(.d (.v (.slice none 0 0))),(.d (.sl (ax v3)))], .front 57 3 v8.length, .front 60 7 aI.length, .cells [(bq v11.aq),(an v11.aB.cA),(an v11.aB.cD),(an v11.aB.dg),(an v11.aB.de),(an v11.aB.dc),(.d (.sl (cS cz)))]] (by kernel_rfl) ?_;have bQ:=fv J;replace J:=(dx bQ).symm.trans J
   refine re [(13,⟨_,_, .app (xs:=bN aI) (ys:=bN [(⟨v11.aq,v11.aB,cz⟩:cq)]) (zs:=bN (aI++[(⟨v11.aq,v11.aB,cz⟩:cq)])) (n:=(aI++[(⟨v11.aq,v11.aB,cz⟩:cq)]).length) er.symm To To (by rw[(er (l:=aI)),(er (l:=[(⟨v11.aq,v11.aB,cz⟩:cq)]))];exact(cY bQ (by decide)).1) (by rw[(er (l:=aI)),(er (l:=[(⟨v11.aq,v11.aB,cz⟩:cq)]))];exact(cY bQ (by decide)).2) afw (by first|(rw[(er (l:=aI)),(er (l:=[(⟨v11.aq,v11.aB,cz⟩:cq)]))];done)|(rw[(er (l:=aI)),(er (l:=[(⟨v11.aq,v11.aB,cz⟩:cq)]))];rfl)|(rw[(er (l:=aI)),(er (l:=[(⟨v11.aq,v11.aB,cz⟩:cq)])),agu];done)|(rw[(er (l:=aI)),(er (l:=[(⟨v11.aq,v11.aB,cz⟩:cq)])),agu];rfl)|(rw[(er (l:=aI)),(er (l:=[(⟨v11.aq,v11.aB,cz⟩:cq)])),agN]))⟩)] [(52,(.ptr 2 2)),(51,(.own 4 (bN (aI++[(⟨v11.aq,v11.aB,cz⟩:cq)])))),(50,(.full (bN [(⟨v11.aq,v11.aB,cz⟩:cq)]))),(49,(.agg [(bq v11.aq),(an v11.aB.cA),(an v11.aB.cD),(an v11.aB.dg),(an v11.aB.de),(an v11.aB.dc),(.d (.sl (cS cz)))])),(48,(.own 4 (bN aI))),(47,(.ptr 2 2))] [.cells (aX v1).cells, .cells dy, .cells [(.d (.sl (ax v2))),(.own 3 (bJ v8)),(.own 4 (bN (aI++[(⟨v11.aq,v11.aB,cz⟩:cq)]))),(.d (.v (.slice none 0 0))),(.d (.sl (ax v3)))], .front 57 3 v8.length, .front 60 7 (aI++[(⟨v11.aq,v11.aB,cz⟩:cq)]).length, .cells [(bq v11.aq),(an v11.aB.cA),(an v11.aB.cD),(an v11.aB.dg),(an v11.aB.de),(an v11.aB.dc),(.d (.sl (cS cz)))]] (by kernel_rfl) ?_
   refine iJ ?_;refine cm ?_;refine re [(2,oq (b8 h8 rfl h7))] [(39,(an ((v9+1:Nat):Int))),(53,(an ((v9+1:Nat):Int)))] [.cells (aX v1).cells, .cells dy, .cells [(.d (.sl (ax v2))),(.own 3 (bJ v8)),(.own 4 (bN (aI++[(⟨v11.aq,v11.aB,cz⟩:cq)]))),(.d (.v (.slice none 0 0))),(.d (.sl (ax v3)))], .front 57 3 v8.length, .front 60 7 (aI++[(⟨v11.aq,v11.aB,cz⟩:cq)]).length, .cells [(bq v11.aq),(an v11.aB.cA),(an v11.aB.cD),(an v11.aB.dg),(an v11.aB.de),(an v11.aB.dc),(.d (.sl (cS cz)))]] (by kernel_rfl) ?_;refine cm ?_;exact⟨(v9+1,aC,(aI++[(⟨v11.aq,v11.aB,cz⟩:cq)])),⟨(dQ trivial (dQ trivial (dQ trivial (dQ trivial (dQ trivial fh))))),by kernel_rfl⟩,⟨b7 h8,J⟩,ahf _⟩
 |cons v6 v7=>
  rw[tr]at J;refine aN ?_;refine rg [] [(21,(aM (decide ((v4:Int)<(v1.cX.length:Int)))))] [.cells (aX v1).cells, .cells dy, .cells [(.d (.sl (ax v2))),(.own 3 (bJ v8)),(.d (.v (.slice none 0 0))),(.d (.v (.slice none 0 0))),(.d (.sl (ax v3)))], .front 57 3 v8.length] (by kernel_rfl) ?_;refine aN ?_;refine fz (t:=(decide ((v4:Int)<(v1.cX.length:Int)))) (by kernel_rfl) (bR h5) ?_;refine et ?_;refine cm ?_;refine aN ?_;refine e6 ?_;refine aN ?_;refine rg [(1,oE (zQ (bj h5)))] [(5,(.ptr 4 0))] [.cells (aX v1).cells, .cells dy, .cells [(.d (.sl (ax v2))),(.own 3 (bJ v8)),(.d (.v (.slice none 0 0))),(.d (.v (.slice none 0 0))),(.d (.sl (ax v3)))], .front 57 3 v8.length, .cells (mR v6).cells] (by kernel_rfl) ?_;obtain⟨cb,dk,J⟩:=ar J;have dJ:=fv J;replace J:=(dx dJ).symm.trans J;refine rde ai (by kernel_rfl) [(13,cL (Gp N v6.aQ cb dk)),(28,⟨_,_, .app (xs:=bJ v8) (ys:=bJ [(⟨cb,v6.hJ⟩:cF)]) (zs:=bJ (v8++[(⟨cb,v6.hJ⟩:cF)])) (n:=(v8++[(⟨cb,v6.hJ⟩:cF)]).length) fa.symm T8 T8 (by rw[(fa (l:=v8)),(fa (l:=[(⟨cb,v6.hJ⟩:cF)]))];exact(cY dJ (by decide)).1) (by rw[(fa (l:=v8)),(fa (l:=[(⟨cb,v6.hJ⟩:cF)]))];exact(cY dJ (by decide)).2) VC (by first|(rw[(fa (l:=v8)),(fa (l:=[(⟨cb,v6.hJ⟩:cF)]))];done)|(rw[(fa (l:=v8)),(fa (l:=[(⟨cb,v6.hJ⟩:cF)]))];rfl)|(rw[(fa (l:=v8)),(fa (l:=[(⟨cb,v6.hJ⟩:cF)])),agu];done)|(rw[(fa (l:=v8)),(fa (l:=[(⟨cb,v6.hJ⟩:cF)])),agu];rfl)|(rw[(fa (l:=v8)),(fa (l:=[(⟨cb,v6.hJ⟩:cF)])),agN]))⟩)] [(34,(.ptr 2 1)),(33,(.own 3 (bJ (v8++[(⟨cb,v6.hJ⟩:cF)])))),(32,(.full (bJ [(⟨cb,v6.hJ⟩:cF)]))),(31,(.agg [(bt cb.xK),(.d (.sl (bP cb.xL))),(aM v6.hJ)])),(30,(aM v6.hJ)),(29,(.ptr 4 2)),(28,(b9 cb)),(27,(b9 v6.aQ)),(26,(.ptr 4 0)),(25,(.own 3 (bJ v8))),(24,(.ptr 2 1))] [.cells (aX v1).cells, .cells dy, .cells [(.d (.sl (ax v2))),(.own 3 (bJ (v8++[(⟨cb,v6.hJ⟩:cF)]))),(.d (.v (.slice none 0 0))),(.d (.v (.slice none 0 0))),(.d (.sl (ax v3)))], .front 57 3 (v8++[(⟨cb,v6.hJ⟩:cF)]).length, .cells (mR v6).cells] (by kernel_rfl) ?_
  refine iJ ?_;refine cm ?_;refine re [(2,oq (b8 h5 rfl h4))] [(20,(an ((v4+1:Nat):Int))),(35,(an ((v4+1:Nat):Int)))] [.cells (aX v1).cells, .cells dy, .cells [(.d (.sl (ax v2))),(.own 3 (bJ (v8++[(⟨cb,v6.hJ⟩:cF)]))),(.d (.v (.slice none 0 0))),(.d (.v (.slice none 0 0))),(.d (.sl (ax v3)))], .front 57 3 (v8++[(⟨cb,v6.hJ⟩:cF)]).length, .cells (mR v6).cells] (by kernel_rfl) ?_;refine cm ?_;exact⟨(v4+1,v7,(v8++[(⟨cb,v6.hJ⟩:cF)])),⟨(dQ trivial (dQ trivial (dQ trivial (dQ trivial fh)))),by kernel_rfl⟩,⟨b7 h5,J⟩,ahf _⟩
def wB(N:Nat)(v1:Nat)(v2:List aL)(v3:ByteArray):Nat→Int→Option Int
 |0,_=>none
 |v4+1,v5=>
  bif (decide (v5<(v1:Int)))then
   bif (decide ((0:Int)≤v5))then
   Option.bind (v2[(v5).toNat]?) fun v6=>
   Option.bind (zG N v6 v3) fun v7=>
   bif v7 then
    some v5
   else
    (fun ck=>wB N v1 v2 v3 v4 ck) (a7 (v5+(1:Int)))
   else none
  else
   some (-1:Int)
def GN(N:Nat)(v1:Nat)(v2:List aL)(v3:ByteArray):Option Int:=
 bif (Nat.beq v2.length v1)then
 wB N v1 v2 v3 N (0:Int)
 else none
theorem afF(N:Nat)(v1:Nat)(v2:List aL)(v3:ByteArray)(r:Int)(J:GN N v1 v2 v3=some r):bW Tryz.prog 45 [(.vec 0 0 v1 v1 22),(.fn 46 [(.ptr 1 0)])] [.vec 54 22 (aK (v2.map cw)), .cells [(bq v3)]] fun r1 h1=>r1=(an r)∧h1=[.vec 54 22 (aK (v2.map cw)), .cells [(bq v3)]]:=by
 rw[GN]at J;refine sK 2 Tryz.func45 rfl (by kernel_rfl) (agB rfl) ?_;refine lS (s':=⟨19,[(0,(.vec 0 0 v1 v1 22)),(1,(.fn 46 [(.ptr 1 0)]))],[.vec 54 22 (aK (v2.map cw)), .cells [(bq v3)]]⟩) (by kernel_rfl) ?_;refine aN ?_;refine rg [] [] [.vec 54 22 (aK (v2.map cw)), .cells [(bq v3)]] (by kernel_rfl) ?_;refine aN ?_;refine aN ?_;have h1:=fv J;replace J:=(dx h1).symm.trans J;refine rg [(4,⟨_,_, .pr .no (gQ (f:=cw) (agH h1))⟩)] [(7,(an (v1:Int))),(8,(an (0:Int)))] [.vec 54 22 (aK (v2.map cw)), .cells [(bq v3)]] (by kernel_rfl) ?_;refine e6 ?_;refine pc [0,1,7,8] 2 [] [] (fun((v4,v5):Nat×Int)=>⟨19,[(0,(.vec 0 0 v1 v1 22)),(1,(.fn 46 [(.ptr 1 0)])),(7,(an (v1:Int))),(8,(an v5))],[.vec 54 22 (aK (v2.map cw)), .cells [(bq v3)]]⟩) (fun((v4,v5):Nat×Int)=>wB N v1 v2 v3 v4 v5=some r) (fun((v4,v5):Nat×Int)=>v4) (N,(0:Int)) (agB rfl) ⟨(gb (xs:=(v2.map cw)) (dQ trivial fh)),by kernel_rfl⟩ J ?_;rintro⟨v4,v5⟩ J
 try dsimp only at J
 cases v4 with
 |zero=>
  rw[wB]at J;cases J
 |succ v4=>
  rw[wB]at J;refine aN ?_;refine rg [] [(9,(aM (decide (v5<(v1:Int)))))] [.vec 54 22 (aK (v2.map cw)), .cells [(bq v3)]] (by kernel_rfl) ?_;refine aN ?_;rcases fP (decide (v5<(v1:Int)))with h2|h2
  ·replace J:=(dx h2).symm.trans J;refine fz (t:=(decide (v5<(v1:Int)))) (by kernel_rfl) h2 ?_;refine et ?_;refine cm ?_;refine aN ?_;refine e6 ?_;refine aN ?_;refine rg [] [(5,(an v5))] [.vec 54 22 (aK (v2.map cw)), .cells [(bq v3)]] (by kernel_rfl) ?_;refine aN ?_;have h3:=fv J;replace J:=(dx h3).symm.trans J;obtain⟨v6,h4,J⟩:=ar J;obtain⟨v7,h5,J⟩:=ar J;refine rg [(10,⟨_,_, .pr (.ix ((v5).toNat)) (kS (gQ (f:=cw) (agH h1)) (of_decide_eq_true h3) (of_decide_eq_true h2) rfl)⟩),(13,⟨_,_, .pr (.el ((cw v6).map AV.d)) (ua (f:=cw) (agH h1) h4)⟩),(16,⟨_,_, .rq (db:=[(cE v6),(.ptr 1 0)]) (h:=[.vec 54 22 (aK (v2.map cw)), .cells [(bq v3)]]) (l:=[1]) (by kernel_rfl) (by kernel_rfl) (by kernel_rfl) (by kernel_rfl) (TB N v6 v3 v7 h5)⟩)] [(16,(aM v7))] [.vec 54 22 (aK (v2.map cw)), .cells [(bq v3)]] (by kernel_rfl) ?_;rcases fP v7 with h6|h6
   ·replace J:=(dx h6).symm.trans J;refine fz (t:=v7) (by kernel_rfl) h6 ?_;refine aN ?_;refine rg [] [(4,(an v5))] [.vec 54 22 (aK (v2.map cw)), .cells [(bq v3)]] (by kernel_rfl) ?_;refine dM (fg (ej (ej (fg (ej ?_)))));have hr:=agM J;subst hr;exact lX (gb (xs:=(v2.map cw)) (dQ trivial fh)) (by kernel_rfl)
   replace J:=(fR h6).symm.trans J;refine ft (t:=v7) (by kernel_rfl) h6 ?_;refine et ?_;refine iJ ?_;refine cm ?_;refine re [] [(8,(an (a7 (v5+(1:Int))))),(18,(an (a7 (v5+(1:Int)))))] [.vec 54 22 (aK (v2.map cw)), .cells [(bq v3)]] (by kernel_rfl) ?_;refine cm ?_;exact⟨(v4,(a7 (v5+(1:Int)))),⟨(gb (xs:=(v2.map cw)) (dQ trivial fh)),by kernel_rfl⟩,J,ahf _⟩
  replace J:=(fR h2).symm.trans J;refine ft (t:=(decide (v5<(v1:Int)))) (by kernel_rfl) h2 ?_;refine jZ (gK (gK (kZ rfl ?_)));refine cm ?_;refine aN ?_;refine rg [] [(4,(an (-1:Int)))] [.vec 54 22 (aK (v2.map cw)), .cells [(bq v3)]] (by kernel_rfl) ?_;refine dM ?_;have hr:=agM J;subst hr;exact lX (gb (xs:=(v2.map cw)) (dQ trivial fh)) (by kernel_rfl)
def g_program_IndexOf_n1(N:Nat)(v1:List ByteArray)(v2:List cF)(v3:List cq)(v4:Nat)(v5:List ByteArray)(v6:ByteArray)(v7:List aL):Option Int:=
 Option.bind (GN N v4 v7 v6) fun v8=>
 some v8
theorem Yb(N:Nat)(v1:List ByteArray)(v2:List cF)(v3:List cq)(v4:Nat)(v5:List ByteArray)(v6:ByteArray)(v7:List aL)(r:Int)(J:g_program_IndexOf_n1 N v1 v2 v3 v4 v5 v6 v7=some r):bW Tryz.prog 16 [(.agg [(.d (.sl (ax v1))),(.d (.sl (bJ v2))),(.d (.sl (bN v3))),(.vec 0 0 v4 v4 22),(.d (.sl (ax v5)))]),(bq v6)] [.vec 54 22 (aK (v7.map cw))] fun r1 h1=>r1=(an r)∧h1=[.vec 54 22 (aK (v7.map cw))]:=by
 rw[g_program_IndexOf_n1]at J;refine sK 1 Tryz.func16 rfl (by kernel_rfl) (agB rfl) ?_;refine lS (s':=⟨9,[(0,(.agg [(.d (.sl (ax v1))),(.d (.sl (bJ v2))),(.d (.sl (bN v3))),(.vec 0 0 v4 v4 22),(.d (.sl (ax v5)))])),(1,(bq v6))],[.vec 54 22 (aK (v7.map cw))]⟩) (by kernel_rfl) ?_;refine aN ?_;refine rg [] [(2,(.ptr 1 0)),(3,(.ptr 2 0))] [.vec 54 22 (aK (v7.map cw)), .cells [(.d (.sl (ax v1))),(.d (.sl (bJ v2))),(.d (.sl (bN v3))),(.vec 0 0 v4 v4 22),(.d (.sl (ax v5)))], .cells [(bq v6)]] (by kernel_rfl) ?_;refine aN ?_;obtain⟨v8,h1,J⟩:=ar J;refine rg [(10,⟨_,_, .l7 (kF (xs:=(v7.map cw)) (yq hX)) (kF (xs:=(v7.map cw)) (yq hX)) (db:=[(.vec 0 0 v4 v4 22),(.fn 46 [(.ptr 2 0)])]) (h:=[.vec 54 22 (aK (v7.map cw)), .cells [(.d (.sl (ax v1))),(.d (.sl (bJ v2))),(.d (.sl (bN v3))),(.vec 0 0 v4 v4 22),(.d (.sl (ax v5)))], .cells [(bq v6)]]) (l:=[0,2]) (by kernel_rfl) (by kernel_rfl) (by kernel_rfl) (by kernel_rfl) (afF N v4 v7 v6 v8 h1)⟩)] [(4,(an v8))] [.vec 54 22 (aK (v7.map cw)), .cells [(.d (.sl (ax v1))),(.d (.sl (bJ v2))),(.d (.sl (bN v3))),(.vec 0 0 v4 v4 22),(.d (.sl (ax v5)))], .cells [(bq v6)]] (by kernel_rfl) ?_;refine dM ?_;have hr:=agM J;subst hr;exact lX (gb (xs:=(v7.map cw)) fh) (by kernel_rfl)
def L3(N:Nat)(v1:List bk)(v2:List ay):Option ((List bk)×(List ay)):=
 some (v1,v2)
theorem Xr(N:Nat)(v1:List bk)(v2:List ay)(r:(List bk)×(List ay))(J:L3 N v1 v2=some r):bW Tryz.prog 56 [(.d (.sl (cy v1))),(.d (.sl (bM v2)))] [] fun r1 h1=>r1=(.fn 88 [(.bn [[(.sl (cy r.1))]] 0 0),(.bn [[(.sl (bM r.2))]] 0 0)])∧h1=[]:=by
 rw[L3]at J;refine BX 0 Tryz.func56 rfl (by kernel_rfl) (agB rfl) ?_;refine lS (s':=⟨6,[(0,(.d (.sl (cy v1)))),(1,(.d (.sl (bM v2))))],[]⟩) (by kernel_rfl) ?_;refine aN ?_;refine rg [] [(2,(.ptr 0 0)),(3,(.ptr 1 0))] [.cells [(.d (.sl (cy v1)))], .cells [(.d (.sl (bM v2)))]] (by kernel_rfl) ?_;refine aN ?_;refine rg [] [(4,(.fn 88 [(.ptr 0 0),(.ptr 1 0)]))] [.cells [(.d (.sl (cy v1)))], .cells [(.d (.sl (bM v2)))]] (by kernel_rfl) ?_;refine gP [4] 2 (agB rfl) (s':=⟨6,[(4,(.fn 88 [(.ptr 0 0),(.ptr 1 0)]))],[.cells [(.d (.sl (cy v1)))], .cells [(.d (.sl (bM v2)))]]⟩) (by kernel_rfl) ?_;refine Ox 0 (s':=⟨6,[(4,(.fn 88 [(.bn [[(.sl (cy v1))]] 0 0),(.ptr 1 0)]))],[.gone, .cells [(.d (.sl (bM v2)))]]⟩) (by kernel_rfl) ?_;refine Ox 1 (s':=⟨6,[(4,(.fn 88 [(.bn [[(.sl (cy v1))]] 0 0),(.bn [[(.sl (bM v2))]] 0 0)]))],[.gone, .gone]⟩) (by kernel_rfl) ?_;refine dM ?_;have hr:=agM J;subst hr;exact A0 (by kernel_rfl)
def MG(N:Nat)(v1:Int64):Option aw:=
 some (⟨v1,[]⟩:aw)
theorem acP(N:Nat)(v1:Int64)(r:aw)(J:MG N v1=some r):bm Tryz.prog 89 [(bt v1)] (·=(b9 r)):=by
 rw[MG]at J;refine bK Tryz.func89 (by kernel_rfl) (by kernel_rfl) ?_;obtain rfl:=sj J;exact wr ai [[],[]]
def HX(N:Nat)(v1:ByteArray):Option aw:=
 Option.bind (y6 N v1) fun v2=>
 bif v2 then
  some (⟨(0:Int64),[(⟨v1,(1:Int64)⟩:aF)]⟩:aw)
 else
  some dV
theorem adj(N:Nat)(v1:ByteArray)(r:aw)(J:HX N v1=some r):bm Tryz.prog 90 [(bq v1)] (·=(b9 r)):=by
 rw[HX]at J;refine bK Tryz.func90 (by kernel_rfl) (by kernel_rfl) ?_;obtain⟨v2,h1,J⟩:=ar J;refine au ai [[],[(4,cL (AQ N v1 v2 h1))]] ?_;refine bc J (fun h2 J=> ?_) fun h2 J=> ?_
 ·obtain rfl:=sj J;exact wr ai [[(0,bF (cG h2))],[]]
 obtain rfl:=sj J;exact wr ai [[(0,bT (cT h2))],[]]
def Hn(N:Nat)(v1:bk)(v2:aF):Option Bool:=
 some (bL v1.aq==bL v2.aq)
theorem adz(N:Nat)(v1:bk)(v2:aF)(r:Bool)(J:Hn N v1 v2=some r):bW Tryz.prog 92 [(DJ v1),(.ptr 0 0)] [.cells (oT v2).cells] fun r1 h1=>r1=(aM r)∧h1=[.cells (oT v2).cells]:=by
 rw[Hn]at J;refine fy 1 Tryz.func92 (by kernel_rfl) (by kernel_rfl) (agB rfl) ?_;obtain rfl:=sj J;exact cQ ai [[],[]]
def tL(N:Nat)(v2:aF):List bk→Nat→Option Int
 |[],_=>
  some (-1:Int)
 |v5::v6,v3=>
  Option.bind (Hn N v5 v2) fun v7=>
  bif v7 then
   some (v3:Int)
  else
   (tL N v2 v6 (v3+1))
def Gy(N:Nat)(v1:List bk)(v2:aF):Option Int:=
 tL N v2 v1 0
theorem ac6(N:Nat)(v1:List bk)(v2:aF)(r:Int)(J:Gy N v1 v2=some r):bW Tryz.prog 91 [(.d (.sl (cy v1))),(.fn 92 [(.ptr 0 0)])] [.cells (oT v2).cells] fun r1 h1=>r1=(an r)∧h1=[.cells (oT v2).cells]:=by
 rw[Gy]at J;refine fy 1 Tryz.func91 (by kernel_rfl) (by kernel_rfl) (agB rfl) ?_;refine au ai [[],[(4,oL v1 bV)]] ?_;refine dP 0 (cy v1) (by kernel_rfl) fun h1=> ?_;have h2:=cr bV h1;refine cC ai 1 [] [0,1,7,8] 1 (fun((v3,v4):Nat×(List bk))=>⟨19,[(0,(.d (.sl (cy v1)))),(1,(.fn 92 [(.ptr 0 0)])),(7,(an (v1.length:Int))),(8,(an (v3:Int)))],[.cells (oT v2).cells]⟩) (fun((v3,v4):Nat×(List bk))=>v1.drop v3=v4∧tL N v2 v4 v3=some r) (fun((v3,v4):Nat×(List bk))=>v4.length) (0,v1) ⟨rfl,J⟩ ?_;rintro⟨v3,v4⟩ ⟨h3,J⟩ f1 aV;cases v4 with
 |nil=>
  rw[tL]at J;obtain rfl:=sj J;exact cQ ai [[],[(0,bF (bS h3))],[]]
 |cons v5 v6=>
  rw[tL]at J;obtain⟨v7,h4,J⟩:=ar J;refine au ai [[],[(0,bT (bR h3))],[],[(10,oE (kg (bj h3))),(16,⟨_,_, .rq (db:=[(DJ v5),(.ptr 0 0)]) (h:=[.cells (oT v2).cells]) (l:=[0]) (by kernel_rfl) (by kernel_rfl) (by kernel_rfl) (by kernel_rfl) (adz N v5 v2 v7 h4)⟩)]] ?_;refine bc J (fun h5 J=> ?_) fun h5 J=> ?_
  ·obtain rfl:=sj J;exact cQ ai [[(0,bT h5)],[]]
  exact cx ai aV (v3+1,v6) [[(0,bF h5)],[(2,oq (b8 h3 rfl h2))]] ⟨b7 h3,J⟩
def zW(N:Nat)(v1:Int64):Option Int:=
 bif (decide (v1.toInt<(0:Int)))then
  some (IntKind.u64.wrap (0-(IntKind.u64.wrap v1.toInt)))
 else
  some (IntKind.u64.wrap v1.toInt)
theorem Oj(N:Nat)(v1:Int64)(r:Int)(J:zW N v1=some r):bm Tryz.prog 160 [(bt v1)] (·=(.d (.v (.int .u64 r)))):=by
 rw[zW]at J;refine bK Tryz.func160 (by kernel_rfl) (by kernel_rfl) ?_;refine au ai [[],[]] ?_;refine bc J (fun h1 J=> ?_) fun h1 J=> ?_
 ·obtain rfl:=sj J;exact wr ai [[(0,bT h1)],[]]
 obtain rfl:=sj J;exact wr ai [[(0,bF h1)],[]]
def CE(N:Nat)(v1:Int)(v2:Int):Option (Int×Int):=
 some ((IntKind.u64.wrap ((IntKind.u64.wrap ((IntKind.u64.wrap (((v1).fdiv (2^(min ((32:Int)).toNat (IntKind.bits .u64))))*((v2).fdiv (2^(min ((32:Int)).toNat (IntKind.bits .u64))))))+(((IntKind.u64.wrap ((IntKind.u64.wrap (((v1).fdiv (2^(min ((32:Int)).toNat (IntKind.bits .u64))))*(IntKind.u64.wrap ((BitVec.ofInt (IntKind.bits .u64) v2&&&BitVec.ofInt (IntKind.bits .u64) (4294967295:Int)).toNat:Int))))+(((IntKind.u64.wrap ((IntKind.u64.wrap ((BitVec.ofInt (IntKind.bits .u64) v1&&&BitVec.ofInt (IntKind.bits .u64) (4294967295:Int)).toNat:Int))*(IntKind.u64.wrap ((BitVec.ofInt (IntKind.bits .u64) v2&&&BitVec.ofInt (IntKind.bits .u64) (4294967295:Int)).toNat:Int))))).fdiv (2^(min ((32:Int)).toNat (IntKind.bits .u64))))))).fdiv (2^(min ((32:Int)).toNat (IntKind.bits .u64))))))+(((IntKind.u64.wrap ((IntKind.u64.wrap ((IntKind.u64.wrap ((BitVec.ofInt (IntKind.bits .u64) v1&&&BitVec.ofInt (IntKind.bits .u64) (4294967295:Int)).toNat:Int))*((v2).fdiv (2^(min ((32:Int)).toNat (IntKind.bits .u64))))))+(IntKind.u64.wrap ((BitVec.ofInt (IntKind.bits .u64) (IntKind.u64.wrap ((IntKind.u64.wrap (((v1).fdiv (2^(min ((32:Int)).toNat (IntKind.bits .u64))))*(IntKind.u64.wrap ((BitVec.ofInt (IntKind.bits .u64) v2&&&BitVec.ofInt (IntKind.bits .u64) (4294967295:Int)).toNat:Int))))+(((IntKind.u64.wrap ((IntKind.u64.wrap ((BitVec.ofInt (IntKind.bits .u64) v1&&&BitVec.ofInt (IntKind.bits .u64) (4294967295:Int)).toNat:Int))*(IntKind.u64.wrap ((BitVec.ofInt (IntKind.bits .u64) v2&&&BitVec.ofInt (IntKind.bits .u64) (4294967295:Int)).toNat:Int))))).fdiv (2^(min ((32:Int)).toNat (IntKind.bits .u64))))))&&&BitVec.ofInt (IntKind.bits .u64) (4294967295:Int)).toNat:Int))))).fdiv (2^(min ((32:Int)).toNat (IntKind.bits .u64)))))),(IntKind.u64.wrap (v1*v2)))
theorem aaC(N:Nat)(v1:Int)(v2:Int)(r:Int×Int)(J:CE N v1 v2=some r):bm Tryz.prog 159 [(.d (.v (.int .u64 v1))),(.d (.v (.int .u64 v2)))] (·=(.bX [(.d (.v (.int .u64 r.1))),(.d (.v (.int .u64 r.2)))])):=by
 rw[CE]at J;refine bK Tryz.func159 (by kernel_rfl) (by kernel_rfl) ?_;obtain rfl:=sj J;exact wr ai [[],[],[(4,⟨_,_, .nn (b:=(32:Int)) (by decide)⟩),(19,⟨_,_, .nn (b:=(32:Int)) (by decide)⟩)],[(10,⟨_,_, .nn (b:=(32:Int)) (by decide)⟩)],[(4,⟨_,_, .nn (b:=(32:Int)) (by decide)⟩),(10,⟨_,_, .nn (b:=(32:Int)) (by decide)⟩),(19,⟨_,_, .nn (b:=(32:Int)) (by decide)⟩),(28,⟨_,_, .nn (b:=(32:Int)) (by decide)⟩)]]
def yX(N:Nat)(v1:Int64)(v2:Int64):Option (Int64×Bool):=
 Option.bind (zW N v1) fun v3=>
 Option.bind (zW N v2) fun v4=>
 Option.bind (CE N v3 v4) fun v5=>
 Option.bind (bif (v5.1 !=(0:Int))then some true else(bif (decide (v5.2>(9223372036854775808:Int)))then some true else(bif (v5.2==(9223372036854775808:Int))then some (!(!((decide (v1.toInt<(0:Int)))==(decide (v2.toInt<(0:Int))))))else some false))) fun v6=>
 bif v6 then
  some ((0:Int64),false)
 else
  bif ((decide (v1.toInt<(0:Int)))==(decide (v2.toInt<(0:Int))))then
   some ((Int64.ofInt v5.2),true)
  else
   some ((Int64.ofInt (IntKind.u64.wrap (0-v5.2))),true)
theorem Pk(N:Nat)(v1:Int64)(v2:Int64)(r:Int64×Bool)(J:yX N v1 v2=some r):bm Tryz.prog 125 [(bt v1),(bt v2)] (·=(.bX [(bt r.1),(aM r.2)])):=by
 rw[yX]at J;refine bK Tryz.func125 (by kernel_rfl) (by kernel_rfl) ?_;obtain⟨v3,h1,J⟩:=ar J;obtain⟨v4,h2,J⟩:=ar J;obtain⟨v5,h3,J⟩:=ar J;refine au ai [[],[(4,cL (Oj N v1 v3 h1)),(10,cL (Oj N v2 v4 h2)),(13,cL (aaC N v3 v4 v5 h3))],[]] ?_;obtain⟨v6,h7,J⟩:=ar J;refine cN ai [(22,(aM v6))] [] ?_ ?_
 ·refine bc h7 (fun h4 h7=> ?_) fun h4 h7=> ?_
  ·obtain rfl:=sj h7;exact⟨so (os [9,12,16] (bT h4) (os [21,24,27,36,40] (bT rfl) (os [30,33] uN []))),by kernel_rfl⟩
  refine bc h7 (fun h5 h7=> ?_) fun h5 h7=> ?_
  ·obtain rfl:=sj h7;exact⟨so (os [9,12,16] (bF h4) (os [21,24,27,36,40] (bT h5) (os [30,33] uN []))),by kernel_rfl⟩
  refine bc h7 (fun h6 h7=> ?_) fun h6 h7=> ?_
  ·obtain rfl:=sj h7;exact⟨so (os [9,12,16] (bF h4) (os [21,24,27,36,40] (bF h5) (os [30,33,37] (bT h6) []))),by kernel_rfl⟩
  obtain rfl:=sj h7;exact⟨so (os [9,12,16] (bF h4) (os [21,24,27,36,40] (bF h5) (os [30,33,37] (bF h6) []))),by kernel_rfl⟩
 refine bc J (fun h8 J=> ?_) fun h8 J=> ?_
 ·obtain rfl:=sj J;exact wr ai [[(0,bT h8)],[]]
 refine au ai [[(0,bF h8)],[]] ?_;refine bc J (fun h9 J=> ?_) fun h9 J=> ?_
 ·obtain rfl:=sj J;exact wr ai [[(0,bF (cG h9))],[(5,⟨_,_, .eq (nw v5.2)⟩)]]
 obtain rfl:=sj J;exact wr ai [[(0,bT (cT h9))],[(8,⟨_,_, .eq (nw (IntKind.u64.wrap (0-v5.2)))⟩)]]
def tg(N:Nat)(v4:Int64×Bool)(v2:Int64):List aF→Nat→Bool→(List aF)→Option (aw×Int)
 |[],_,v9,v10=>
  bif v9 then
   some ((⟨v4.1,v10⟩:aw),(0:Int))
  else
   some (dV,(3:Int))
 |v7::v8,v5,v9,v10=>
  Option.bind (yX N v7.dq v2) fun v11=>
  Option.bind (bif v9 then some v11.2 else some false) fun aC=>
  bif (Nat.ble ((v10.length+1)*24) 140737488355328)then
  (fun ck eQ=>tg N v4 v2 v8 (v5+1) ck eQ) aC (v10++[(⟨v7.aq,v11.1⟩:aF)])
  else none
def Ea(N:Nat)(v1:aw)(v2:Int64):Option (aw×Int):=
 Option.bind (qL N v1) fun v3=>
 bif (v3 !=(0:Int))then
  some (dV,(1:Int))
 else
  bif (v2.toInt==(0:Int))then
   some (dV,(0:Int))
  else
   Option.bind (yX N v1.xK v2) fun v4=>
   tg N v4 v2 v1.xL 0 v4.2 []
theorem aep(N:Nat)(v1:aw)(v2:Int64)(r:aw×Int)(J:Ea N v1 v2=some r):bm Tryz.prog 93 [(b9 v1),(bt v2)] (·=(.bX [(b9 r.1),(an r.2)])):=by
 rw[Ea]at J;refine bK Tryz.func93 (by kernel_rfl) (by kernel_rfl) ?_;obtain⟨v3,h1,J⟩:=ar J;refine au ai [[],[(4,cL (xM N v1 v3 h1))]] ?_;refine bc J (fun h2 J=> ?_) fun h2 J=> ?_
 ·obtain rfl:=sj J;exact wr ai [[(0,bT h2)],[]]
 refine au ai [[(0,bF h2)],[]] ?_;refine bc J (fun h3 J=> ?_) fun h3 J=> ?_
 ·obtain rfl:=sj J;exact wr ai [[(0,bT h3)],[]]
 obtain⟨v4,h4,J⟩:=ar J;refine au ai [[(0,bF h3)],[(10,cL (Pk N v1.xK v2 v4 h4))],[],[(7,oL v1.xL b6)]] ?_;refine nO 2 1 92 2 [] (.inr (by kernel_rfl)) ?_;refine dP 30 (bP v1.xL) (by kernel_rfl) fun h5=> ?_;have h6:=cr b6 h5;refine jQ ai 1 [] [1,4,7,8,30,31,32] 4 [] [(1,1)] (fun((v5,v6,v9,v10):Nat×(List aF)×Bool×(List aF))=>⟨61,[(1,(bt v2)),(4,(.ptr 1 0)),(7,(aM v9)),(8,(.ptr 2 0)),(30,(.d (.sl (bP v1.xL)))),(31,(an (v1.xL.length:Int))),(32,(an (v5:Int)))],[.cells (b9 v1).cells, .cells mB, .cells [(bt v4.1),(.own 3 (bP v10))], .front 92 2 v10.length]⟩) (fun((v5,v6,v9,v10):Nat×(List aF)×Bool×(List aF))=>v1.xL.drop v5=v6∧tg N v4 v2 v6 v5 v9 v10=some r) (fun((v5,v6,v9,v10):Nat×(List aF)×Bool×(List aF))=>v6.length) (0,v1.xL,v4.2,[]) ⟨rfl,J⟩ ?_;rintro⟨v5,v6,v9,v10⟩ ⟨h7,J⟩ f1 aV;cases v6 with
 |nil=>
  rw[tg]at J;refine au ai [[],[(0,bF (bS h7))],[]] ?_;refine bc J (fun h8 J=> ?_) fun h8 J=> ?_
  ·obtain rfl:=sj J;exact wr ai [[(0,bF (cG h8))],[]]
  obtain rfl:=sj J;exact wr ai [[(0,bT (cT h8))],[]]
 |cons v7 v8=>
  rw[tg]at J;obtain⟨v11,h9,J⟩:=ar J;refine au ai [[],[(0,bT (bR h7))],[(1,oE (fu (bj h7)))],[(10,cL (Pk N v7.dq v2 v11 h9))]] ?_;obtain⟨aC,aZ,J⟩:=ar J;refine cN ai [(7,(aM aC))] [.cells (b9 v1).cells, .cells mB, .cells [(bt v4.1),(.own 3 (bP v10))], .front 92 2 v10.length, .cells (oT v7).cells] ?_ ?_
  ·refine bc aZ (fun az aZ=> ?_) fun az aZ=> ?_
   ·obtain rfl:=sj aZ;exact⟨so (os [6,10] (bT az) []),by kernel_rfl⟩
   obtain rfl:=sj aZ;exact⟨so (os [6,10] (bF az) []),by kernel_rfl⟩
  obtain⟨bf,J⟩:=c8 J;exact iQ ai aV (v5+1,v8,aC,(v10++[(⟨v7.aq,v11.1⟩:aF)])) [[(22,⟨_,_, .app (xs:=bP v10) (ys:=bP [(⟨v7.aq,v11.1⟩:aF)]) (zs:=bP (v10++[(⟨v7.aq,v11.1⟩:aF)])) (n:=(v10++[(⟨v7.aq,v11.1⟩:aF)]).length) b6.symm l9 l9 (by rw[(b6 (l:=v10)),(b6 (l:=[(⟨v7.aq,v11.1⟩:aF)]))];exact(cY bf (by decide)).1) (by rw[(b6 (l:=v10)),(b6 (l:=[(⟨v7.aq,v11.1⟩:aF)]))];exact(cY bf (by decide)).2) EV (by first|(rw[(b6 (l:=v10)),(b6 (l:=[(⟨v7.aq,v11.1⟩:aF)]))];done)|(rw[(b6 (l:=v10)),(b6 (l:=[(⟨v7.aq,v11.1⟩:aF)]))];rfl)|(rw[(b6 (l:=v10)),(b6 (l:=[(⟨v7.aq,v11.1⟩:aF)])),agu];done)|(rw[(b6 (l:=v10)),(b6 (l:=[(⟨v7.aq,v11.1⟩:aF)])),agu];rfl)|(rw[(b6 (l:=v10)),(b6 (l:=[(⟨v7.aq,v11.1⟩:aF)])),agN]))⟩)],[(2,oq (b8 h7 rfl h6))]] ⟨b7 h7,J⟩
def yo(N:Nat)(v1:Int64)(v2:Int64):Option (Int64×Bool):=
 some ((v1+v2),((decide ((v1+v2).toInt>v1.toInt))==(decide (v2.toInt>(0:Int)))))
theorem Tf(N:Nat)(v1:Int64)(v2:Int64)(r:Int64×Bool)(J:yo N v1 v2=some r):bm Tryz.prog 126 [(bt v1),(bt v2)] (·=(.bX [(bt r.1),(aM r.2)])):=by
 rw[yo]at J;refine bK Tryz.func126 (by kernel_rfl) (by kernel_rfl) ?_;obtain rfl:=sj J;exact wr ai [[],[(8,⟨_,_, .eq (Jh v1 v2)⟩)],[]]
def uv(N:Nat)(v1:ByteArray)(v2:Int64)(v3:Int64)(v4:Bool)(v5:Int64)(v6:List aF):Option (Bool×(List aF)):=
 Option.bind (yo N v2 v3) fun v7=>
 Option.bind (bif v4 then some v7.2 else some false) fun v8=>
 bif (v7.1.toInt !=(0:Int))then
  bif (Nat.ble ((v6.length+1)*24) 140737488355328)then
  some (v8,(v6++[(⟨v1,v7.1⟩:aF)]))
  else none
 else
  some (v8,v6)
theorem Ji(N:Nat)(v1:ByteArray)(v2:Int64)(v3:Int64)(v4:Bool)(v5:Int64)(v6:List aF)(r:Bool×(List aF))(J:uv N v1 v2 v3 v4 v5 v6=some r):bW Tryz.prog 128 [(bq v1),(bt v2),(bt v3),(.ptr 0 0),(.ptr 1 0)] [.cells [(aM v4)], .cells [(bt v5),(.own 2 (bP v6))], .front 92 2 v6.length] fun r1 h1=>r1=(.bX [])∧h1=[.cells [(aM r.1)], .cells [(bt v5),(.own 2 (bP r.2))], .front 92 2 r.2.length]:=by
 rw[uv]at J;refine fy 3 Tryz.func128 (by kernel_rfl) (by kernel_rfl) (agB rfl) ?_;obtain⟨v7,h1,J⟩:=ar J;refine au ai [[(7,cL (Tf N v2 v3 v7 h1))]] ?_;obtain⟨v8,h3,J⟩:=ar J;refine cN ai [] [.cells [(aM v8)], .cells [(bt v5),(.own 2 (bP v6))], .front 92 2 v6.length] ?_ ?_
 ·refine bc h3 (fun h2 h3=> ?_) fun h2 h3=> ?_
  ·obtain rfl:=sj h3;exact⟨so (os [6,10] (bT h2) []),by kernel_rfl⟩
  obtain rfl:=sj h3;exact⟨so (os [6,10] (bF h2) []),by kernel_rfl⟩
 refine au ai [[]] ?_;refine bc J (fun h4 J=> ?_) fun h4 J=> ?_
 ·obtain⟨h5,J⟩:=c8 J;obtain rfl:=sj J;exact cQ ai [[(0,bT h4)],[(19,⟨_,_, .app (xs:=bP v6) (ys:=bP [(⟨v1,v7.1⟩:aF)]) (zs:=bP (v6++[(⟨v1,v7.1⟩:aF)])) (n:=(v6++[(⟨v1,v7.1⟩:aF)]).length) b6.symm l9 l9 (by rw[(b6 (l:=v6)),(b6 (l:=[(⟨v1,v7.1⟩:aF)]))];exact(cY h5 (by decide)).1) (by rw[(b6 (l:=v6)),(b6 (l:=[(⟨v1,v7.1⟩:aF)]))];exact(cY h5 (by decide)).2) EV (by first|(rw[(b6 (l:=v6)),(b6 (l:=[(⟨v1,v7.1⟩:aF)]))];done)|(rw[(b6 (l:=v6)),(b6 (l:=[(⟨v1,v7.1⟩:aF)]))];rfl)|(rw[(b6 (l:=v6)),(b6 (l:=[(⟨v1,v7.1⟩:aF)])),agu];done)|(rw[(b6 (l:=v6)),(b6 (l:=[(⟨v1,v7.1⟩:aF)])),agu];rfl)|(rw[(b6 (l:=v6)),(b6 (l:=[(⟨v1,v7.1⟩:aF)])),agN]))⟩)]]
 obtain rfl:=sj J;exact cQ ai [[(0,bF h4)]]
def lU(N:Nat)(v4:Int64):Nat→(List aF)→(List aF)→Bool→(List aF)→Option (Bool×(List aF))
 |0,_,_,_,_=>none
 |v5+1,v6,v7,v8,v9=>
  Option.bind (bif (decide ((v6.length:Int)>(0:Int)))then some true else some (decide ((v7.length:Int)>(0:Int)))) fun v10=>
  bif v10 then
   Option.bind (bif ((v7.length:Int)==(0:Int))then some true else(bif (decide ((v6.length:Int)>(0:Int)))then Option.bind (v6[0]?) fun v11=>
   Option.bind (v7[0]?) fun aC=>
   some (Op.bytesLess (bL v11.aq) (bL aC.aq))else some false)) fun aI=>
   bif aI then
    Option.bind (v6[0]?) fun aD=>
    Option.bind (uv N aD.aq aD.dq (0:Int64) v8 v4 v9) fun aP=>
    bif (decide (1≤v6.length))then
    (fun ck eQ np AO=>lU N v4 v5 ck eQ np AO) (v6.drop 1) v7 aP.1 aP.2
    else none
   else
    Option.bind (bif ((v6.length:Int)==(0:Int))then some true else Option.bind (v7[0]?) fun aW=>
    Option.bind (v6[0]?) fun aH=>
    some (Op.bytesLess (bL aW.aq) (bL aH.aq))) fun aU=>
    bif aU then
     Option.bind (v7[0]?) fun bU=>
     Option.bind (uv N bU.aq (0:Int64) bU.dq v8 v4 v9) fun v20=>
     bif (decide (1≤v7.length))then
     (fun ck eQ np AO=>lU N v4 v5 ck eQ np AO) v6 (v7.drop 1) v20.1 v20.2
     else none
    else
     Option.bind (v6[0]?) fun dF=>
     Option.bind (v7[0]?) fun dh=>
     Option.bind (uv N dF.aq dF.dq dh.dq v8 v4 v9) fun cz=>
     bif (decide (1≤v6.length))then
     bif (decide (1≤v7.length))then
     (fun ck eQ np AO=>lU N v4 v5 ck eQ np AO) (v6.drop 1) (v7.drop 1) cz.1 cz.2
     else none
     else none
  else
   some (v8,v9)
def GK(N:Nat)(v1:List aF)(v2:List aF)(v3:Bool)(v4:Int64):Option (Bool×(List aF)):=
 lU N v4 N v1 v2 v3 []
theorem adl(N:Nat)(v1:List aF)(v2:List aF)(v3:Bool)(v4:Int64)(r:Bool×(List aF))(J:GK N v1 v2 v3 v4=some r):bW Tryz.prog 127 [(.d (.sl (bP v1))),(.d (.sl (bP v2))),(.fn 128 [(.ptr 0 0),(.ptr 1 0)])] [.cells [(aM v3)], .cells [(bt v4),(.d (.v (.slice none 0 0)))]] fun r1 h1=>r1=(.bX [])∧h1=[.cells [(aM r.1)], .cells [(bt v4),(.own 2 (bP r.2))], .front 92 2 r.2.length]:=by
 rw[GK]at J;refine fy 3 Tryz.func127 (by kernel_rfl) (by kernel_rfl) (agB rfl) ?_;refine nO 1 1 92 2 [] (.inr (by kernel_rfl)) ?_;refine cC ai 1 [] [0,1,2] 3 (fun((v5,v6,v7,v8,v9):Nat×(List aF)×(List aF)×Bool×(List aF))=>⟨91,[(0,(.d (.sl (bP v6)))),(1,(.d (.sl (bP v7)))),(2,(.fn 128 [(.ptr 0 0),(.ptr 1 0)]))],[.cells [(aM v8)], .cells [(bt v4),(.own 2 (bP v9))], .front 92 2 v9.length]⟩) (fun((v5,v6,v7,v8,v9):Nat×(List aF)×(List aF)×Bool×(List aF))=>lU N v4 v5 v6 v7 v8 v9=some r) (fun((v5,v6,v7,v8,v9):Nat×(List aF)×(List aF)×Bool×(List aF))=>v5) (N,v1,v2,v3,[]) J ?_;rintro⟨v5,v6,v7,v8,v9⟩ J f1 aV
 try dsimp only at J
 cases v5 with
 |zero=>
  rw[lU]at J;cases J
 |succ v5=>
  rw[lU]at J;obtain⟨v10,h2,J⟩:=ar J;refine cN ai [(13,(aM v10))] [.cells [(aM v8)], .cells [(bt v4),(.own 2 (bP v9))], .front 92 2 v9.length] ?_ ?_
  ·refine bc h2 (fun h1 h2=> ?_) fun h1 h2=> ?_
   ·obtain rfl:=sj h2;exact⟨so (os [12,15,18,22] (bT h1) [(4,oL v6 b6)]),by kernel_rfl⟩
   obtain rfl:=sj h2;exact⟨so (os [12,15,18,22] (bF h1) [(4,oL v6 b6),(16,oL v7 b6)]),by kernel_rfl⟩
  refine bc J (fun h3 J=> ?_) fun h3 J=> ?_
  ·refine au ai [[(0,bT h3)]] ?_;obtain⟨aI,h8,J⟩:=ar J;refine cN ai [(32,(aM aI))] [.cells [(aM v8)], .cells [(bt v4),(.own 2 (bP v9))], .front 92 2 v9.length] ?_ ?_
   ·refine bc h8 (fun h4 h8=> ?_) fun h4 h8=> ?_
    ·obtain rfl:=sj h8;exact⟨so (os [12,15,18,21,51,55] (bT h4) (os [24,27,30,33,36,39,42,45,48] uN [(4,oL v7 b6)])),by kernel_rfl⟩
    refine bc h8 (fun h5 h8=> ?_) fun h5 h8=> ?_
    ·obtain⟨v11,h6,h8⟩:=ar h8;obtain⟨aC,h7,h8⟩:=ar h8;obtain rfl:=sj h8;exact⟨so (os [12,15,18,21,51,55] (bF h4) (os [24,27,30,33,36,39,42,45,48,52] (bT h5) [(4,oL v7 b6),(16,oL v6 b6),(28,oE (k:=0) (fu h6)),(40,oE (k:=0) (fu h7))])),by kernel_rfl⟩
    obtain rfl:=sj h8;exact⟨so (os [12,15,18,21,51,55] (bF h4) (os [24,27,30,33,36,39,42,45,48,52] (bF h5) [(4,oL v7 b6),(16,oL v6 b6)])),by kernel_rfl⟩
   refine bc J (fun h9 J=> ?_) fun h9 J=> ?_
   ·refine au ai [[(0,bT h9)]] ?_;obtain⟨aD,az,J⟩:=ar J;obtain⟨aP,aZ,J⟩:=ar J;refine IZ ai [(7,oE (k:=0) (fu az)),(19,oE (k:=0) (fu az)),(28,⟨_,_, .jf (db:=[(bq aD.aq),(bt aD.dq),(bt (0:Int64)),(.ptr 0 0),(.ptr 1 0)]) (h:=[.cells [(aM v8)], .cells [(bt v4),(.own 2 (bP v9))], .front 92 2 v9.length]) (l:=[0,1,2]) (by kernel_rfl) (by kernel_rfl) (by kernel_rfl) (by kernel_rfl) (Ji N aD.aq aD.dq (0:Int64) v8 v4 v9 aP aZ)⟩)] [] [.cells [(aM aP.1)], .cells [(bt v4),(.own 2 (bP aP.2))], .front 92 2 aP.2.length] ?_;obtain⟨bf,J⟩:=c8 J;exact cx ai aV (v5,(v6.drop 1),v7,aP.1,aP.2) [[(4,⟨_,_, .Dq (xs:=bP v6) (lo:=(1:Int)) (by decide) (by rw[b6];exact(of_decide_eq_true bf)) l9 Fo⟩)]] J
   refine au ai [[(0,bF h9)]] ?_;obtain⟨aU,a9,J⟩:=ar J;refine cN ai [(64,(aM aU))] [.cells [(aM v8)], .cells [(bt v4),(.own 2 (bP v9))], .front 92 2 v9.length] ?_ ?_
   ·refine bc a9 (fun b5 a9=> ?_) fun b5 a9=> ?_
    ·obtain rfl:=sj a9;exact⟨so (os [12,15,18,21,24,27,30,33,36,40] (bT b5) [(4,oL v6 b6)]),by kernel_rfl⟩
    obtain⟨aW,a8,a9⟩:=ar a9;obtain⟨aH,bA,a9⟩:=ar a9;obtain rfl:=sj a9;exact⟨so (os [12,15,18,21,24,27,30,33,36,40] (bF b5) [(4,oL v6 b6),(16,oE (k:=0) (fu a8)),(28,oE (k:=0) (fu bA))]),by kernel_rfl⟩
   refine bc J (fun cv J=> ?_) fun cv J=> ?_
   ·refine au ai [[(0,bT cv)]] ?_;obtain⟨bU,bQ,J⟩:=ar J;obtain⟨v20,dk,J⟩:=ar J;refine IZ ai [(7,oE (k:=0) (fu bQ)),(19,oE (k:=0) (fu bQ)),(28,⟨_,_, .jf (db:=[(bq bU.aq),(bt (0:Int64)),(bt bU.dq),(.ptr 0 0),(.ptr 1 0)]) (h:=[.cells [(aM v8)], .cells [(bt v4),(.own 2 (bP v9))], .front 92 2 v9.length]) (l:=[0,1,2]) (by kernel_rfl) (by kernel_rfl) (by kernel_rfl) (by kernel_rfl) (Ji N bU.aq (0:Int64) bU.dq v8 v4 v9 v20 dk)⟩)] [] [.cells [(aM v20.1)], .cells [(bt v4),(.own 2 (bP v20.2))], .front 92 2 v20.2.length] ?_;obtain⟨dJ,J⟩:=c8 J;exact cx ai aV (v5,v6,(v7.drop 1),v20.1,v20.2) [[(4,⟨_,_, .Dq (xs:=bP v7) (lo:=(1:Int)) (by decide) (by rw[b6];exact(of_decide_eq_true dJ)) l9 Fo⟩)]] J
   refine au ai [[(0,bF cv)]] ?_;obtain⟨dF,eG,J⟩:=ar J;obtain⟨dh,fe,J⟩:=ar J;obtain⟨cz,fb,J⟩:=ar J;refine IZ ai [(7,oE (k:=0) (fu eG)),(19,oE (k:=0) (fu eG)),(31,oE (k:=0) (fu fe)),(40,⟨_,_, .jf (db:=[(bq dF.aq),(bt dF.dq),(bt dh.dq),(.ptr 0 0),(.ptr 1 0)]) (h:=[.cells [(aM v8)], .cells [(bt v4),(.own 2 (bP v9))], .front 92 2 v9.length]) (l:=[0,1,2]) (by kernel_rfl) (by kernel_rfl) (by kernel_rfl) (by kernel_rfl) (Ji N dF.aq dF.dq dh.dq v8 v4 v9 cz fb)⟩)] [] [.cells [(aM cz.1)], .cells [(bt v4),(.own 2 (bP cz.2))], .front 92 2 cz.2.length] ?_;obtain⟨eN,J⟩:=c8 J;obtain⟨fp,J⟩:=c8 J;exact cx ai aV (v5,(v6.drop 1),(v7.drop 1),cz.1,cz.2) [[(4,⟨_,_, .Dq (xs:=bP v6) (lo:=(1:Int)) (by decide) (by rw[b6];exact(of_decide_eq_true eN)) l9 Fo⟩),(10,⟨_,_, .Dq (xs:=bP v7) (lo:=(1:Int)) (by decide) (by rw[b6];exact(of_decide_eq_true fp)) l9 Fo⟩)]] J
  obtain rfl:=sj J;exact cQ ai [[(0,bF h3)]]
def z9(N:Nat)(v1:aw)(v2:aw):Option (aw×Int):=
 Option.bind (qL N v1) fun v3=>
 Option.bind (bif (v3 !=(0:Int))then some true else Option.bind (qL N v2) fun v4=>
 some (v4 !=(0:Int))) fun v5=>
 bif v5 then
  some (dV,(1:Int))
 else
  Option.bind (yo N v1.xK v2.xK) fun v6=>
  Option.bind (GK N v1.xL v2.xL v6.2 v6.1) fun v7=>
  bif v7.1 then
   some ((⟨v6.1,v7.2⟩:aw),(0:Int))
  else
   some (dV,(3:Int))
theorem aaO(N:Nat)(v1:aw)(v2:aw)(r:aw×Int)(J:z9 N v1 v2=some r):bm Tryz.prog 94 [(b9 v1),(b9 v2)] (·=(.bX [(b9 r.1),(an r.2)])):=by
 rw[z9]at J;refine bK Tryz.func94 (by kernel_rfl) (by kernel_rfl) ?_;refine au ai [[]] ?_;obtain⟨v3,h1,J⟩:=ar J;obtain⟨v5,h4,J⟩:=ar J;refine cN ai [(15,(aM v5))] [.cells (b9 v1).cells, .cells (b9 v2).cells, .cells mB] ?_ ?_
 ·refine bc h4 (fun h2 h4=> ?_) fun h2 h4=> ?_
  ·obtain rfl:=sj h4;exact⟨so (os [12,15,18,22] (bT h2) [(4,cL (xM N v1 v3 h1))]),by kernel_rfl⟩
  obtain⟨v4,h3,h4⟩:=ar h4;obtain rfl:=sj h4;exact⟨so (os [12,15,18,22] (bF h2) [(4,cL (xM N v1 v3 h1)),(16,cL (xM N v2 v4 h3))]),by kernel_rfl⟩
 refine bc J (fun h5 J=> ?_) fun h5 J=> ?_
 ·obtain rfl:=sj J;exact wr ai [[(0,bT h5)],[]]
 obtain⟨v6,h6,J⟩:=ar J;obtain⟨v7,h7,J⟩:=ar J;refine au ai [[(0,bF h5)],[],[],[(13,cL (Tf N v1.xK v2.xK v6 h6))],[(16,⟨_,_, .jf (db:=[(.d (.sl (bP v1.xL))),(.d (.sl (bP v2.xL))),(.fn 128 [(.ptr 4 0),(.ptr 3 0)])]) (h:=[.cells (b9 v1).cells, .cells (b9 v2).cells, .cells mB, .cells [(bt v6.1),(.d (.v (.slice none 0 0)))], .cells [(aM v6.2)]]) (l:=[4,3]) (by kernel_rfl) (by kernel_rfl) (by kernel_rfl) (by kernel_rfl) (adl N v1.xL v2.xL v6.2 v6.1 v7 h7)⟩)],[]] ?_;refine bc J (fun h8 J=> ?_) fun h8 J=> ?_
 ·obtain rfl:=sj J;exact wr ai [[(0,bF (cG h8))],[]]
 obtain rfl:=sj J;exact wr ai [[(0,bT (cT h8))],[]]
def uB(N:Nat)(v7:aF)(v9:Int64)(v10:List aF)(gB:Int64→(List aF)→Option (aw×Int))(aI:Int64)(aD:List aF):Option (aw×Int):=
 Option.bind (Ea N (⟨aI,aD⟩:aw) v7.dq) fun aP=>
 bif (aP.2 !=(0:Int))then
  some (dV,aP.2)
 else
  Option.bind (z9 N (⟨v9,v10⟩:aw) aP.1) fun aW=>
  bif (aW.2 !=(0:Int))then
   some (dV,aW.2)
  else
   gB aW.1.xK aW.1.xL
def o7(N:Nat)(v2:List bk)(v3:List ay):List aF→Nat→Int64→(List aF)→Option (aw×Int)
 |[],_,v9,v10=>
  some ((⟨v9,v10⟩:aw),(0:Int))
 |v7::v8,v5,v9,v10=>
  Option.bind (HX N v7.aq) fun v11=>
  Option.bind (Gy N v2 v7) fun aC=>
  bif (decide (aC≥(0:Int)))then
   bif (decide ((0:Int)≤aC))then
   Option.bind (v3[(aC).toNat]?) fun aH=>
   uB N v7 v9 v10 (fun ck eQ=>o7 N v2 v3 v8 (v5+1) ck eQ) aH.aQ.xK aH.aQ.xL
   else none
  else
   uB N v7 v9 v10 (fun ck eQ=>o7 N v2 v3 v8 (v5+1) ck eQ) v11.xK v11.xL
def zA(N:Nat)(v1:aw)(v2:List bk)(v3:List ay):Option (aw×Int):=
 Option.bind (MG N v1.xK) fun v4=>
 o7 N v2 v3 v1.xL 0 v4.xK v4.xL
theorem KY(N:Nat)(v1:aw)(v2:List bk)(v3:List ay)(r:aw×Int)(J:zA N v1 v2 v3=some r):bW Tryz.prog 88 [(b9 v1),(.bn [[(.sl (cy v2))]] 0 0),(.bn [[(.sl (bM v3))]] 0 0)] [] fun r1 h1=>r1=(.bX [(b9 r.1),(an r.2)])∧h1=[]:=by
 rw[zA]at J;refine fy 0 Tryz.func88 (by kernel_rfl) (by kernel_rfl) (agB rfl) ?_;obtain⟨v4,h1,J⟩:=ar J;refine au ai [[],[(7,cL (acP N v1.xK v4 h1))],[(7,oL v1.xL b6)]] ?_;refine dP 17 (bP v1.xL) (by kernel_rfl) fun h2=> ?_;have h3:=cr b6 h2;refine jQ ai 1 [] [1,2,4,6,17,18,19] 3 [] [(1,1)] (fun((v5,v6,v9,v10):Nat×(List aF)×Int64×(List aF))=>⟨59,[(1,(.bn [[(.sl (cy v2))]] 0 0)),(2,(.bn [[(.sl (bM v3))]] 0 0)),(4,(.ptr 1 0)),(6,(.ptr 2 0)),(17,(.d (.sl (bP v1.xL)))),(18,(an (v1.xL.length:Int))),(19,(an (v5:Int)))],[.cells (b9 v1).cells, .cells mB, .cells [(bt v9),(.d (.sl (bP v10)))]]⟩) (fun((v5,v6,v9,v10):Nat×(List aF)×Int64×(List aF))=>v1.xL.drop v5=v6∧o7 N v2 v3 v6 v5 v9 v10=some r) (fun((v5,v6,v9,v10):Nat×(List aF)×Int64×(List aF))=>v6.length) (0,v1.xL,v4.xK,v4.xL) ⟨rfl,J⟩ ?_;rintro⟨v5,v6,v9,v10⟩ ⟨h4,J⟩ f1 aV;cases v6 with
 |nil=>
  rw[o7]at J;obtain rfl:=sj J;exact cQ ai [[],[(0,bF (bS h4))],[]]
 |cons v7 v8=>
  rw[o7]at J;obtain⟨v11,h5,J⟩:=ar J;obtain⟨aC,h6,J⟩:=ar J;refine afi ai 2 [[],[(0,bT (bR h4))],[(1,oE (fu (bj h4)))],[(7,cL (adj N v7.aq v11 h5))],[(7,⟨_,_, .rq (db:=[(.d (.sl (cy v2))),(.fn 92 [(.ptr 3 0)])]) (h:=[.cells (b9 v1).cells, .cells mB, .cells [(bt v9),(.d (.sl (bP v10)))], .cells (oT v7).cells, .cells (b9 v11).cells]) (l:=[3]) (by kernel_rfl) (by kernel_rfl) (by kernel_rfl) (by kernel_rfl) (ac6 N v2 v7 aC h6)⟩)],[]] [1,2,4,6,8,9,17,18,19] 5 [] [(1,1)] (fun((aI,aD):Int64×(List aF))=>⟨59,[(1,(.bn [[(.sl (cy v2))]] 0 0)),(2,(.bn [[(.sl (bM v3))]] 0 0)),(4,(.ptr 1 0)),(6,(.ptr 2 0)),(8,(.ptr 3 0)),(9,(.ptr 4 0)),(17,(.d (.sl (bP v1.xL)))),(18,(an (v1.xL.length:Int))),(19,(an (v5:Int)))],[.cells (b9 v1).cells, .cells mB, .cells [(bt v9),(.d (.sl (bP v10)))], .cells (oT v7).cells, .cells [(bt aI),(.d (.sl (bP aD)))]]⟩) (fun((aI,aD):Int64×(List aF))=>uB N v7 v9 v10 (fun ck eQ=>o7 N v2 v3 v8 (v5+1) ck eQ) aI aD=some r) ?_ ?_
  ·intro f2 dX;refine bc J (fun aZ J=> ?_) fun aZ J=> ?_
   ·obtain⟨b5,J⟩:=c8 J;obtain⟨aH,bf,J⟩:=ar J;exact Ri ai dX (aH.aQ.xK,aH.aQ.xL) [[(0,bT aZ)],[(7,⟨_,_, .el (xs:=bM v3) (i:=aC) (of_decide_eq_true b5) (eM bf)⟩)]] J
   exact Ri ai dX (v11.xK,v11.xL) [[(0,bF aZ)]] J
  rintro⟨aI,aD⟩ J
  try dsimp only at J
  rw[uB]at J;obtain⟨aP,h7,J⟩:=ar J;refine au ai [[(10,cL (aep N (⟨aI,aD⟩:aw) v7.dq aP h7))],[]] ?_;refine bc J (fun h8 J=> ?_) fun h8 J=> ?_
  ·obtain rfl:=sj J;exact cQ ai [[(0,bT h8)],[]]
  obtain⟨aW,h9,J⟩:=ar J;refine au ai [[(0,bF h8)],[(7,cL (aaO N (⟨v9,v10⟩:aw) aP.1 aW h9))],[]] ?_;refine bc J (fun az J=> ?_) fun az J=> ?_
  ·obtain rfl:=sj J;exact cQ ai [[(0,bT az)],[]]
  exact iQ ai aV (v5+1,v8,aW.1.xK,aW.1.xL) [[(0,bF az)],[(2,oq (b8 h4 rfl h3))]] ⟨b7 h4,J⟩
def sP(N:Nat)(v8:List ay)(gB:(List ay)→Option ((List ay)×Int))(v9:aw×Int)(v6:ay)(v1:List bk)(v2:List ay):List aw→Nat→Int64→(List aF)→(List aw)→Option ((List ay)×Int)
 |[],_,_,_,aW=>
  bif (Nat.ble ((v8.length+1)*72) 140737488355328)then
  gB (v8++[(⟨v9.1,v6.bp,aW⟩:ay)])
  else none
 |aC::aI,v10,_,_,aW=>
  Option.bind (zA N aC v1 v2) fun aH=>
  bif (aH.2 !=(0:Int))then
   some ([],aH.2)
  else
   bif (Nat.ble ((aW.length+1)*32) 140737488355328)then
   (fun fS qe Zi=>sP N v8 gB v9 v6 v1 v2 aI (v10+1) fS qe Zi) aH.1.xK aH.1.xL (aW++[aH.1])
   else none
def pZ(N:Nat)(v1:List bk)(v2:List ay):List ay→Nat→(List ay)→Option ((List ay)×Int)
 |[],_,v8=>
  some (v8,(0:Int))
 |v6::v7,v4,v8=>
  Option.bind (zA N v6.aQ v1 v2) fun v9=>
  bif (v9.2 !=(0:Int))then
   some ([],v9.2)
  else
   sP N v8 (fun ck=>pZ N v1 v2 v7 (v4+1) ck) v9 v6 v1 v2 v6.bw 0 v9.1.xK v9.1.xL []
def C4(N:Nat)(v1:List bk)(v2:List ay)(v3:List ay):Option ((List ay)×Int):=
 pZ N v1 v2 v3 0 []
theorem Vj(N:Nat)(v1:List bk)(v2:List ay)(v3:List ay)(r:(List ay)×Int)(J:C4 N v1 v2 v3=some r):bW Tryz.prog 95 [(.fn 88 [(.bn [[(.sl (cy v1))]] 0 0),(.bn [[(.sl (bM v2))]] 0 0)]),(.d (.sl (bM v3)))] [] fun r1 h1=>r1=(.bX [(.d (.sl (bM r.1))),(an r.2)])∧h1=[]:=by
 rw[C4]at J;refine fy 0 Tryz.func95 (by kernel_rfl) (by kernel_rfl) (agB rfl) ?_;refine au ai [[],[],[(4,oL v3 cn)]] ?_;refine m8 6 80 4 [] (.inr (by kernel_rfl)) ?_;refine dP 1 (bM v3) (by kernel_rfl) fun h1=> ?_;have h2:=cr cn h1;refine cC ai 1 [] [0,6,14,15,16] 1 (fun((v4,v5,v8):Nat×(List ay)×(List ay))=>⟨63,[(0,(.fn 88 [(.bn [[(.sl (cy v1))]] 0 0),(.bn [[(.sl (bM v2))]] 0 0)])),(6,(.own 0 (bM v8))),(14,(.d (.sl (bM v3)))),(15,(an (v3.length:Int))),(16,(an (v4:Int)))],[.front 80 4 v8.length]⟩) (fun((v4,v5,v8):Nat×(List ay)×(List ay))=>v3.drop v4=v5∧pZ N v1 v2 v5 v4 v8=some r) (fun((v4,v5,v8):Nat×(List ay)×(List ay))=>v5.length) (0,v3,[]) ⟨rfl,J⟩ ?_;rintro⟨v4,v5,v8⟩ ⟨h3,J⟩ f1 aV;cases v5 with
 |nil=>
  rw[pZ]at J;obtain rfl:=sj J;exact cQ ai [[],[(0,bF (bS h3))],[]]
 |cons v6 v7=>
  rw[pZ]at J;obtain⟨v9,h4,J⟩:=ar J;refine au ai [[],[(0,bT (bR h3))],[(1,oE (eM (bj h3)))],[(10,⟨_,_, .rq (db:=[(b9 v6.aQ),(.bn [[(.sl (cy v1))]] 0 0),(.bn [[(.sl (bM v2))]] 0 0)]) (h:=[.front 80 4 v8.length, .cells (fX v6).cells]) (l:=[]) (by kernel_rfl) (by kernel_rfl) (by kernel_rfl) (by kernel_rfl) (KY N v6.aQ v1 v2 v9 h4)⟩)],[]] ?_;refine bc J (fun h5 J=> ?_) fun h5 J=> ?_
  ·obtain rfl:=sj J;exact cQ ai [[(0,bT h5)],[]]
  refine au ai [[(0,bF h5)],[],[(7,oL v6.bw bO)]] ?_;refine nO 3 3 48 2 [] (.inr (by kernel_rfl)) ?_;refine dP 35 (cS v6.bw) (by kernel_rfl) fun h6=> ?_;have h7:=cr bO h6;refine cC ai 2 [] [0,6,9,11,14,15,16,35,36,37] 5 (fun((v10,v11,aD,aP,aW):Nat×(List aw)×Int64×(List aF)×(List aw))=>⟨63,[(0,(.fn 88 [(.bn [[(.sl (cy v1))]] 0 0),(.bn [[(.sl (bM v2))]] 0 0)])),(6,(.own 0 (bM v8))),(9,(.ptr 2 0)),(11,(.ptr 3 0)),(14,(.d (.sl (bM v3)))),(15,(an (v3.length:Int))),(16,(an (v4:Int))),(35,(.d (.sl (cS v6.bw)))),(36,(an (v6.bw.length:Int))),(37,(an (v10:Int)))],[.front 80 4 v8.length, .cells (fX v6).cells, .cells [(bt aD),(.d (.sl (bP aP)))], .cells [(bt v9.1.xK),(.d (.sl (bP v9.1.xL))),(bq v6.bp),(.own 4 (cS aW))], .front 48 2 aW.length]⟩) (fun((v10,v11,aD,aP,aW):Nat×(List aw)×Int64×(List aF)×(List aw))=>v6.bw.drop v10=v11∧sP N v8 (fun ck=>pZ N v1 v2 v7 (v4+1) ck) v9 v6 v1 v2 v11 v10 aD aP aW=some r) (fun((v10,v11,aD,aP,aW):Nat×(List aw)×Int64×(List aF)×(List aw))=>v11.length) (0,v6.bw,v9.1.xK,v9.1.xL,[]) ⟨rfl,J⟩ ?_;rintro⟨v10,v11,aD,aP,aW⟩ ⟨h8,J⟩ f2 dX;cases v11 with
  |nil=>
   rw[sP]at J;obtain⟨h9,J⟩:=c8 J;exact cx ai aV (v4+1,v7,(v8++[(⟨v9.1,v6.bp,aW⟩:ay)])) [[],[(0,bF (bS h8))],[(10,⟨_,_, .app (xs:=bM v8) (ys:=bM [(⟨v9.1,v6.bp,aW⟩:ay)]) (zs:=bM (v8++[(⟨v9.1,v6.bp,aW⟩:ay)])) (n:=(v8++[(⟨v9.1,v6.bp,aW⟩:ay)]).length) cn.symm wP wP (by rw[(cn (l:=v8)),(cn (l:=[(⟨v9.1,v6.bp,aW⟩:ay)]))];exact(cY h9 (by decide)).1) (by rw[(cn (l:=v8)),(cn (l:=[(⟨v9.1,v6.bp,aW⟩:ay)]))];exact(cY h9 (by decide)).2) Ln (by first|(rw[(cn (l:=v8)),(cn (l:=[(⟨v9.1,v6.bp,aW⟩:ay)]))];done)|(rw[(cn (l:=v8)),(cn (l:=[(⟨v9.1,v6.bp,aW⟩:ay)]))];rfl)|(rw[(cn (l:=v8)),(cn (l:=[(⟨v9.1,v6.bp,aW⟩:ay)])),agu];done)|(rw[(cn (l:=v8)),(cn (l:=[(⟨v9.1,v6.bp,aW⟩:ay)])),agu];rfl)|(rw[(cn (l:=v8)),(cn (l:=[(⟨v9.1,v6.bp,aW⟩:ay)])),agN]))⟩)],[(2,oq (b8 h3 rfl h2))]] ⟨b7 h3,J⟩
  |cons aC aI=>
   rw[sP]at J;obtain⟨aH,az,J⟩:=ar J;refine au ai [[],[(0,bT (bR h8))],[(1,oE (jv (bj h8)))],[(7,⟨_,_, .rq (db:=[(b9 aC),(.bn [[(.sl (cy v1))]] 0 0),(.bn [[(.sl (bM v2))]] 0 0)]) (h:=[.front 80 4 v8.length, .cells (fX v6).cells, .cells [(bt aD),(.d (.sl (bP aP)))], .cells [(bt v9.1.xK),(.d (.sl (bP v9.1.xL))),(bq v6.bp),(.own 4 (cS aW))], .front 48 2 aW.length, .cells (b9 aC).cells]) (l:=[]) (by kernel_rfl) (by kernel_rfl) (by kernel_rfl) (by kernel_rfl) (KY N aC v1 v2 aH az)⟩)],[]] ?_;refine bc J (fun aZ J=> ?_) fun aZ J=> ?_
   ·obtain rfl:=sj J;exact cQ ai [[(0,bT aZ)],[]]
   obtain⟨bf,J⟩:=c8 J;exact cx ai dX (v10+1,aI,aH.1.xK,aH.1.xL,(aW++[aH.1])) [[(0,bF aZ)],[(13,⟨_,_, .app (xs:=cS aW) (ys:=cS [aH.1]) (zs:=cS (aW++[aH.1])) (n:=(aW++[aH.1]).length) bO.symm nC nC (by rw[(bO (l:=aW)),(bO (l:=[aH.1]))];exact(cY bf (by decide)).1) (by rw[(bO (l:=aW)),(bO (l:=[aH.1]))];exact(cY bf (by decide)).2) Eo (by first|(rw[(bO (l:=aW)),(bO (l:=[aH.1]))];done)|(rw[(bO (l:=aW)),(bO (l:=[aH.1]))];rfl)|(rw[(bO (l:=aW)),(bO (l:=[aH.1])),agu];done)|(rw[(bO (l:=aW)),(bO (l:=[aH.1])),agu];rfl)|(rw[(bO (l:=aW)),(bO (l:=[aH.1])),agN]))⟩)],[(2,oq (b8 h8 rfl h7))]] ⟨b7 h8,J⟩
def rG(N:Nat)(v3:ao)(v4:aw×Int)(v5:(List ay)×Int)(R6:(List bk)→(List ay)→ao→Option (ao×Int))(v1:List bk)(v2:List ay):List ao→Nat→(List ao)→Option (ao×Int)
 |[],_,v10=>
  some ((⟨v3.bg,v3.aq,v3.dK,v3.aB,v4.1,v5.1,v10⟩:ao),(0:Int))
 |v8::v9,v6,v10=>
  Option.bind (R6 v1 v2 v8) fun v11=>
  bif (v11.2 !=(0:Int))then
   some (fQ,v11.2)
  else
   bif (Nat.ble ((v10.length+1)*160) 140737488355328)then
   (fun ck=>rG N v3 v4 v5 R6 v1 v2 v9 (v6+1) ck) (v10++[v11.1])
   else none
def sk(N:Nat):Nat→(List bk)→(List ay)→ao→Option (ao×Int)
 |0,_,_,_=>none
 |d+1,v1,v2,v3=>
  Option.bind (zA N v3.aQ v1 v2) fun v4=>
  bif (v4.2 !=(0:Int))then
   some (fQ,v4.2)
  else
   Option.bind (C4 N v1 v2 v3.xIdx) fun v5=>
   bif (v5.2 !=(0:Int))then
    some (fQ,v5.2)
   else
    rG N v3 v4 v5 (sk N d) v1 v2 v3.aT 0 []
def Ga(N:Nat)(v1:List bk)(v2:List ay)(v3:ao):Option (ao×Int):=sk N N v1 v2 v3
theorem YL(N:Nat):∀d:Nat,(∀(v1:List bk)(v2:List ay)(v3:ao)(r:ao×Int),sk N d v1 v2 v3=some r→bW Tryz.prog 57 [(.fn 88 [(.bn [[(.sl (cy v1))]] 0 0),(.bn [[(.sl (bM v2))]] 0 0)]),(aE v3)] [] fun r1 h1=>r1=(.bX [(aE r.1),(an r.2)])∧h1=[]):=by
 intro d
 induction d with
 |zero=>intro v1 v2 v3 r J;rw[sk]at J;cases J
 |succ d ih=>
  have XN:=ih;intro v1 v2 v3 r J;rw[sk]at J;refine fy 0 Tryz.func57 (by kernel_rfl) (by kernel_rfl) (agB rfl) ?_;obtain⟨v4,h1,J⟩:=ar J;refine au ai [[],[],[(10,⟨_,_, .rq (db:=[(b9 v3.aQ),(.bn [[(.sl (cy v1))]] 0 0),(.bn [[(.sl (bM v2))]] 0 0)]) (h:=[.cells (aE v3).cells, .cells iz]) (l:=[]) (by kernel_rfl) (by kernel_rfl) (by kernel_rfl) (by kernel_rfl) (KY N v3.aQ v1 v2 v4 h1)⟩)],[]] ?_;refine bc J (fun h2 J=> ?_) fun h2 J=> ?_
  ·obtain rfl:=sj J;exact cQ ai [[(0,bT h2)],[]]
  obtain⟨v5,h3,J⟩:=ar J;refine au ai [[(0,bF h2)],[(10,⟨_,_, .rq (db:=[(.fn 88 [(.bn [[(.sl (cy v1))]] 0 0),(.bn [[(.sl (bM v2))]] 0 0)]),(.d (.sl (bM v3.xIdx)))]) (h:=[.cells (mn v3 [(bt v4.1.xK),(.d (.sl (bP v4.1.xL))),(.d (.sl (bM v3.xIdx))),(.d (.sl (cW v3.aT)))]), .cells iz]) (l:=[]) (by kernel_rfl) (by kernel_rfl) (by kernel_rfl) (by kernel_rfl) (Vj N v1 v2 v3.xIdx v5 h3)⟩)],[]] ?_;refine bc J (fun h4 J=> ?_) fun h4 J=> ?_
  ·obtain rfl:=sj J;exact cQ ai [[(0,bT h4)],[]]
  refine au ai [[(0,bF h4)],[],[(7,oL v3.aT ca)]] ?_;refine m8 7 52 13 [] (.inr (by kernel_rfl)) ?_;refine dP 37 (cW v3.aT) (by kernel_rfl) fun h5=> ?_;have h6:=cr ca h5;refine jQ ai 1 [] [0,3,4,7,37,38,39] 3 [] [(1,10),(1,11),(1,12)] (fun((v6,v7,v10):Nat×(List ao)×(List ao))=>⟨61,[(0,(.fn 88 [(.bn [[(.sl (cy v1))]] 0 0),(.bn [[(.sl (bM v2))]] 0 0)])),(3,(.ptr 0 0)),(4,(.ptr 1 0)),(7,(.own 2 (cW v10))),(37,(.d (.sl (cW v3.aT)))),(38,(an (v3.aT.length:Int))),(39,(an (v6:Int)))],[.cells (mn v3 [(bt v4.1.xK),(.d (.sl (bP v4.1.xL))),(.d (.sl (bM v5.1))),(.d (.sl (cW v3.aT)))]), .cells iz, .front 52 13 v10.length]⟩) (fun((v6,v7,v10):Nat×(List ao)×(List ao))=>v3.aT.drop v6=v7∧rG N v3 v4 v5 (sk N d) v1 v2 v7 v6 v10=some r) (fun((v6,v7,v10):Nat×(List ao)×(List ao))=>v7.length) (0,v3.aT,[]) ⟨rfl,J⟩ ?_;rintro⟨v6,v7,v10⟩ ⟨h7,J⟩ f1 aV;cases v7 with
  |nil=>
   rw[rG]at J;obtain rfl:=sj J;exact cQ ai [[],[(0,bF (bS h7))],[],[]]
  |cons v8 v9=>
   rw[rG]at J;obtain⟨v11,h8,J⟩:=ar J;refine au ai [[],[(0,bT (bR h7))],[(1,oE (jn (bj h7)))],[(7,⟨_,_, .rq (db:=[(.fn 88 [(.bn [[(.sl (cy v1))]] 0 0),(.bn [[(.sl (bM v2))]] 0 0)]),(aE v8)]) (h:=[.cells (mn v3 [(bt v4.1.xK),(.d (.sl (bP v4.1.xL))),(.d (.sl (bM v5.1))),(.d (.sl (cW v3.aT)))]), .cells iz, .front 52 13 v10.length, .cells (aE v8).cells]) (l:=[]) (by kernel_rfl) (by kernel_rfl) (by kernel_rfl) (by kernel_rfl) (XN v1 v2 v8 v11 h8)⟩)],[]] ?_;refine bc J (fun h9 J=> ?_) fun h9 J=> ?_
   ·obtain rfl:=sj J;exact cQ ai [[(0,bT h9)],[]]
   obtain⟨az,J⟩:=c8 J;exact iQ ai aV (v6+1,v9,(v10++[v11.1])) [[(0,bF h9)],[(8,⟨_,_, .eq (congrArg AV.full (kV [v11.1]).symm)⟩),(10,⟨_,_, .app (xs:=cW v10) (ys:=cW [v11.1]) (zs:=cW (v10++[v11.1])) (n:=(v10++[v11.1]).length) ca.symm pV pV (by rw[(ca (l:=v10)),(ca (l:=[v11.1]))];exact(cY az (by decide)).1) (by rw[(ca (l:=v10)),(ca (l:=[v11.1]))];exact(cY az (by decide)).2) GZ (by first|(rw[(ca (l:=v10)),(ca (l:=[v11.1]))];done)|(rw[(ca (l:=v10)),(ca (l:=[v11.1]))];rfl)|(rw[(ca (l:=v10)),(ca (l:=[v11.1])),agu];done)|(rw[(ca (l:=v10)),(ca (l:=[v11.1])),agu];rfl)|(rw[(ca (l:=v10)),(ca (l:=[v11.1])),agN]))⟩)],[(2,oq (b8 h7 rfl h6))]] ⟨b7 h7,J⟩
theorem XO(N:Nat)(v1:List bk)(v2:List ay)(v3:ao)(r:ao×Int)(J:Ga N v1 v2 v3=some r):bW Tryz.prog 57 [(.fn 88 [(.bn [[(.sl (cy v1))]] 0 0),(.bn [[(.sl (bM v2))]] 0 0)]),(aE v3)] [] fun r1 h1=>r1=(.bX [(aE r.1),(an r.2)])∧h1=[]:=(YL N N) v1 v2 v3 r J
def pI(N:Nat)(v1:ao)(SL:ao→aL→Option (ao×Int))(v2:aL):List ao→Nat→(List ao)→Option (ao×Int)
 |[],_,v10=>
  some ((⟨v1.bg,v1.aq,v1.dK,v1.aB,v1.aQ,v1.xIdx,v10⟩:ao),(0:Int))
 |v8::v9,v6,v10=>
  Option.bind (SL v8 v2) fun v11=>
  bif (v11.2 !=(0:Int))then
   some (fQ,v11.2)
  else
   bif (Nat.ble ((v10.length+1)*160) 140737488355328)then
   (fun ck=>pI N v1 SL v2 v9 (v6+1) ck) (v10++[v11.1])
   else none
def pa(N:Nat):Nat→ao→aL→Option (ao×Int)
 |0,_,_=>none
 |d+1,v1,v2=>
  Option.bind (bif (v1.bg==(3:Int))then some (bL v1.aq==bL v2.aq)else some false) fun v3=>
  bif v3 then
   Option.bind (L3 N v2.aJ v1.xIdx) fun v4=>
   Option.bind (Ga N v4.1 v4.2 v2.bE) fun v5=>
   some (v5.1,v5.2)
  else
   pI N v1 (pa N d) v2 v1.aT 0 []
def Ew(N:Nat)(v1:ao)(v2:aL):Option (ao×Int):=pa N N v1 v2
theorem ZT(N:Nat):∀d:Nat,(∀(v1:ao)(v2:aL)(r:ao×Int),pa N d v1 v2=some r→bm Tryz.prog 27 [(aE v1),(cE v2)] (·=(.bX [(aE r.1),(an r.2)]))):=by
 intro d
 induction d with
 |zero=>intro v1 v2 r J;rw[pa]at J;cases J
 |succ d ih=>
  have Ys:=ih;intro v1 v2 r J;rw[pa]at J;refine bK Tryz.func27 (by kernel_rfl) (by kernel_rfl) ?_;refine au ai [[]] ?_;obtain⟨v3,h2,J⟩:=ar J;refine cN ai [(20,(aM v3))] [.cells (aE v1).cells, .cells (cE v2).cells, .cells iz] ?_ ?_
  ·refine bc h2 (fun h1 h2=> ?_) fun h1 h2=> ?_
   ·obtain rfl:=sj h2;exact⟨so (os [12,15,18,21,24,28] (bT h1) []),by kernel_rfl⟩
   obtain rfl:=sj h2;exact⟨so (os [12,15,18,21,24,28] (bF h1) []),by kernel_rfl⟩
  refine bc J (fun h3 J=> ?_) fun h3 J=> ?_
  ·obtain⟨v4,h4,J⟩:=ar J;obtain⟨v5,h5,J⟩:=ar J;obtain rfl:=sj J;exact wr ai [[(0,bT h3)],[(13,⟨_,_, .rq (db:=[(.d (.sl (cy v2.aJ))),(.d (.sl (bM v1.xIdx)))]) (h:=[.cells (aE v1).cells, .cells (cE v2).cells, .cells iz]) (l:=[]) (by kernel_rfl) (by kernel_rfl) (by kernel_rfl) (by kernel_rfl) (Xr N v2.aJ v1.xIdx v4 h4)⟩),(22,⟨_,_, .rq (db:=[(.fn 88 [(.bn [[(.sl (cy v4.1))]] 0 0),(.bn [[(.sl (bM v4.2))]] 0 0)]),(aE v2.bE)]) (h:=[.cells (aE v1).cells, .cells (cE v2).cells, .cells iz]) (l:=[]) (by kernel_rfl) (by kernel_rfl) (by kernel_rfl) (by kernel_rfl) (XO N v4.1 v4.2 v2.bE v5 h5)⟩)]]
  refine au ai [[(0,bF h3)],[],[(7,oL v1.aT ca)]] ?_;refine m8 6 52 13 [] (.inr (by kernel_rfl)) ?_;refine dP 32 (cW v1.aT) (by kernel_rfl) fun h6=> ?_;have h7:=cr ca h6;refine jQ ai 1 [] [2,3,4,6,32,33,34] 4 [] [(2,10),(2,11),(2,12)] (fun((v6,v7,v10):Nat×(List ao)×(List ao))=>⟨56,[(2,(.ptr 0 0)),(3,(.ptr 1 0)),(4,(.ptr 2 0)),(6,(.own 3 (cW v10))),(32,(.d (.sl (cW v1.aT)))),(33,(an (v1.aT.length:Int))),(34,(an (v6:Int)))],[.cells (aE v1).cells, .cells (cE v2).cells, .cells iz, .front 52 13 v10.length]⟩) (fun((v6,v7,v10):Nat×(List ao)×(List ao))=>v1.aT.drop v6=v7∧pI N v1 (pa N d) v2 v7 v6 v10=some r) (fun((v6,v7,v10):Nat×(List ao)×(List ao))=>v7.length) (0,v1.aT,[]) ⟨rfl,J⟩ ?_;rintro⟨v6,v7,v10⟩ ⟨h8,J⟩ f1 aV;cases v7 with
  |nil=>
   rw[pI]at J;obtain rfl:=sj J;exact wr ai [[],[(0,bF (bS h8))],[],[]]
  |cons v8 v9=>
   rw[pI]at J;obtain⟨v11,h9,J⟩:=ar J;refine au ai [[],[(0,bT (bR h8))],[(1,oE (jn (bj h8)))],[(7,cL (Ys v8 v2 v11 h9))],[]] ?_;refine bc J (fun az J=> ?_) fun az J=> ?_
   ·obtain rfl:=sj J;exact wr ai [[(0,bT az)],[]]
   obtain⟨aZ,J⟩:=c8 J;exact iQ ai aV (v6+1,v9,(v10++[v11.1])) [[(0,bF az)],[(8,⟨_,_, .eq (congrArg AV.full (kV [v11.1]).symm)⟩),(10,⟨_,_, .app (xs:=cW v10) (ys:=cW [v11.1]) (zs:=cW (v10++[v11.1])) (n:=(v10++[v11.1]).length) ca.symm pV pV (by rw[(ca (l:=v10)),(ca (l:=[v11.1]))];exact(cY aZ (by decide)).1) (by rw[(ca (l:=v10)),(ca (l:=[v11.1]))];exact(cY aZ (by decide)).2) GZ (by first|(rw[(ca (l:=v10)),(ca (l:=[v11.1]))];done)|(rw[(ca (l:=v10)),(ca (l:=[v11.1]))];rfl)|(rw[(ca (l:=v10)),(ca (l:=[v11.1])),agu];done)|(rw[(ca (l:=v10)),(ca (l:=[v11.1])),agu];rfl)|(rw[(ca (l:=v10)),(ca (l:=[v11.1])),agN]))⟩)],[(2,oq (b8 h8 rfl h7))]] ⟨b7 h8,J⟩
theorem afS(N:Nat)(v1:ao)(v2:aL)(r:ao×Int)(J:Ew N v1 v2=some r):bm Tryz.prog 27 [(aE v1),(cE v2)] (·=(.bX [(aE r.1),(an r.2)])):=(ZT N N) v1 v2 r J
def GR(N:Nat)(v1:List aL)(v2:Int)(v3:Nat):Option (List aL):=bif Nat.beq v1.length v3&&(decide ((0:Int)≤v2)&&(Nat.blt v2.toNat v3&&Nat.blt v3 9223372036854775807))then some (v1.take v2.toNat++v1.drop (v2.toNat+1))else none
theorem afG(N:Nat)(v1:List aL)(v2:Int)(v3:Nat)(r:List aL)(J:GR N v1 v2 v3=some r):bW Tryz.prog 29 [(.vec 0 0 v3 v3 22),(an v2),(an (a7 (v2+(1:Int))))] [.vec 54 22 (aK (v1.map cw))] fun r1 h1=>r1=(.vec 0 0 (v3-1) v3 22)∧h1=[.vec 54 22 (aK (r.map cw)++[List.replicate 22 .dead])]:=by
 obtain⟨hb,rfl⟩:=cV J;simp only[agv]at hb;obtain⟨h1,h2,h3,h4⟩:=hb;have h1:=agH h1;have h2:=of_decide_eq_true h2;have h3:v2.toNat<v3:=agB h3;have h4:v3<9223372036854775807:=agB h4;have e3:a7 (v2+(1:Int))=((v2.toNat+1:Nat):Int):=by unfold a7;rw[IntKind.wrap_i64];omega
 have e4:((v2.toNat:Nat):Int)=v2:=Int.toNat_of_nonneg h2;have h:=ad8 (xs:=v1.map cw) h3 (by rw[agy];exact h1) (oY (fun _=>rfl) _);rw[abG,e4]at h;rw[e3];exact h
end Go.Proofs.YtphmhnabilhbgaaGreatDoor
