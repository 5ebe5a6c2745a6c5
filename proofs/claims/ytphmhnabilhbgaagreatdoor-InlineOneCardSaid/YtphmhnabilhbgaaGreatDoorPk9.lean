/-
  Part 9 of the proof: PQ1.
-/
import Derived.Test.YtphmhnabilhbgaaGreatDoorPk8
namespace Go.Proofs.YtphmhnabilhbgaaGreatDoor
open Go.RowKit
set_option maxRecDepth 100000
set_option maxHeartbeats 0
set_option linter.unusedVariables false
def E8:gj:=⟨(0:Int64),(0:Int64)⟩
def fD:bB:=⟨(0:Int),(0:Int),(0:Int),(0:Int),(0:Int)⟩
def dV:aw:=⟨(0:Int64),[]⟩
def iz:List AV:=[(an (0:Int)),(bq (bs [])),(bt (0:Int64)),(bt (0:Int64)),(an (0:Int)),(an (0:Int)),(an (0:Int)),(an (0:Int)),(an (0:Int)),(bt (0:Int64)),(.d (.v (.slice none 0 0))),(.d (.v (.slice none 0 0))),(.d (.v (.slice none 0 0)))]
def Qv(v:bB)(r:List AV):List AV:=(an v.cA)::(an v.cD)::(an v.dg)::(an v.de)::(an v.dc)::r
def dO(v:aY)(r:List AV):List AV:=(.d (.sl (ax v.bx)))::(.d (.sl (bJ v.cX)))::(.d (.sl (bN v.bu)))::(.d (.sl (cg v.aA)))::(.d (.sl (ax v.cU)))::r
def xr(N:Nat):List aw→Nat→Option Bool
 |[],_=>
  some false
 |v4::v5,v2=>
  bif (decide ((v4.xL.length:Int)>(20:Int)))then
   some true
  else
   (xr N v5 (v2+1))
def FW(N:Nat)(v1:List aw):Option Bool:=
 xr N v1 0
theorem V6(N:Nat)(v1:List aw)(r:Bool)(J:FW N v1=some r):bm Tryz.prog 19 [(.d (.sl (cS v1)))] (·=(aM r)):=by
 rw[FW]at J;refine bK Tryz.func19 (by kernel_rfl) (by kernel_rfl) ?_;refine au ai [[],[]] ?_;refine dP 0 (cS v1) (by kernel_rfl) fun h1=> ?_;have h2:=cr bO h1;refine cC ai 1 [] [0,3] 0 (fun((v2,v3):Nat×(List aw))=>⟨17,[(0,(.d (.sl (cS v1)))),(3,(an (v2:Int)))],[]⟩) (fun((v2,v3):Nat×(List aw))=>v1.drop v2=v3∧xr N v3 v2=some r) (fun((v2,v3):Nat×(List aw))=>v3.length) (0,v1) ⟨rfl,J⟩ ?_;rintro⟨v2,v3⟩ ⟨h3,J⟩ f1 aV;cases v3 with
 |nil=>
  rw[xr]at J;obtain rfl:=sj J;exact wr ai [[(7,oL v1 bO)],[(0,bF (bS h3))],[]]
 |cons v4 v5=>
  rw[xr]at J;refine au ai [[(7,oL v1 bO)],[(0,bT (bR h3))],[(7,oE (jv (bj h3))),(16,oL v4.xL b6)]] ?_;refine bc J (fun h4 J=> ?_) fun h4 J=> ?_
  ·obtain rfl:=sj J;exact wr ai [[(0,bT h4)],[]]
  exact cx ai aV (v2+1,v5) [[(0,bF h4)],[(5,oq (b8 h3 rfl h2))]] ⟨b7 h3,J⟩
def oR(N:Nat)(v2:Int)(qN:ao→Int→Option Int):List ao→Nat→Int→Option Int
 |[],_,aC=>
  some aC
 |v10::v11,v8,aC=>
  bif (decide (aC≤v2))then
   Option.bind (qN v10 (a7 (v2-aC))) fun aI=>
   (fun fS=>oR N v2 qN v11 (v8+1) fS) (a7 (aC+aI))
  else
   some aC
def vB(N:Nat)(gB:Int→Option Int)(v2:Int):List aw→Nat→Int→Option Int
 |[],_,aU=>
  gB aU
 |aW::aH,aD,aU=>
  bif (decide (aU≤v2))then
   (fun lD=>vB N gB v2 aH (aD+1) lD) (a7 (aU+(aW.xL.length:Int)))
  else
   gB aU
def pH(N:Nat)(v2:Int)(qN:ao→Int→Option Int):List ao→Nat→Int→Option Int
 |[],_,cz=>
  some cz
 |dF::dh,bU,cz=>
  bif (decide (cz≤v2))then
   Option.bind (qN dF (a7 (v2-cz))) fun cb=>
   (fun uM=>pH N v2 qN dh (bU+1) uM) (a7 (cz+cb))
  else
   some cz
def oc(N:Nat)(v2:Int)(qN:ao→Int→Option Int)(v1:ao):List ay→Nat→Int→Option Int
 |[],_,v7=>
  oR N v2 qN v1.aT 0 v7
 |v5::v6,v3,v7=>
  bif (decide (v7≤v2))then
   vB N (fun ck=>oc N v2 qN v1 v6 (v3+1) ck) v2 v5.bw 0 (a7 ((a7 (v7+(v5.aQ.xL.length:Int)))+(v5.bw.length:Int)))
  else
   pH N v2 qN v1.aT 0 v7
def mX(N:Nat):Nat→ao→Int→Option Int
 |0,_,_=>none
 |d+1,v1,v2=>
  oc N v2 (mX N d) v1 v1.xIdx 0 (a7 ((a7 ((1:Int)+(v1.aQ.xL.length:Int)))+(v1.xIdx.length:Int)))
def Mn(N:Nat)(v1:ao)(v2:Int):Option Int:=mX N N v1 v2
theorem VG(N:Nat):∀d:Nat,(∀(v1:ao)(v2:Int)(r:Int),mX N d v1 v2=some r→bm Tryz.prog 20 [(aE v1),(an v2)] (·=(an r))):=by
 intro d
 induction d with
 |zero=>intro v1 v2 r J;rw[mX]at J;cases J
 |succ d ih=>
  have Oc:=ih;intro v1 v2 r J;rw[mX]at J;refine bK Tryz.func20 (by kernel_rfl) (by kernel_rfl) ?_;refine au ai [[],[(10,oL v1.aQ.xL b6),(22,oL v1.xIdx cn)],[]] ?_;refine eo 0 11 (bM v1.xIdx) (by kernel_rfl) fun h1=> ?_;have h2:=cr cn h1;refine cC ai 1 [] [1,2,5,6] 1 (fun((v3,v4,v7):Nat×(List ay)×Int)=>⟨101,[(1,(an v2)),(2,(.ptr 0 0)),(5,(an v7)),(6,(an (v3:Int)))],[.cells (aE v1).cells]⟩) (fun((v3,v4,v7):Nat×(List ay)×Int)=>v1.xIdx.drop v3=v4∧oc N v2 (mX N d) v1 v4 v3 v7=some r) (fun((v3,v4,v7):Nat×(List ay)×Int)=>v4.length) (0,v1.xIdx,(a7 ((a7 ((1:Int)+(v1.aQ.xL.length:Int)))+(v1.xIdx.length:Int)))) ⟨rfl,J⟩ ?_;rintro⟨v3,v4,v7⟩ ⟨h3,J⟩ f1 aV;cases v4 with
  |nil=>
   rw[oc]at J;refine au ai [[(10,oL v1.xIdx cn),(18,bF (bS h3)),(21,bF (bS h3)),(24,bF (bS h3)),(28,bF (bS h3))],[(0,bF rfl)],[]] ?_;refine eo 0 12 (cW v1.aT) (by kernel_rfl) fun h4=> ?_;have h5:=cr ca h4;refine cC ai 2 [] [1,2,5,8] 1 (fun((v8,v9,aC):Nat×(List ao)×Int)=>⟨101,[(1,(an v2)),(2,(.ptr 0 0)),(5,(an aC)),(8,(an (v8:Int)))],[.cells (aE v1).cells]⟩) (fun((v8,v9,aC):Nat×(List ao)×Int)=>v1.aT.drop v8=v9∧oR N v2 (mX N d) v9 v8 aC=some r) (fun((v8,v9,aC):Nat×(List ao)×Int)=>v9.length) (0,v1.aT,v7) ⟨rfl,J⟩ ?_;rintro⟨v8,v9,aC⟩ ⟨h6,J⟩ f2 dX;cases v9 with
   |nil=>
    rw[oR]at J;obtain rfl:=sj J;exact wr ai [[(10,oL v1.aT ca),(18,bF (bS h6)),(21,bF (bS h6)),(24,bF (bS h6)),(28,bF (bS h6))],[(0,bF rfl)],[]]
   |cons v10 v11=>
    rw[oR]at J;refine au ai [[(10,oL v1.aT ca),(18,bT (bR h6)),(21,bT (bR h6)),(24,bT (bR h6)),(28,bT (bR h6))]] ?_;refine bc J (fun h7 J=> ?_) fun h7 J=> ?_
    ·obtain⟨aI,h8,J⟩:=ar J;exact cx ai dX (v8+1,v11,(a7 (aC+aI))) [[(0,bT h7)],[(13,oE (jn (bj h6))),(28,cL (Oc v10 (a7 (v2-aC)) aI h8))],[(5,oq (b8 h6 rfl h5))]] ⟨b7 h6,J⟩
    obtain rfl:=sj J;exact wr ai [[(0,bF h7)],[]]
  |cons v5 v6=>
   rw[oc]at J;refine au ai [[(10,oL v1.xIdx cn),(18,bT (bR h3)),(21,bT (bR h3)),(24,bT (bR h3)),(28,bT (bR h3))]] ?_;refine bc J (fun h9 J=> ?_) fun h9 J=> ?_
   ·refine au ai [[(0,bT h9)],[(13,oE (eM (bj h3))),(25,oL v5.aQ.xL b6),(40,oE (eM (bj h3))),(49,oL v5.bw bO)],[]] ?_;refine eo 0 11 (bM v1.xIdx) (by kernel_rfl) fun az=> ?_;have aZ:v5.bw.length≤maxLen:=by rw[←bO];exact rb (A2 (j:=3) (d:= .sl (cS v5.bw)) az (eM (bj h3)) rfl)
    refine cC ai 3 [] [1,2,5,6,7] 1 (fun((aD,aP,aU):Nat×(List aw)×Int)=>⟨101,[(1,(an v2)),(2,(.ptr 0 0)),(5,(an aU)),(6,(an (v3:Int))),(7,(an (aD:Int)))],[.cells (aE v1).cells]⟩) (fun((aD,aP,aU):Nat×(List aw)×Int)=>v5.bw.drop aD=aP∧vB N (fun ck=>oc N v2 (mX N d) v1 v6 (v3+1) ck) v2 aP aD aU=some r) (fun((aD,aP,aU):Nat×(List aw)×Int)=>aP.length) (0,v5.bw,(a7 ((a7 (v7+(v5.aQ.xL.length:Int)))+(v5.bw.length:Int)))) ⟨rfl,J⟩ ?_;rintro⟨aD,aP,aU⟩ ⟨bf,J⟩ f3 jA;cases aP with
    |nil=>
     rw[vB]at J;exact cx ai aV (v3+1,v6,aU) [[(13,oE (eM (bj h3))),(22,oL v5.bw bO),(30,bF (bS bf)),(33,bF (bS bf)),(36,bF (bS bf)),(40,bF (bS bf))],[(0,bF rfl)],[(5,oq (b8 h3 rfl h2))]] ⟨b7 h3,J⟩
    |cons aW aH=>
     rw[vB]at J;refine au ai [[(13,oE (eM (bj h3))),(22,oL v5.bw bO),(30,bT (bR bf)),(33,bT (bR bf)),(36,bT (bR bf)),(40,bT (bR bf))]] ?_;refine bc J (fun b5 J=> ?_) fun b5 J=> ?_
     ·exact cx ai jA (aD+1,aH,(a7 (aU+(aW.xL.length:Int)))) [[(0,bT b5)],[(13,oE (eM (bj h3))),(25,oE (jv (bj bf))),(34,oL aW.xL b6)],[(5,oq (b8 bf rfl aZ))]] ⟨b7 bf,J⟩
     exact cx ai aV (v3+1,v6,aU) [[(0,bF b5)],[(5,oq (b8 h3 rfl h2))]] ⟨b7 h3,J⟩
   refine au ai [[(0,bF h9)],[]] ?_;refine eo 0 12 (cW v1.aT) (by kernel_rfl) fun a8=> ?_;have bA:=cr ca a8;refine cC ai 4 [] [1,2,5,8] 1 (fun((bU,v20,cz):Nat×(List ao)×Int)=>⟨101,[(1,(an v2)),(2,(.ptr 0 0)),(5,(an cz)),(8,(an (bU:Int)))],[.cells (aE v1).cells]⟩) (fun((bU,v20,cz):Nat×(List ao)×Int)=>v1.aT.drop bU=v20∧pH N v2 (mX N d) v20 bU cz=some r) (fun((bU,v20,cz):Nat×(List ao)×Int)=>v20.length) (0,v1.aT,v7) ⟨rfl,J⟩ ?_;rintro⟨bU,v20,cz⟩ ⟨a9,J⟩ f4 nh;cases v20 with
   |nil=>
    rw[pH]at J;obtain rfl:=sj J;exact wr ai [[(10,oL v1.aT ca),(18,bF (bS a9)),(21,bF (bS a9)),(24,bF (bS a9)),(28,bF (bS a9))],[(0,bF rfl)],[]]
   |cons dF dh=>
    rw[pH]at J;refine au ai [[(10,oL v1.aT ca),(18,bT (bR a9)),(21,bT (bR a9)),(24,bT (bR a9)),(28,bT (bR a9))]] ?_;refine bc J (fun cv J=> ?_) fun cv J=> ?_
    ·obtain⟨cb,bQ,J⟩:=ar J;exact cx ai nh (bU+1,dh,(a7 (cz+cb))) [[(0,bT cv)],[(13,oE (jn (bj a9))),(28,cL (Oc dF (a7 (v2-cz)) cb bQ))],[(5,oq (b8 a9 rfl bA))]] ⟨b7 a9,J⟩
    obtain rfl:=sj J;exact wr ai [[(0,bF cv)],[]]
theorem Z0(N:Nat)(v1:ao)(v2:Int)(r:Int)(J:Mn N v1 v2=some r):bm Tryz.prog 20 [(aE v1),(an v2)] (·=(an r)):=(VG N N) v1 v2 r J
def uC(N:Nat)(aD:aL)(Sb:Option Bool):Nat→Int→Option Bool
 |0,_=>none
 |aU+1,bU=>
  bif (decide (bU<(a7 ((aD.aJ.length:Int)+(aD.bG.length:Int)))))then
   bif (Nat.ble ((0+aD.aJ.length)*48) 140737488355328)then
   bif (Nat.ble ((aD.aJ.length+aD.bG.length)*48) 140737488355328)then
   bif (decide ((0:Int)≤bU))then
   Option.bind ((aD.aJ++aD.bG)[(bU).toNat]?) fun v20=>
   bif (decide ((v20.dS.xL.length:Int)>(20:Int)))then
    some true
   else
    (fun uM=>uC N aD Sb aU uM) (a7 (bU+(1:Int)))
   else none
   else none
   else none
  else
   Sb
def si(N:Nat)(v2:Int):List aL→Nat→Option Bool
 |[],_=>
  some false
 |aD::aP,aC=>
  Option.bind (bif (decide ((aD.aJ.length:Int)>(12:Int)))then some true else(bif (decide ((aD.bG.length:Int)>(12:Int)))then some true else Option.bind (Mn N aD.bE v2) fun aW=>
  some (decide (aW>v2)))) fun aH=>
  bif aH then
   some true
  else
   uC N aD (si N v2 aP (aC+1)) N (0:Int)
def u7(N:Nat)(v2:Int)(v1:aY):List cq→Nat→Option Bool
 |[],_=>
  si N v2 v1.aA 0
 |v10::v11,v8=>
  Option.bind (bif (decide ((v10.aJ.length:Int)>(12:Int)))then some true else Option.bind (FW N v10.aJ) fun dF=>
  some dF) fun dh=>
  bif dh then
   some true
  else
   (u7 N v2 v1 v11 (v8+1))
def vy(N:Nat)(v2:Int)(v1:aY):List cF→Nat→Option Bool
 |[],_=>
  u7 N v2 v1 v1.bu 0
 |v6::v7,v4=>
  bif (decide ((v6.aQ.xL.length:Int)>(20:Int)))then
   some true
  else
   (vy N v2 v1 v7 (v4+1))
def Bv(N:Nat)(v1:aY)(v2:Int):Option Bool:=
 Option.bind (bif (decide ((v1.bx.length:Int)>(12:Int)))then some true else(bif (decide ((v1.cX.length:Int)>(12:Int)))then some true else(bif (decide ((v1.bu.length:Int)>(12:Int)))then some true else(bif (decide ((v1.aA.length:Int)>(12:Int)))then some true else some (decide ((v1.cU.length:Int)>(12:Int))))))) fun v3=>
 bif v3 then
  some true
 else
  vy N v2 v1 v1.cX 0
theorem TP(N:Nat)(v1:aY)(v2:Int)(r:Bool)(J:Bv N v1 v2=some r):bm Tryz.prog 6 [(aX v1),(an v2)] (·=(aM r)):=by
 rw[Bv]at J;refine bK Tryz.func6 (by kernel_rfl) (by kernel_rfl) ?_;refine au ai [[]] ?_;obtain⟨v3,h5,J⟩:=ar J;refine cN ai [(38,(aM v3))] [.cells (aX v1).cells] ?_ ?_
 ·refine bc h5 (fun h1 h5=> ?_) fun h1 h5=> ?_
  ·obtain rfl:=sj h5;exact⟨so (os [15,18,21,24,28] (bT h1) (os [33,36,39,42,46,51,54,57,60,64,69,72,75,78,82] (bT rfl) [(7,oL v1.bx bD)])),by kernel_rfl⟩
  refine bc h5 (fun h2 h5=> ?_) fun h2 h5=> ?_
  ·obtain rfl:=sj h5;exact⟨so (os [15,18,21,24,28] (bF h1) (os [33,36,39,42,46] (bT h2) (os [51,54,57,60,64,69,72,75,78,82] (bT rfl) [(7,oL v1.bx bD),(22,oL v1.cX fa)]))),by kernel_rfl⟩
  refine bc h5 (fun h3 h5=> ?_) fun h3 h5=> ?_
  ·obtain rfl:=sj h5;exact⟨so (os [15,18,21,24,28] (bF h1) (os [33,36,39,42,46] (bF h2) (os [51,54,57,60,64] (bT h3) (os [69,72,75,78,82] (bT rfl) [(7,oL v1.bx bD),(22,oL v1.cX fa),(40,oL v1.bu er)])))),by kernel_rfl⟩
  refine bc h5 (fun h4 h5=> ?_) fun h4 h5=> ?_
  ·obtain rfl:=sj h5;exact⟨so (os [15,18,21,24,28] (bF h1) (os [33,36,39,42,46] (bF h2) (os [51,54,57,60,64] (bF h3) (os [69,72,75,78,82] (bT h4) [(7,oL v1.bx bD),(22,oL v1.cX fa),(40,oL v1.bu er),(58,oL v1.aA dB)])))),by kernel_rfl⟩
  obtain rfl:=sj h5;exact⟨so (os [15,18,21,24,28] (bF h1) (os [33,36,39,42,46] (bF h2) (os [51,54,57,60,64] (bF h3) (os [69,72,75,78,82] (bF h4) [(7,oL v1.bx bD),(22,oL v1.cX fa),(40,oL v1.bu er),(58,oL v1.aA dB),(76,oL v1.cU bD)])))),by kernel_rfl⟩
 refine bc J (fun h6 J=> ?_) fun h6 J=> ?_
 ·obtain rfl:=sj J;exact wr ai [[(0,bT h6)],[]]
 refine au ai [[(0,bF h6)],[]] ?_;refine eo 0 1 (bJ v1.cX) (by kernel_rfl) fun h7=> ?_;have h8:=cr fa h7;refine cC ai 1 [] [1,2,5] 1 (fun((v4,v5):Nat×(List cF))=>⟨135,[(1,(an v2)),(2,(.ptr 0 0)),(5,(an (v4:Int)))],[.cells (aX v1).cells]⟩) (fun((v4,v5):Nat×(List cF))=>v1.cX.drop v4=v5∧vy N v2 v1 v5 v4=some r) (fun((v4,v5):Nat×(List cF))=>v5.length) (0,v1.cX) ⟨rfl,J⟩ ?_;rintro⟨v4,v5⟩ ⟨h9,J⟩ f1 aV;cases v5 with
 |nil=>
  rw[vy]at J;refine au ai [[(10,oL v1.cX fa)],[(0,bF (bS h9))],[]] ?_;refine eo 0 2 (bN v1.bu) (by kernel_rfl) fun az=> ?_;have aZ:=cr er az;refine cC ai 2 [] [1,2,6] 1 (fun((v8,v9):Nat×(List cq))=>⟨135,[(1,(an v2)),(2,(.ptr 0 0)),(6,(an (v8:Int)))],[.cells (aX v1).cells]⟩) (fun((v8,v9):Nat×(List cq))=>v1.bu.drop v8=v9∧u7 N v2 v1 v9 v8=some r) (fun((v8,v9):Nat×(List cq))=>v9.length) (0,v1.bu) ⟨rfl,J⟩ ?_;rintro⟨v8,v9⟩ ⟨bf,J⟩ f2 dX;cases v9 with
  |nil=>
   rw[u7]at J;refine au ai [[(10,oL v1.bu er)],[(0,bF (bS bf))],[]] ?_;refine eo 0 3 (cg v1.aA) (by kernel_rfl) fun b5=> ?_;have a8:=cr dB b5;refine cC ai 3 [] [1,2,7] 1 (fun((aC,aI):Nat×(List aL))=>⟨135,[(1,(an v2)),(2,(.ptr 0 0)),(7,(an (aC:Int)))],[.cells (aX v1).cells]⟩) (fun((aC,aI):Nat×(List aL))=>v1.aA.drop aC=aI∧si N v2 aI aC=some r) (fun((aC,aI):Nat×(List aL))=>aI.length) (0,v1.aA) ⟨rfl,J⟩ ?_;rintro⟨aC,aI⟩ ⟨bA,J⟩ f3 jA;cases aI with
   |nil=>
    rw[si]at J;obtain rfl:=sj J;exact wr ai [[(10,oL v1.aA dB)],[(0,bF (bS bA))],[]]
   |cons aD aP=>
    rw[si]at J;refine au ai [[(10,oL v1.aA dB)],[(0,bT (bR bA))],[(10,oE (gA (bj bA)))]] ?_;obtain⟨aH,dk,J⟩:=ar J;refine cN ai [(108,(aM aH))] [.cells (aX v1).cells, .cells (cE aD).cells] ?_ ?_
    ·refine bc dk (fun a9 dk=> ?_) fun a9 dk=> ?_
     ·obtain rfl:=sj dk;exact⟨so (os [15,18,21,24,28] (bT a9) (os [33,36,39,42,45,48,52] (bT rfl) [(7,oL aD.aJ bV)])),by kernel_rfl⟩
     refine bc dk (fun cv dk=> ?_) fun cv dk=> ?_
     ·obtain rfl:=sj dk;exact⟨so (os [15,18,21,24,28] (bF a9) (os [33,36,39,42,45,48,52] (bT cv) [(7,oL aD.aJ bV),(22,oL aD.bG bV)])),by kernel_rfl⟩
     obtain⟨aW,bQ,dk⟩:=ar dk;obtain rfl:=sj dk;exact⟨so (os [15,18,21,24,28] (bF a9) (os [33,36,39,42,45,48,52] (bF cv) [(7,oL aD.aJ bV),(22,oL aD.bG bV),(43,cL (Z0 N aD.bE v2 aW bQ))])),by kernel_rfl⟩
    refine bc J (fun dJ J=> ?_) fun dJ J=> ?_
    ·obtain rfl:=sj J;exact wr ai [[(0,bT dJ)],[]]
    refine cC ai 4 [[(0,bF dJ)],[]] [1,2,7,8,9] 2 (fun((aU,bU):Nat×Int)=>⟨135,[(1,(an v2)),(2,(.ptr 0 0)),(7,(an (aC:Int))),(8,(.ptr 1 0)),(9,(an bU))],[.cells (aX v1).cells, .cells (cE aD).cells]⟩) (fun((aU,bU):Nat×Int)=>uC N aD (si N v2 aP (aC+1)) aU bU=some r) (fun((aU,bU):Nat×Int)=>aU) (N,(0:Int)) J ?_;rintro⟨aU,bU⟩ J f4 nh
    try dsimp only at J
    cases aU with
    |zero=>
     rw[uC]at J;cases J
    |succ aU=>
     rw[uC]at J;refine au ai [[(10,oL aD.aJ bV),(19,oL aD.bG bV)]] ?_;refine bc J (fun eG J=> ?_) fun eG J=> ?_
     ·refine au ai [[(0,bT eG)]] ?_;obtain⟨fe,J⟩:=c8 J;obtain⟨fb,J⟩:=c8 J;obtain⟨fp,J⟩:=c8 J;obtain⟨v20,eN,J⟩:=ar J;refine S1 3 ai [(10,(.ptr 3 0))] [.cells (aX v1).cells, .cells (cE aD).cells, .front 64 3 (aD.aJ++aD.bG).length, .cells (DJ v20).cells] ⟨[(10,⟨_,_, .app (xs:=[]) (ys:=cy aD.aJ) (zs:=cy aD.aJ) (n:=aD.aJ.length) rfl (fun _ hc=>absurd hc ag9) oy (by rw[(show([]:List (List D)).length=0 from rfl),(bV (l:=aD.aJ))];exact(cY fe (by decide)).1) (by rw[(show([]:List (List D)).length=0 from rfl),(bV (l:=aD.aJ))];exact(cY fe (by decide)).2) rfl (by first|(rw[(show([]:List (List D)).length=0 from rfl),(bV (l:=aD.aJ))];done)|(rw[(show([]:List (List D)).length=0 from rfl),(bV (l:=aD.aJ))];rfl)|(rw[(show([]:List (List D)).length=0 from rfl),(bV (l:=aD.aJ)),agu];done)|(rw[(show([]:List (List D)).length=0 from rfl),(bV (l:=aD.aJ)),agu];rfl)|(rw[(show([]:List (List D)).length=0 from rfl),(bV (l:=aD.aJ)),agN]))⟩),(19,⟨_,_, .app (xs:=cy aD.aJ) (ys:=cy aD.bG) (zs:=cy (aD.aJ++aD.bG)) (n:=(aD.aJ++aD.bG).length) bV.symm oy oy (by rw[(bV (l:=aD.aJ)),(bV (l:=aD.bG))];exact(cY fb (by decide)).1) (by rw[(bV (l:=aD.aJ)),(bV (l:=aD.bG))];exact(cY fb (by decide)).2) EO (by first|(rw[(bV (l:=aD.aJ)),(bV (l:=aD.bG))];done)|(rw[(bV (l:=aD.aJ)),(bV (l:=aD.bG))];rfl)|(rw[(bV (l:=aD.aJ)),(bV (l:=aD.bG)),agu];done)|(rw[(bV (l:=aD.aJ)),(bV (l:=aD.bG)),agu];rfl)|(rw[(bV (l:=aD.aJ)),(bV (l:=aD.bG)),agN]))⟩),(25,⟨_,_, .el (xs:=cy (aD.aJ++aD.bG)) (i:=bU) (of_decide_eq_true fp) (kg eN)⟩)],by kernel_rfl⟩ ?_
      refine au ai [[(10,oL v20.dS.xL b6)]] ?_;refine bc J (fun h26 J=> ?_) fun h26 J=> ?_
      ·obtain rfl:=sj J;exact wr ai [[(0,bT h26)],[]]
      exact cx ai nh (aU,(a7 (bU+(1:Int)))) [[(0,bF h26)],[]] J
     exact cx ai jA (aC+1,aP) [[(0,bF eG)],[(5,oq (b8 bA rfl a8))]] ⟨b7 bA,J⟩
  |cons v10 v11=>
   rw[u7]at J;refine au ai [[(10,oL v1.bu er)],[(0,bT (bR bf))]] ?_;obtain⟨dh,j8,J⟩:=ar J;refine cN ai [(78,(aM dh))] [.cells (aX v1).cells] ?_ ?_
   ·refine bc j8 (fun jg j8=> ?_) fun jg j8=> ?_
    ·obtain rfl:=sj j8;exact⟨so (os [27,30,33,36,39,42,45,49] (bT jg) [(10,oE (kJ (bj bf))),(19,oL v10.aJ bO)]),by kernel_rfl⟩
    obtain⟨dF,lL,j8⟩:=ar j8;obtain rfl:=sj j8;exact⟨so (os [10,37] (oE (kJ (bj bf))) (os [27,30,33,36,39,42,45,49] (bF jg) [(19,oL v10.aJ bO),(46,cL (V6 N v10.aJ dF lL))])),by kernel_rfl⟩
   refine bc J (fun qh J=> ?_) fun qh J=> ?_
   ·obtain rfl:=sj J;exact wr ai [[(0,bT qh)],[]]
   exact cx ai dX (v8+1,v11) [[(0,bF qh)],[(5,oq (b8 bf rfl aZ))]] ⟨b7 bf,J⟩
 |cons v6 v7=>
  rw[vy]at J;refine au ai [[(10,oL v1.cX fa)],[(0,bT (bR h9))],[(10,oE (zQ (bj h9))),(22,oL v6.aQ.xL b6)]] ?_;refine bc J (fun DX J=> ?_) fun DX J=> ?_
  ·obtain rfl:=sj J;exact wr ai [[(0,bT DX)],[]]
  exact cx ai aV (v4+1,v7) [[(0,bF DX)],[(5,oq (b8 h9 rfl h8))]] ⟨b7 h9,J⟩
def Ia(N:Nat)(v1:ByteArray):Option aw:=
 some (⟨(0:Int64),[(⟨v1,(1:Int64)⟩:aF)]⟩:aw)
theorem Ru(N:Nat)(v1:ByteArray)(r:aw)(J:Ia N v1=some r):bm Tryz.prog 21 [(bq v1)] (·=(b9 r)):=by
 rw[Ia]at J;refine bK Tryz.func21 (by kernel_rfl) (by kernel_rfl) ?_;obtain rfl:=sj J;exact wr ai [[],[]]
def Bb(N:Nat)(v1:ByteArray):List aw→Nat→(List ay)→Option ao
 |[],_,v7=>
  some (⟨(3:Int),v1,E8,fD,dV,v7,[]⟩:ao)
 |v5::v6,v3,v7=>
  bif (Nat.ble ((v7.length+1)*72) 140737488355328)then
  (fun ck=>Bb N v1 v6 (v3+1) ck) (v7++[(⟨v5,(bs []),[]⟩:ay)])
  else none
def BE(N:Nat)(v1:ByteArray)(v2:List aw):Option ao:=
 Bb N v1 v2 0 []
theorem L4(N:Nat)(v1:ByteArray)(v2:List aw)(r:ao)(J:BE N v1 v2=some r):bm Tryz.prog 23 [(bq v1),(.d (.sl (cS v2)))] (·=(aE r)):=by
 rw[BE]at J;refine bK Tryz.func23 (by kernel_rfl) (by kernel_rfl) ?_;refine au ai [[],[],[]] ?_;refine nO 1 11 80 4 [] (.inr (by kernel_rfl)) ?_;refine dP 1 (cS v2) (by kernel_rfl) fun h1=> ?_;have h2:=cr bO h1;refine jQ ai 1 [] [1,4,5,6] 3 [] [(0,10),(0,11),(0,12),(1,10),(1,12)] (fun((v3,v4,v7):Nat×(List aw)×(List ay))=>⟨26,[(1,(.d (.sl (cS v2)))),(4,(.ptr 0 0)),(5,(.ptr 1 0)),(6,(an (v3:Int)))],[.cells iz, .cells [(an (3:Int)),(bq v1),(bt (0:Int64)),(bt (0:Int64)),(an (0:Int)),(an (0:Int)),(an (0:Int)),(an (0:Int)),(an (0:Int)),(bt (0:Int64)),(.d (.v (.slice none 0 0))),(.own 2 (bM v7)),(.d (.v (.slice none 0 0)))], .front 80 4 v7.length]⟩) (fun((v3,v4,v7):Nat×(List aw)×(List ay))=>v2.drop v3=v4∧Bb N v1 v4 v3 v7=some r) (fun((v3,v4,v7):Nat×(List aw)×(List ay))=>v4.length) (0,v2,[]) ⟨rfl,J⟩ ?_;rintro⟨v3,v4,v7⟩ ⟨h3,J⟩ f1 aV;cases v4 with
 |nil=>
  rw[Bb]at J;obtain rfl:=sj J;exact wr ai [[(7,oL v2 bO)],[(0,bF (bS h3))],[]]
 |cons v5 v6=>
  rw[Bb]at J;obtain⟨h4,J⟩:=c8 J;exact iQ ai aV (v3+1,v6,(v7++[(⟨v5,(bs []),[]⟩:ay)])) [[(7,oL v2 bO)],[(0,bT (bR h3))],[(13,oE (jv (bj h3))),(25,⟨_,_, .app (xs:=bM v7) (ys:=bM [(⟨v5,(bs []),[]⟩:ay)]) (zs:=bM (v7++[(⟨v5,(bs []),[]⟩:ay)])) (n:=(v7++[(⟨v5,(bs []),[]⟩:ay)]).length) cn.symm wP wP (by rw[(cn (l:=v7)),(cn (l:=[(⟨v5,(bs []),[]⟩:ay)]))];exact(cY h4 (by decide)).1) (by rw[(cn (l:=v7)),(cn (l:=[(⟨v5,(bs []),[]⟩:ay)]))];exact(cY h4 (by decide)).2) Ln (by first|(rw[(cn (l:=v7)),(cn (l:=[(⟨v5,(bs []),[]⟩:ay)]))];done)|(rw[(cn (l:=v7)),(cn (l:=[(⟨v5,(bs []),[]⟩:ay)]))];rfl)|(rw[(cn (l:=v7)),(cn (l:=[(⟨v5,(bs []),[]⟩:ay)])),agu];done)|(rw[(cn (l:=v7)),(cn (l:=[(⟨v5,(bs []),[]⟩:ay)])),agu];rfl)|(rw[(cn (l:=v7)),(cn (l:=[(⟨v5,(bs []),[]⟩:ay)])),agN]))⟩)],[(5,oq (b8 h3 rfl h2))]] ⟨b7 h3,J⟩
def Br(N:Nat)(v1:aw)(v2:Int)(v3:ByteArray)(v4:gj)(v5:bB)(v6:Int64):Option ao:=
 Option.bind (BE N (bs [97]) [v1]) fun v7=>
 some (⟨(4:Int),(bs []),E8,fD,dV,[],[v7,(⟨v2,v3,v4,v5,(⟨v6,[]⟩:aw),[],[]⟩:ao)]⟩:ao)
theorem Ch(N:Nat)(v1:aw)(v2:Int)(v3:ByteArray)(v4:gj)(v5:bB)(v6:Int64)(r:ao)(J:Br N v1 v2 v3 v4 v5 v6=some r):bW Tryz.prog 22 [(b9 v1),(.ptr 0 0)] [.cells ((an v2)::(bq v3)::(bt v4.xN)::(bt v4.xD)::Qv v5 [(bt v6),(.d (.sl [])),(.d (.sl [])),(.d (.sl []))])] fun r1 h1=>r1=(aE r)∧h1=[.cells ((an v2)::(bq v3)::(bt v4.xN)::(bt v4.xD)::Qv v5 [(bt v6),(.d (.sl [])),(.d (.sl [])),(.d (.sl []))])]:=by
 rw[Br]at J;refine fy 1 Tryz.func22 (by kernel_rfl) (by kernel_rfl) (agB rfl) ?_;obtain⟨v7,h1,J⟩:=ar J;obtain rfl:=sj J;exact cQ ai [[],[(7,cL (L4 N (bs [97]) [v1] v7 h1)),(14,⟨_,_, .eq (congrArg AV.full (kV [v7,(⟨v2,v3,v4,v5,(⟨v6,[]⟩:aw),[],[]⟩:ao)]).symm)⟩)]]
def EB(N:Nat)(v1:ao)(v2:ao):Option ao:=
 some (⟨(6:Int),(bs []),E8,fD,dV,[],[v1,v2]⟩:ao)
theorem Jw(N:Nat)(v1:ao)(v2:ao)(r:ao)(J:EB N v1 v2=some r):bm Tryz.prog 24 [(aE v1),(aE v2)] (·=(aE r)):=by
 rw[EB]at J;refine bK Tryz.func24 (by kernel_rfl) (by kernel_rfl) ?_;obtain rfl:=sj J;exact wr ai [[],[(8,⟨_,_, .eq (congrArg AV.full (kV [v1,v2]).symm)⟩)]]
def C9(N:Nat)(v1:aY):Option Bool:=
 Option.bind (bif (decide ((if(v1.cU.length:Int)>(if(v1.aA.length:Int)>(if(v1.bu.length:Int)>(v1.bx.length:Int)then(v1.bu.length:Int)else(v1.bx.length:Int))then(v1.aA.length:Int)else(if(v1.bu.length:Int)>(v1.bx.length:Int)then(v1.bu.length:Int)else(v1.bx.length:Int)))then(v1.cU.length:Int)else(if(v1.aA.length:Int)>(if(v1.bu.length:Int)>(v1.bx.length:Int)then(v1.bu.length:Int)else(v1.bx.length:Int))then(v1.aA.length:Int)else(if(v1.bu.length:Int)>(v1.bx.length:Int)then(v1.bu.length:Int)else(v1.bx.length:Int))))≤(64:Int)))then some (decide ((v1.cX.length:Int)≤(256:Int)))else some false) fun v2=>
 some v2
theorem VB(N:Nat)(v1:aY)(r:Bool)(J:C9 N v1=some r):bm Tryz.prog 59 [(aX v1)] (·=(aM r)):=by
 rw[C9]at J;refine bK Tryz.func59 (by kernel_rfl) (by kernel_rfl) ?_;refine au ai [[]] ?_;obtain⟨v2,h2,J⟩:=ar J;refine cN ai [(2,(aM v2))] [.cells (aX v1).cells] ?_ ?_
 ·refine bc h2 (fun h1 h2=> ?_) fun h1 h2=> ?_
  ·obtain rfl:=sj h2;exact⟨so (os [45,48,51,54,58] (bT h1) [(7,oL v1.bx bD),(16,oL v1.bu er),(25,oL v1.aA dB),(34,oL v1.cU bD),(52,oL v1.cX fa)]),by kernel_rfl⟩
  obtain rfl:=sj h2;exact⟨so (os [45,48,51,54,58] (bF h1) [(7,oL v1.bx bD),(16,oL v1.bu er),(25,oL v1.aA dB),(34,oL v1.cU bD)]),by kernel_rfl⟩
 obtain rfl:=sj J;exact wr ai []
def Ao(N:Nat)(v1:Int):Option Bool:=
 Option.bind (bif (decide (v1≥(97:Int)))then some (decide (v1≤(122:Int)))else some false) fun v2=>
 some v2
theorem Ae(N:Nat)(v1:Int)(r:Bool)(J:Ao N v1=some r):bm Tryz.prog 129 [(.d (.v (.int .i32 v1)))] (·=(aM r)):=by
 rw[Ao]at J;refine bK Tryz.func129 (by kernel_rfl) (by kernel_rfl) ?_;refine au ai [[]] ?_;obtain⟨v2,h2,J⟩:=ar J;refine cN ai [(2,(aM v2))] [] ?_ ?_
 ·refine bc h2 (fun h1 h2=> ?_) fun h1 h2=> ?_
  ·obtain rfl:=sj h2;exact⟨so (os [9,12,16] (bT h1) []),by kernel_rfl⟩
  obtain rfl:=sj h2;exact⟨so (os [9,12,16] (bF h1) []),by kernel_rfl⟩
 obtain rfl:=sj J;exact wr ai []
def Eg(N:Nat)(v1:Int):Option Bool:=
 Option.bind (bif (decide (v1≥(48:Int)))then some (decide (v1≤(57:Int)))else some false) fun v2=>
 some v2
theorem Su(N:Nat)(v1:Int)(r:Bool)(J:Eg N v1=some r):bm Tryz.prog 161 [(.d (.v (.int .i32 v1)))] (·=(aM r)):=by
 rw[Eg]at J;refine bK Tryz.func161 (by kernel_rfl) (by kernel_rfl) ?_;refine au ai [[]] ?_;obtain⟨v2,h2,J⟩:=ar J;refine cN ai [(2,(aM v2))] [] ?_ ?_
 ·refine bc h2 (fun h1 h2=> ?_) fun h1 h2=> ?_
  ·obtain rfl:=sj h2;exact⟨so (os [9,12,16] (bT h1) []),by kernel_rfl⟩
  obtain rfl:=sj h2;exact⟨so (os [9,12,16] (bF h1) []),by kernel_rfl⟩
 obtain rfl:=sj J;exact wr ai []
def Dk(N:Nat)(v1:Int):Option Bool:=
 Option.bind (Ao N v1) fun v2=>
 Option.bind (bif v2 then some true else Option.bind (Eg N v1) fun v3=>
 (bif v3 then some true else some (v1==(95:Int)))) fun v4=>
 some v4
theorem WV(N:Nat)(v1:Int)(r:Bool)(J:Dk N v1=some r):bm Tryz.prog 131 [(.d (.v (.int .i32 v1)))] (·=(aM r)):=by
 rw[Dk]at J;refine bK Tryz.func131 (by kernel_rfl) (by kernel_rfl) ?_;refine au ai [[]] ?_;obtain⟨v2,h1,J⟩:=ar J;obtain⟨v4,h5,J⟩:=ar J;refine cN ai [(2,(aM v4))] [] ?_ ?_
 ·refine bc h5 (fun h2 h5=> ?_) fun h2 h5=> ?_
  ·obtain rfl:=sj h5;exact⟨so (os [9,12,16] (bT h2) (os [21,24,28] (bT rfl) [(4,cL (Ae N v1 v2 h1))])),by kernel_rfl⟩
  obtain⟨v3,h3,h5⟩:=ar h5;refine bc h5 (fun h4 h5=> ?_) fun h4 h5=> ?_
  ·obtain rfl:=sj h5;exact⟨so (os [9,12,16] (bF h2) (os [21,24,28] (bT h4) [(4,cL (Ae N v1 v2 h1)),(13,cL (Su N v1 v3 h3))])),by kernel_rfl⟩
  obtain rfl:=sj h5;exact⟨so (os [9,12,16] (bF h2) (os [21,24,28] (bF h4) [(4,cL (Ae N v1 v2 h1)),(13,cL (Su N v1 v3 h3))])),by kernel_rfl⟩
 obtain rfl:=sj J;exact wr ai []
def wU(N:Nat)(v1:ByteArray):Nat→Int→Option Int
 |0,_=>none
 |v2+1,v3=>
  Option.bind (bif (decide (v3<(v1.size:Int)))then bif (decide ((0:Int)≤v3))then
  Option.bind (v1[(v3).toNat]?) fun v4=>
  Option.bind (Dk N (IntKind.i32.wrap (v4.toNat:Int))) fun v5=>
  some v5
  else none else some false) fun v6=>
  bif v6 then
   (fun ck=>wU N v1 v2 ck) (a7 (v3+(1:Int)))
  else
   some v3
def BL(N:Nat)(v1:ByteArray):Option Int:=
 wU N v1 N (0:Int)
theorem TJ(N:Nat)(v1:ByteArray)(r:Int)(J:BL N v1=some r):bW Tryz.prog 130 [(bq v1),(.fn 131 [])] [] fun r1 h1=>r1=(an r)∧h1=[]:=by
 rw[BL]at J;refine fy 0 Tryz.func130 (by kernel_rfl) (by kernel_rfl) (agB rfl) ?_;refine cC ai 1 [[],[]] [0,1,5] 0 (fun((v2,v3):Nat×Int)=>⟨21,[(0,(bq v1)),(1,(.fn 131 [])),(5,(an v3))],[]⟩) (fun((v2,v3):Nat×Int)=>wU N v1 v2 v3=some r) (fun((v2,v3):Nat×Int)=>v2) (N,(0:Int)) J ?_;rintro⟨v2,v3⟩ J f1 aV
 try dsimp only at J
 cases v2 with
 |zero=>
  rw[wU]at J;cases J
 |succ v2=>
  rw[wU]at J;obtain⟨v6,h5,J⟩:=ar J;refine cN ai [(17,(aM v6))] [] ?_ ?_
  ·refine bc h5 (fun h1 h5=> ?_) fun h1 h5=> ?_
   ·obtain⟨h3,h5⟩:=c8 h5;obtain⟨v4,h2,h5⟩:=ar h5;obtain⟨v5,h4,h5⟩:=ar h5;obtain rfl:=sj h5;exact⟨so (os [15,18,21,24,27,30,34] (bT h1) [(25,⟨_,_, .ch (i:=v3) (of_decide_eq_true h3) h2⟩),(31,cL (WV N (IntKind.i32.wrap (v4.toNat:Int)) v5 h4))]),by kernel_rfl⟩
   obtain rfl:=sj h5;exact⟨so (os [15,18,21,24,27,30,34] (bF h1) []),by kernel_rfl⟩
  refine bc J (fun h6 J=> ?_) fun h6 J=> ?_
  ·exact cx ai aV (v2,(a7 (v3+(1:Int)))) [[(0,bT h6)],[]] J
  obtain rfl:=sj J;exact cQ ai [[(0,bF h6)],[]]
def LN(N:Nat):Option (List ByteArray):=some D7
theorem afp(N:Nat)(r:List ByteArray)(J:LN N=some r):bm Tryz.prog 162 [] (·=(.d (.sl (ax r)))):=by
 cases J;exact aeq
def wm(N:Nat)(v2:ByteArray):List ByteArray→Nat→Option Int
 |[],_=>
  some (-1:Int)
 |v5::v6,v3=>
  bif (bL v2==bL v5)then
   some (v3:Int)
  else
   (wm N v2 v6 (v3+1))
def Dr(N:Nat)(v1:List ByteArray)(v2:ByteArray):Option Int:=
 wm N v2 v1 0
theorem ad2(N:Nat)(v1:List ByteArray)(v2:ByteArray)(r:Int)(J:Dr N v1 v2=some r):bm Tryz.prog 58 [(.d (.sl (ax v1))),(bq v2)] (·=(an r)):=by
 rw[Dr]at J;refine bK Tryz.func58 (by kernel_rfl) (by kernel_rfl) ?_;refine au ai [[],[(4,oL v1 bD)]] ?_;refine dP 0 (ax v1) (by kernel_rfl) fun h1=> ?_;have h2:=cr bD h1;refine cC ai 1 [] [0,1,7,8] 0 (fun((v3,v4):Nat×(List ByteArray))=>⟨19,[(0,(.d (.sl (ax v1)))),(1,(bq v2)),(7,(an (v1.length:Int))),(8,(an (v3:Int)))],[]⟩) (fun((v3,v4):Nat×(List ByteArray))=>v1.drop v3=v4∧wm N v2 v4 v3=some r) (fun((v3,v4):Nat×(List ByteArray))=>v4.length) (0,v1) ⟨rfl,J⟩ ?_;rintro⟨v3,v4⟩ ⟨h3,J⟩ f1 aV;cases v4 with
 |nil=>
  rw[wm]at J;obtain rfl:=sj J;exact wr ai [[],[(0,bF (bS h3))],[]]
 |cons v5 v6=>
  rw[wm]at J;refine au ai [[],[(0,bT (bR h3))],[],[(10,oE (lK (bj h3)))]] ?_;refine bc J (fun h4 J=> ?_) fun h4 J=> ?_
  ·obtain rfl:=sj J;exact wr ai [[(0,bT h4)],[]]
  exact cx ai aV (v3+1,v6) [[(0,bF h4)],[(2,oq (b8 h3 rfl h2))]] ⟨b7 h3,J⟩
def sh(N:Nat)(v1:List ByteArray)(v2:ByteArray):Option Bool:=
 Option.bind (Dr N v1 v2) fun v3=>
 some (decide (v3≥(0:Int)))
theorem IB(N:Nat)(v1:List ByteArray)(v2:ByteArray)(r:Bool)(J:sh N v1 v2=some r):bm Tryz.prog 28 [(.d (.sl (ax v1))),(bq v2)] (·=(aM r)):=by
 rw[sh]at J;refine bK Tryz.func28 (by kernel_rfl) (by kernel_rfl) ?_;obtain⟨v3,h1,J⟩:=ar J;obtain rfl:=sj J;exact wr ai [[],[(7,cL (ad2 N v1 v2 v3 h1))]]
def De(N:Nat)(v1:ByteArray):Option Bool:=
 Option.bind (LN N) fun v2=>
 Option.bind (sh N v2 v1) fun v3=>
 some v3
theorem aeX(N:Nat)(v1:ByteArray)(r:Bool)(J:De N v1=some r):bm Tryz.prog 132 [(bq v1)] (·=(aM r)):=by
 rw[De]at J;refine bK Tryz.func132 (by kernel_rfl) (by kernel_rfl) ?_;obtain⟨v2,h1,J⟩:=ar J;obtain⟨v3,h2,J⟩:=ar J;obtain rfl:=sj J;exact wr ai [[],[(1,cL (afp N v2 h1)),(7,cL (IB N v2 v1 v3 h2))]]
def sS(N:Nat)(v1:ByteArray):Option Bool:=
 Option.bind (bif (bL v1==bL (bs []))then some false else(bif (decide ((v1.size:Int)≤(16:Int)))then Option.bind (v1[0]?) fun v2=>
 Option.bind (Ao N (IntKind.i32.wrap (v2.toNat:Int))) fun v3=>
 (bif v3 then Option.bind (BL N v1) fun v4=>
 (bif (v4==(v1.size:Int))then Option.bind (De N v1) fun v5=>
 some (!v5)else some false)else some false)else some false)) fun v6=>
 some v6
theorem Hg(N:Nat)(v1:ByteArray)(r:Bool)(J:sS N v1=some r):bm Tryz.prog 96 [(bq v1)] (·=(aM r)):=by
 rw[sS]at J;refine bK Tryz.func96 (by kernel_rfl) (by kernel_rfl) ?_;refine au ai [[]] ?_;obtain⟨v6,h9,J⟩:=ar J;refine cN ai [(2,(aM v6))] [] ?_ ?_
 ·refine bc h9 (fun h1 h9=> ?_) fun h1 h9=> ?_
  ·obtain rfl:=sj h9;exact⟨so (os [9,12,15,19] (bF (cG h1)) (os [24,27,30,33,37,42,45,48,51,54,58,63,66,69,73] (bF rfl) [])),by kernel_rfl⟩
  refine bc h9 (fun h2 h9=> ?_) fun h2 h9=> ?_
  ·obtain⟨v2,h3,h9⟩:=ar h9;obtain⟨v3,h4,h9⟩:=ar h9;refine bc h9 (fun h5 h9=> ?_) fun h5 h9=> ?_
   ·obtain⟨v4,h6,h9⟩:=ar h9;refine bc h9 (fun h7 h9=> ?_) fun h7 h9=> ?_
    ·obtain⟨v5,h8,h9⟩:=ar h9;obtain rfl:=sj h9;exact⟨so (os [9,12,15,19] (bT (cT h1)) (os [24,27,30,33,37] (bT h2) (os [42,45,48,51,54,58] (bT h5) (os [63,66,69,73] (bT h7) [(28,⟨_,_, .ch (i:=(0:Int)) (by decide) h3⟩),(34,cL (Ae N (IntKind.i32.wrap (v2.toNat:Int)) v3 h4)),(46,⟨_,_, .rq (db:=[(bq v1),(.fn 131 [])]) (h:=[]) (l:=[]) (by kernel_rfl) (by kernel_rfl) (by kernel_rfl) (by kernel_rfl) (TJ N v1 v4 h6)⟩),(67,cL (aeX N v1 v5 h8))])))),by kernel_rfl⟩
    obtain rfl:=sj h9;exact⟨so (os [9,12,15,19] (bT (cT h1)) (os [24,27,30,33,37] (bT h2) (os [42,45,48,51,54,58] (bT h5) (os [63,66,69,73] (bF h7) [(28,⟨_,_, .ch (i:=(0:Int)) (by decide) h3⟩),(34,cL (Ae N (IntKind.i32.wrap (v2.toNat:Int)) v3 h4)),(46,⟨_,_, .rq (db:=[(bq v1),(.fn 131 [])]) (h:=[]) (l:=[]) (by kernel_rfl) (by kernel_rfl) (by kernel_rfl) (by kernel_rfl) (TJ N v1 v4 h6)⟩)])))),by kernel_rfl⟩
   obtain rfl:=sj h9;exact⟨so (os [9,12,15,19] (bT (cT h1)) (os [24,27,30,33,37] (bT h2) (os [42,45,48,51,54,58] (bF h5) (os [63,66,69,73] (bF rfl) [(28,⟨_,_, .ch (i:=(0:Int)) (by decide) h3⟩),(34,cL (Ae N (IntKind.i32.wrap (v2.toNat:Int)) v3 h4))])))),by kernel_rfl⟩
  obtain rfl:=sj h9;exact⟨so (os [9,12,15,19] (bT (cT h1)) (os [24,27,30,33,37] (bF h2) (os [42,45,48,51,54,58,63,66,69,73] (bF rfl) []))),by kernel_rfl⟩
 obtain rfl:=sj J;exact wr ai []
def wu(N:Nat)(v1:ByteArray)(v2:Int)(v3:aY)(v4:List (ByteArray×Int)):Option (Int×(List (ByteArray×Int))):=
 Option.bind (sS N v1) fun v5=>
 bif v5 then
  bif ((gF v4 v1 0) !=(0:Int))then
   some ((8:Int),v4)
  else
   bif (Nat.blt v4.length 9223372036854775807)then
   some ((0:Int),((v1,v2)::v4))
   else none
 else
  some ((7:Int),v4)
theorem Iv(N:Nat)(v1:ByteArray)(v2:Int)(v3:aY)(v4:List (ByteArray×Int))(r:Int×(List (ByteArray×Int)))(J:wu N v1 v2 v3 v4=some r):bW Tryz.prog 60 [(.ptr 0 0),(bq v1),(an v2)] [.cells (dO v3 [(.mp 1)]), .map (dA v4)] fun r1 h1=>r1=(an r.1)∧h1=[.cells (dO v3 [(.mp 1)]), .map (dA r.2)]:=by
 rw[wu]at J;refine fy 2 Tryz.func60 (by kernel_rfl) (by kernel_rfl) (agB rfl) ?_;obtain⟨v5,h1,J⟩:=ar J;refine au ai [[],[(4,cL (Hg N v1 v5 h1))]] ?_;refine bc J (fun h2 J=> ?_) fun h2 J=> ?_
 ·refine au ai [[(0,bF (cG h2))],[(17,⟨_,_, .eq (BZ false v4 v1)⟩)]] ?_;refine bc J (fun h3 J=> ?_) fun h3 J=> ?_
  ·obtain rfl:=sj J;exact cQ ai [[(0,bT h3)],[]]
  obtain⟨h4,J⟩:=c8 J;obtain rfl:=sj J;exact cQ ai [[(0,bF h3)],[(19,⟨_,_, .sd (o:= .none) (J8 h4)⟩)],[]]
 obtain rfl:=sj J;exact cQ ai [[(0,bT (cT h2))],[]]
def gU(N:Nat)(v2:Bool):Option Bool:=
 bif v2 then
  some true
 else
  some false
def Ej(N:Nat)(v1:ByteArray):Option Bool:=
 bif (bL v1==bL (bs [115,105,122,101]))then
  gU N (bL v1==bL (bs [115,105,122,101]))
 else
  bif (bL v1==bL (bs [119,104,101,114,101]))then
   gU N (bL v1==bL (bs [119,104,101,114,101]))
  else
   bif (bL v1==bL (bs [105,110]))then
    gU N (bL v1==bL (bs [105,110]))
   else
    bif (bL v1==bL (bs [100,101,102]))then
     gU N (bL v1==bL (bs [100,101,102]))
    else
     bif (bL v1==bL (bs [111,117,116]))then
      gU N (bL v1==bL (bs [111,117,116]))
     else
      bif (bL v1==bL (bs [115,117,109]))then
       gU N (bL v1==bL (bs [115,117,109]))
      else
       bif (bL v1==bL (bs [112,114,111,100]))then
        gU N (bL v1==bL (bs [112,114,111,100]))
       else
        bif (bL v1==bL (bs [109,105,110]))then
         gU N (bL v1==bL (bs [109,105,110]))
        else
         bif (bL v1==bL (bs [109,97,120]))then
          gU N (bL v1==bL (bs [109,97,120]))
         else
          bif (bL v1==bL (bs [115,99,97,110]))then
           gU N (bL v1==bL (bs [115,99,97,110]))
          else
           bif (bL v1==bL (bs [111,118,101,114]))then
            gU N (bL v1==bL (bs [111,118,101,114]))
           else
            bif (bL v1==bL (bs [105,102]))then
             gU N (bL v1==bL (bs [105,102]))
            else
             bif (bL v1==bL (bs [99,97,115,116]))then
              gU N (bL v1==bL (bs [99,97,115,116]))
             else
              bif (bL v1==bL (bs [102,114,97,99]))then
               gU N (bL v1==bL (bs [102,114,97,99]))
              else
               bif (bL v1==bL (bs [105,110,116]))then
                gU N (bL v1==bL (bs [105,110,116]))
               else
                bif (bL v1==bL (bs [102,105,120]))then
                 gU N (bL v1==bL (bs [102,105,120]))
                else
                 bif (bL v1==bL (bs [99,101,105,108]))then
                  gU N (bL v1==bL (bs [99,101,105,108]))
                 else
                  bif (bL v1==bL (bs [102,108,111,111,114]))then
                   gU N (bL v1==bL (bs [102,108,111,111,114]))
                  else
                   bif (bL v1==bL (bs [122,101,114,111]))then
                    gU N (bL v1==bL (bs [122,101,114,111]))
                   else
                    bif (bL v1==bL (bs [101,118,101,110]))then
                     gU N (bL v1==bL (bs [101,118,101,110]))
                    else
                     bif (bL v1==bL (bs [115,97,116]))then
                      gU N (bL v1==bL (bs [115,97,116]))
                     else
                      gU N (bL v1==bL (bs [119,114,97,112]))
theorem MQ(N:Nat)(v1:ByteArray)(r:Bool)(J:Ej N v1=some r):bm Tryz.prog 158 [(bq v1)] (·=(aM r)):=by
 rw[Ej]at J;refine bK Tryz.func158 (by kernel_rfl) (by kernel_rfl) ?_;refine ma ai 1 [[],[],[]] [4] 0 (fun(v2:Bool)=>⟨27,[(4,(aM v2))],[]⟩) (fun(v2:Bool)=>gU N v2=some r) ?_ ?_
 ·intro f1 aV;refine bc J (fun h2 J=> ?_) fun h2 J=> ?_
  ·exact dT ai aV (bL v1==bL (bs [115,105,122,101])) [[(0,bT h2)]] J
  refine au ai [[(0,bF h2)],[]] ?_;refine bc J (fun h3 J=> ?_) fun h3 J=> ?_
  ·exact dT ai aV (bL v1==bL (bs [119,104,101,114,101])) [[(0,bT h3)]] J
  refine au ai [[(0,bF h3)],[]] ?_;refine bc J (fun h4 J=> ?_) fun h4 J=> ?_
  ·exact dT ai aV (bL v1==bL (bs [105,110])) [[(0,bT h4)]] J
  refine au ai [[(0,bF h4)],[]] ?_;refine bc J (fun h5 J=> ?_) fun h5 J=> ?_
  ·exact dT ai aV (bL v1==bL (bs [100,101,102])) [[(0,bT h5)]] J
  refine au ai [[(0,bF h5)],[]] ?_;refine bc J (fun h6 J=> ?_) fun h6 J=> ?_
  ·exact dT ai aV (bL v1==bL (bs [111,117,116])) [[(0,bT h6)]] J
  refine au ai [[(0,bF h6)],[]] ?_;refine bc J (fun h7 J=> ?_) fun h7 J=> ?_
  ·exact dT ai aV (bL v1==bL (bs [115,117,109])) [[(0,bT h7)]] J
  refine au ai [[(0,bF h7)],[]] ?_;refine bc J (fun h8 J=> ?_) fun h8 J=> ?_
  ·exact dT ai aV (bL v1==bL (bs [112,114,111,100])) [[(0,bT h8)]] J
  refine au ai [[(0,bF h8)],[]] ?_;refine bc J (fun h9 J=> ?_) fun h9 J=> ?_
  ·exact dT ai aV (bL v1==bL (bs [109,105,110])) [[(0,bT h9)]] J
  refine au ai [[(0,bF h9)],[]] ?_;refine bc J (fun az J=> ?_) fun az J=> ?_
  ·exact dT ai aV (bL v1==bL (bs [109,97,120])) [[(0,bT az)]] J
  refine au ai [[(0,bF az)],[]] ?_;refine bc J (fun aZ J=> ?_) fun aZ J=> ?_
  ·exact dT ai aV (bL v1==bL (bs [115,99,97,110])) [[(0,bT aZ)]] J
  refine au ai [[(0,bF aZ)],[]] ?_;refine bc J (fun bf J=> ?_) fun bf J=> ?_
  ·exact dT ai aV (bL v1==bL (bs [111,118,101,114])) [[(0,bT bf)]] J
  refine au ai [[(0,bF bf)],[]] ?_;refine bc J (fun b5 J=> ?_) fun b5 J=> ?_
  ·exact dT ai aV (bL v1==bL (bs [105,102])) [[(0,bT b5)]] J
  refine au ai [[(0,bF b5)],[]] ?_;refine bc J (fun a8 J=> ?_) fun a8 J=> ?_
  ·exact dT ai aV (bL v1==bL (bs [99,97,115,116])) [[(0,bT a8)]] J
  refine au ai [[(0,bF a8)],[]] ?_;refine bc J (fun bA J=> ?_) fun bA J=> ?_
  ·exact dT ai aV (bL v1==bL (bs [102,114,97,99])) [[(0,bT bA)]] J
  refine au ai [[(0,bF bA)],[]] ?_;refine bc J (fun a9 J=> ?_) fun a9 J=> ?_
  ·exact dT ai aV (bL v1==bL (bs [105,110,116])) [[(0,bT a9)]] J
  refine au ai [[(0,bF a9)],[]] ?_;refine bc J (fun cv J=> ?_) fun cv J=> ?_
  ·exact dT ai aV (bL v1==bL (bs [102,105,120])) [[(0,bT cv)]] J
  refine au ai [[(0,bF cv)],[]] ?_;refine bc J (fun bQ J=> ?_) fun bQ J=> ?_
  ·exact dT ai aV (bL v1==bL (bs [99,101,105,108])) [[(0,bT bQ)]] J
  refine au ai [[(0,bF bQ)],[]] ?_;refine bc J (fun dk J=> ?_) fun dk J=> ?_
  ·exact dT ai aV (bL v1==bL (bs [102,108,111,111,114])) [[(0,bT dk)]] J
  refine au ai [[(0,bF dk)],[]] ?_;refine bc J (fun dJ J=> ?_) fun dJ J=> ?_
  ·exact dT ai aV (bL v1==bL (bs [122,101,114,111])) [[(0,bT dJ)]] J
  refine au ai [[(0,bF dJ)],[]] ?_;refine bc J (fun eG J=> ?_) fun eG J=> ?_
  ·exact dT ai aV (bL v1==bL (bs [101,118,101,110])) [[(0,bT eG)]] J
  refine au ai [[(0,bF eG)],[]] ?_;refine bc J (fun fe J=> ?_) fun fe J=> ?_
  ·exact dT ai aV (bL v1==bL (bs [115,97,116])) [[(0,bT fe)]] J
  exact dT ai aV (bL v1==bL (bs [119,114,97,112])) [[(0,bF fe)],[]] J
 rintro v2 J
 try dsimp only at J
 rw[gU]at J;refine bc J (fun h1 J=> ?_) fun h1 J=> ?_
 ·obtain rfl:=sj J;exact wr ai [[(0,bT h1)],[]]
 obtain rfl:=sj J;exact wr ai [[(0,bF h1)],[]]
def ta(N:Nat)(v1:ByteArray):Nat→Int→Option Bool
 |0,_=>none
 |v5+1,v6=>
  bif (decide (v6<(v1.size:Int)))then
   bif (decide ((0:Int)≤v6))then
   Option.bind (v1[(v6).toNat]?) fun v7=>
   Option.bind (bif (decide ((v7.toNat:Int)<(97:Int)))then(bif (decide ((v7.toNat:Int)<(48:Int)))then some ((v7.toNat:Int) !=(95:Int))else(bif (decide ((v7.toNat:Int)>(57:Int)))then some ((v7.toNat:Int) !=(95:Int))else some false))else(bif (decide ((v7.toNat:Int)>(122:Int)))then(bif (decide ((v7.toNat:Int)<(48:Int)))then some ((v7.toNat:Int) !=(95:Int))else(bif (decide ((v7.toNat:Int)>(57:Int)))then some ((v7.toNat:Int) !=(95:Int))else some false))else some false)) fun v8=>
   bif v8 then
    some false
   else
    (fun ck=>ta N v1 v5 ck) (a7 (v6+(1:Int)))
   else none
  else
   some true
def y6(N:Nat)(v1:ByteArray):Option Bool:=
 Option.bind (bif (decide ((v1.size:Int)<(1:Int)))then some true else(bif (decide ((v1.size:Int)>(16:Int)))then some true else Option.bind (Ej N v1) fun v2=>
 (bif v2 then some true else Option.bind (v1[0]?) fun v3=>
 (bif (decide ((v3.toNat:Int)<(97:Int)))then some true else some (decide ((v3.toNat:Int)>(122:Int))))))) fun v4=>
 bif v4 then
  some false
 else
  ta N v1 N (0:Int)
theorem AQ(N:Nat)(v1:ByteArray)(r:Bool)(J:y6 N v1=some r):bm Tryz.prog 123 [(bq v1)] (·=(aM r)):=by
 rw[y6]at J;refine bK Tryz.func123 (by kernel_rfl) (by kernel_rfl) ?_;refine au ai [[]] ?_;obtain⟨v4,h7,J⟩:=ar J;refine cN ai [(26,(aM v4))] [] ?_ ?_
 ·refine bc h7 (fun h1 h7=> ?_) fun h1 h7=> ?_
  ·obtain rfl:=sj h7;exact⟨so (os [12,15,18,22] (bT h1) (os [27,30,34,39,42,45,49,54,57,60,64] (bT rfl) [])),by kernel_rfl⟩
  refine bc h7 (fun h2 h7=> ?_) fun h2 h7=> ?_
  ·obtain rfl:=sj h7;exact⟨so (os [12,15,18,22] (bF h1) (os [27,30,34] (bT h2) (os [39,42,45,49,54,57,60,64] (bT rfl) []))),by kernel_rfl⟩
  obtain⟨v2,h3,h7⟩:=ar h7;refine bc h7 (fun h4 h7=> ?_) fun h4 h7=> ?_
  ·obtain rfl:=sj h7;exact⟨so (os [12,15,18,22] (bF h1) (os [27,30,34] (bF h2) (os [39,42,45,49] (bT h4) (os [54,57,60,64] (bT rfl) [(31,cL (MQ N v1 v2 h3))])))),by kernel_rfl⟩
  obtain⟨v3,h5,h7⟩:=ar h7;refine bc h7 (fun h6 h7=> ?_) fun h6 h7=> ?_
  ·obtain rfl:=sj h7;exact⟨so (os [12,15,18,22] (bF h1) (os [27,30,34] (bF h2) (os [39,42,45,49] (bF h4) (os [54,57,60,64] (bT h6) [(31,cL (MQ N v1 v2 h3)),(43,⟨_,_, .ch (i:=(0:Int)) (by decide) h5⟩)])))),by kernel_rfl⟩
  obtain rfl:=sj h7;exact⟨so (os [12,15,18,22] (bF h1) (os [27,30,34] (bF h2) (os [39,42,45,49] (bF h4) (os [43,58] (⟨_,_, .ch (i:=(0:Int)) (by decide) h5⟩) (os [54,57,60,64] (bF h6) [(31,cL (MQ N v1 v2 h3))]))))),by kernel_rfl⟩
 refine bc J (fun h8 J=> ?_) fun h8 J=> ?_
 ·obtain rfl:=sj J;exact wr ai [[(0,bT h8)],[]]
 refine cC ai 1 [[(0,bF h8)],[]] [0,28,29] 0 (fun((v5,v6):Nat×Int)=>⟨54,[(0,(bq v1)),(28,(an (v1.size:Int))),(29,(an v6))],[]⟩) (fun((v5,v6):Nat×Int)=>ta N v1 v5 v6=some r) (fun((v5,v6):Nat×Int)=>v5) (N,(0:Int)) J ?_;rintro⟨v5,v6⟩ J f1 aV
 try dsimp only at J
 cases v5 with
 |zero=>
  rw[ta]at J;cases J
 |succ v5=>
  rw[ta]at J;refine au ai [[]] ?_;refine bc J (fun h9 J=> ?_) fun h9 J=> ?_
  ·obtain⟨aZ,J⟩:=c8 J;obtain⟨v7,az,J⟩:=ar J;refine au ai [[(0,bT h9)],[],[(7,⟨_,_, .ch (i:=v6) (of_decide_eq_true aZ) az⟩)]] ?_;obtain⟨v8,bQ,J⟩:=ar J;refine cN ai [(52,(aM v8))] [] ?_ ?_
   ·refine bc bQ (fun bf bQ=> ?_) fun bf bQ=> ?_
    ·refine bc bQ (fun b5 bQ=> ?_) fun b5 bQ=> ?_
     ·obtain rfl:=sj bQ;exact⟨so (os [9,12,16] (bT bf) (os [21,24,27,36,40,45,48,52] (bT rfl) (os [30,33,37] (bT b5) []))),by kernel_rfl⟩
     refine bc bQ (fun a8 bQ=> ?_) fun a8 bQ=> ?_
     ·obtain rfl:=sj bQ;exact⟨so (os [9,12,16] (bT bf) (os [21,24,27,36,40] (bT rfl) (os [30,33,37] (bF b5) (os [45,48,52] (bT a8) [])))),by kernel_rfl⟩
     obtain rfl:=sj bQ;exact⟨so (os [9,12,16] (bT bf) (os [21,24,27,36,40] (bT rfl) (os [30,33,37] (bF b5) (os [45,48,52] (bF a8) [])))),by kernel_rfl⟩
    refine bc bQ (fun bA bQ=> ?_) fun bA bQ=> ?_
    ·refine bc bQ (fun a9 bQ=> ?_) fun a9 bQ=> ?_
     ·obtain rfl:=sj bQ;exact⟨so (os [9,12,16] (bF bf) (os [21,24,27,36,40] (bT bA) (os [30,33,37] (bT a9) (os [45,48,52] (bT rfl) [])))),by kernel_rfl⟩
     refine bc bQ (fun cv bQ=> ?_) fun cv bQ=> ?_
     ·obtain rfl:=sj bQ;exact⟨so (os [9,12,16] (bF bf) (os [21,24,27,36,40] (bT bA) (os [30,33,37] (bF a9) (os [45,48,52] (bT cv) [])))),by kernel_rfl⟩
     obtain rfl:=sj bQ;exact⟨so (os [9,12,16] (bF bf) (os [21,24,27,36,40] (bT bA) (os [30,33,37] (bF a9) (os [45,48,52] (bF cv) [])))),by kernel_rfl⟩
    obtain rfl:=sj bQ;exact⟨so (os [9,12,16] (bF bf) (os [21,24,27,36,40] (bF bA) (os [30,33] uN (os [45,48,52] (bF rfl) [])))),by kernel_rfl⟩
   refine bc J (fun dk J=> ?_) fun dk J=> ?_
   ·obtain rfl:=sj J;exact wr ai [[(0,bT dk)],[]]
   exact cx ai aV (v5,(a7 (v6+(1:Int)))) [[(0,bF dk)],[]] J
  obtain rfl:=sj J;exact wr ai [[(0,bF h9)],[]]
def xt(N:Nat)(v1:aw):List aF→Nat→Option Int
 |[],_=>
  some (0:Int)
 |v4::v5,v2=>
  Option.bind (y6 N v4.aq) fun v6=>
  Option.bind (bif v6 then(bif (v4.dq.toInt==(0:Int))then some true else(bif (decide ((v2:Int)>(0:Int)))then bif (decide ((0:Int)≤(a7 ((v2:Int)-(1:Int)))))then
  Option.bind (v1.xL[((a7 ((v2:Int)-(1:Int)))).toNat]?) fun v7=>
  some (!(Op.bytesLess (bL v7.aq) (bL v4.aq)))
  else none else some false))else some true) fun v8=>
  bif v8 then
   some (1:Int)
  else
   (xt N v1 v5 (v2+1))
def qL(N:Nat)(v1:aw):Option Int:=
 xt N v1 v1.xL 0
theorem xM(N:Nat)(v1:aw)(r:Int)(J:qL N v1=some r):bm Tryz.prog 124 [(b9 v1)] (·=(an r)):=by
 rw[qL]at J;refine bK Tryz.func124 (by kernel_rfl) (by kernel_rfl) ?_;refine au ai [[],[(7,oL v1.xL b6)]] ?_;refine dP 6 (bP v1.xL) (by kernel_rfl) fun h1=> ?_;have h2:=cr b6 h1;refine cC ai 1 [] [1,6,7,8] 1 (fun((v2,v3):Nat×(List aF))=>⟨39,[(1,(.ptr 0 0)),(6,(.d (.sl (bP v1.xL)))),(7,(an (v1.xL.length:Int))),(8,(an (v2:Int)))],[.cells (b9 v1).cells]⟩) (fun((v2,v3):Nat×(List aF))=>v1.xL.drop v2=v3∧xt N v1 v3 v2=some r) (fun((v2,v3):Nat×(List aF))=>v3.length) (0,v1.xL) ⟨rfl,J⟩ ?_;rintro⟨v2,v3⟩ ⟨h3,J⟩ f1 aV;cases v3 with
 |nil=>
  rw[xt]at J;obtain rfl:=sj J;exact wr ai [[],[(0,bF (bS h3))],[]]
 |cons v4 v5=>
  rw[xt]at J;refine au ai [[],[(0,bT (bR h3))],[(4,oE (fu (bj h3)))]] ?_;obtain⟨v6,h4,J⟩:=ar J;obtain⟨v8,az,J⟩:=ar J;refine cN ai [(37,(aM v8))] [.cells (b9 v1).cells, .cells (oT v4).cells] ?_ ?_
  ·refine bc az (fun h5 az=> ?_) fun h5 az=> ?_
   ·refine bc az (fun h6 az=> ?_) fun h6 az=> ?_
    ·obtain rfl:=sj az;exact⟨so (os [15,18,21,25] (bF (cG h5)) (os [30,33,36,69,73] (bT h6) (os [39,42,45,48,51,54,57,60,63,66] uN [(7,cL (AQ N v4.aq v6 h4))]))),by kernel_rfl⟩
    refine bc az (fun h7 az=> ?_) fun h7 az=> ?_
    ·obtain⟨h9,az⟩:=c8 az;obtain⟨v7,h8,az⟩:=ar az;obtain rfl:=sj az;exact⟨so (os [15,18,21,25] (bF (cG h5)) (os [30,33,36,69,73] (bF h6) (os [39,42,45,48,51,54,57,60,63,66,70] (bT h7) [(7,cL (AQ N v4.aq v6 h4)),(52,⟨_,_, .el (xs:=bP v1.xL) (i:=(a7 ((v2:Int)-(1:Int)))) (of_decide_eq_true h9) (fu h8)⟩)]))),by kernel_rfl⟩
    obtain rfl:=sj az;exact⟨so (os [15,18,21,25] (bF (cG h5)) (os [30,33,36,69,73] (bF h6) (os [39,42,45,48,51,54,57,60,63,66,70] (bF h7) [(7,cL (AQ N v4.aq v6 h4))]))),by kernel_rfl⟩
   obtain rfl:=sj az;exact⟨so (os [15,18,21,25] (bT (cT h5)) (os [30,33,36,69,73] (bT rfl) (os [39,42,45,48,51,54,57,60,63,66] uN [(7,cL (AQ N v4.aq v6 h4))]))),by kernel_rfl⟩
  refine bc J (fun aZ J=> ?_) fun aZ J=> ?_
  ·obtain rfl:=sj J;exact wr ai [[(0,bT aZ)],[]]
  exact cx ai aV (v2+1,v5) [[(0,bF aZ)],[(2,oq (b8 h3 rfl h2))]] ⟨b7 h3,J⟩
def Hp(N:Nat)(v1:cF):Option Int:=
 Option.bind (qL N v1.aQ) fun v2=>
 some v2
theorem acv(N:Nat)(v1:cF)(r:Int)(J:Hp N v1=some r):bm Tryz.prog 97 [(mR v1)] (·=(an r)):=by
 rw[Hp]at J;refine bK Tryz.func97 (by kernel_rfl) (by kernel_rfl) ?_;obtain⟨v2,h1,J⟩:=ar J;obtain rfl:=sj J;exact wr ai [[],[(7,cL (xM N v1.aQ v2 h1))]]
def xd(N:Nat)(v3:List (ByteArray×Int)):List aF→Nat→Option Int
 |[],_=>
  some (0:Int)
 |v7::v8,v5=>
  bif ((gF v3 v7.aq 0) !=(1:Int))then
   some (9:Int)
  else
   (xd N v3 v8 (v5+1))
def ug(N:Nat)(v1:aw)(v2:aY)(v3:List (ByteArray×Int)):Option Int:=
 Option.bind (qL N v1) fun v4=>
 bif (v4 !=(0:Int))then
  some (1:Int)
 else
  xd N v3 v1.xL 0
theorem JO(N:Nat)(v1:aw)(v2:aY)(v3:List (ByteArray×Int))(r:Int)(J:ug N v1 v2 v3=some r):bW Tryz.prog 98 [(.ptr 0 0),(b9 v1)] [.cells (dO v2 [(.mp 1)]), .map (dA v3)] fun r1 h1=>r1=(an r)∧h1=[.cells (dO v2 [(.mp 1)]), .map (dA v3)]:=by
 rw[ug]at J;refine fy 2 Tryz.func98 (by kernel_rfl) (by kernel_rfl) (agB rfl) ?_;obtain⟨v4,h1,J⟩:=ar J;refine au ai [[],[(4,cL (xM N v1 v4 h1))]] ?_;refine bc J (fun h2 J=> ?_) fun h2 J=> ?_
 ·obtain rfl:=sj J;exact cQ ai [[(0,bT h2)],[]]
 refine au ai [[(0,bF h2)],[(7,oL v1.xL b6)]] ?_;refine dP 11 (bP v1.xL) (by kernel_rfl) fun h3=> ?_;have h4:=cr b6 h3;refine cC ai 1 [] [0,11,12,13] 3 (fun((v5,v6):Nat×(List aF))=>⟨26,[(0,(.ptr 0 0)),(11,(.d (.sl (bP v1.xL)))),(12,(an (v1.xL.length:Int))),(13,(an (v5:Int)))],[.cells (dO v2 [(.mp 1)]), .map (dA v3), .cells (b9 v1).cells]⟩) (fun((v5,v6):Nat×(List aF))=>v1.xL.drop v5=v6∧xd N v3 v6 v5=some r) (fun((v5,v6):Nat×(List aF))=>v6.length) (0,v1.xL) ⟨rfl,J⟩ ?_;rintro⟨v5,v6⟩ ⟨h5,J⟩ f1 aV;cases v6 with
 |nil=>
  rw[xd]at J;obtain rfl:=sj J;exact cQ ai [[],[(0,bF (bS h5))],[]]
 |cons v7 v8=>
  rw[xd]at J;refine au ai [[],[(0,bT (bR h5))],[(1,oE (fu (bj h5)))],[(20,⟨_,_, .eq (BZ false v3 v7.aq)⟩)]] ?_;refine bc J (fun h6 J=> ?_) fun h6 J=> ?_
  ·obtain rfl:=sj J;exact cQ ai [[(0,bT h6)],[]]
  exact cx ai aV (v5+1,v8) [[(0,bF h6)],[(2,oq (b8 h5 rfl h4))]] ⟨b7 h5,J⟩
def Cb(N:Nat)(v1:cF)(v2:aY)(v3:List (ByteArray×Int)):Option Int:=
 Option.bind (Hp N v1) fun v4=>
 bif (v4 !=(0:Int))then
  some (1:Int)
 else
  Option.bind (ug N v1.aQ v2 v3) fun v5=>
  some v5
theorem abr(N:Nat)(v1:cF)(v2:aY)(v3:List (ByteArray×Int))(r:Int)(J:Cb N v1 v2 v3=some r):bW Tryz.prog 61 [(.ptr 0 0),(mR v1)] [.cells (dO v2 [(.mp 1)]), .map (dA v3)] fun r1 h1=>r1=(an r)∧h1=[.cells (dO v2 [(.mp 1)]), .map (dA v3)]:=by
 rw[Cb]at J;refine fy 2 Tryz.func61 (by kernel_rfl) (by kernel_rfl) (agB rfl) ?_;obtain⟨v4,h1,J⟩:=ar J;refine au ai [[],[(4,cL (acv N v1 v4 h1))]] ?_;refine bc J (fun h2 J=> ?_) fun h2 J=> ?_
 ·obtain rfl:=sj J;exact cQ ai [[(0,bT h2)],[]]
 obtain⟨v5,h3,J⟩:=ar J;obtain rfl:=sj J;exact cQ ai [[(0,bF h2)],[(10,⟨_,_, .rq (db:=[(.ptr 0 0),(b9 v1.aQ)]) (h:=[.cells (dO v2 [(.mp 1)]), .map (dA v3), .cells (mR v1).cells]) (l:=[0,1]) (by kernel_rfl) (by kernel_rfl) (by kernel_rfl) (by kernel_rfl) (JO N v1.aQ v2 v3 v5 h3)⟩)]]
def Fi(N:Nat)(v1:bB):Option Bool:=
 some ((v1.cA==v1.cA)&&((v1.cD==(0:Int))&&((v1.dg==(0:Int))&&((v1.de==(0:Int))&&((v1.dc==(0:Int))&&true)))))
theorem WG(N:Nat)(v1:bB)(r:Bool)(J:Fi N v1=some r):bm Tryz.prog 163 [(e9 v1)] (·=(aM r)):=by
 rw[Fi]at J;refine bK Tryz.func163 (by kernel_rfl) (by kernel_rfl) ?_;obtain rfl:=sj J;exact wr ai [[],[]]
def y0(N:Nat)(v1:bB):Option Int:=
 Option.bind (bif (decide (v1.de≥(1:Int)))then(bif (decide (v1.de≤(4:Int)))then(bif (v1.dc==(1:Int))then some true else some (v1.dc==(2:Int)))else some false)else some false) fun v2=>
 Option.bind (bif (v1.cA !=(2:Int))then some true else(bif (decide (v1.cD<(2:Int)))then some true else(bif (decide (v1.cD>(31:Int)))then some true else(bif (decide (v1.dg<(0:Int)))then some true else(bif (decide (v1.dg>(30:Int)))then some true else some (!v2)))))) fun v3=>
 bif v3 then
  some (10:Int)
 else
  some (0:Int)
theorem DK(N:Nat)(v1:bB)(r:Int)(J:y0 N v1=some r):bm Tryz.prog 164 [(e9 v1)] (·=(an r)):=by
 rw[y0]at J;refine bK Tryz.func164 (by kernel_rfl) (by kernel_rfl) ?_;refine au ai [[]] ?_;obtain⟨v2,h4,J⟩:=ar J;refine cN ai [(3,(aM v2))] [.cells (e9 v1).cells] ?_ ?_
 ·refine bc h4 (fun h1 h4=> ?_) fun h1 h4=> ?_
  ·refine bc h4 (fun h2 h4=> ?_) fun h2 h4=> ?_
   ·refine bc h4 (fun h3 h4=> ?_) fun h3 h4=> ?_
    ·obtain rfl:=sj h4;exact⟨so (os [12,15,18,22] (bT h1) (os [27,30,33,36,48,52] (bT h2) (os [39,42,45,49] (bT h3) []))),by kernel_rfl⟩
    obtain rfl:=sj h4;exact⟨so (os [12,15,18,22] (bT h1) (os [27,30,33,36,48,52] (bT h2) (os [39,42,45,49] (bF h3) []))),by kernel_rfl⟩
   obtain rfl:=sj h4;exact⟨so (os [12,15,18,22] (bT h1) (os [27,30,33,36,48,52] (bF h2) (os [39,42,45] uN []))),by kernel_rfl⟩
  obtain rfl:=sj h4;exact⟨so (os [12,15,18,22] (bF h1) (os [27,30,33,36,48,52] (bF rfl) (os [39,42,45] uN []))),by kernel_rfl⟩
 obtain⟨v3,az,J⟩:=ar J;refine cN ai [(48,(aM v3))] [.cells (e9 v1).cells] ?_ ?_
 ·refine bc az (fun h5 az=> ?_) fun h5 az=> ?_
  ·obtain rfl:=sj az;exact⟨so (os [12,15,18,22] (bT h5) (os [27,30,33,37,42,45,48,52,57,60,63,67,72,75,79] (bT rfl) [])),by kernel_rfl⟩
  refine bc az (fun h6 az=> ?_) fun h6 az=> ?_
  ·obtain rfl:=sj az;exact⟨so (os [12,15,18,22] (bF h5) (os [27,30,33,37] (bT h6) (os [42,45,48,52,57,60,63,67,72,75,79] (bT rfl) []))),by kernel_rfl⟩
  refine bc az (fun h7 az=> ?_) fun h7 az=> ?_
  ·obtain rfl:=sj az;exact⟨so (os [12,15,18,22] (bF h5) (os [27,30,33,37] (bF h6) (os [42,45,48,52] (bT h7) (os [57,60,63,67,72,75,79] (bT rfl) [])))),by kernel_rfl⟩
  refine bc az (fun h8 az=> ?_) fun h8 az=> ?_
  ·obtain rfl:=sj az;exact⟨so (os [12,15,18,22] (bF h5) (os [27,30,33,37] (bF h6) (os [42,45,48,52] (bF h7) (os [57,60,63,67] (bT h8) (os [72,75,79] (bT rfl) []))))),by kernel_rfl⟩
  refine bc az (fun h9 az=> ?_) fun h9 az=> ?_
  ·obtain rfl:=sj az;exact⟨so (os [12,15,18,22] (bF h5) (os [27,30,33,37] (bF h6) (os [42,45,48,52] (bF h7) (os [57,60,63,67] (bF h8) (os [72,75,79] (bT h9) []))))),by kernel_rfl⟩
  obtain rfl:=sj az;exact⟨so (os [12,15,18,22] (bF h5) (os [27,30,33,37] (bF h6) (os [42,45,48,52] (bF h7) (os [57,60,63,67] (bF h8) (os [72,75,79] (bF h9) []))))),by kernel_rfl⟩
 refine bc J (fun aZ J=> ?_) fun aZ J=> ?_
 ·obtain rfl:=sj J;exact wr ai [[(0,bT aZ)],[]]
 obtain rfl:=sj J;exact wr ai [[(0,bF aZ)],[]]
def Bx(N:Nat)(v1:bB)(v2:Bool):Option Int:=
 bif v2 then
  Option.bind (Fi N v1) fun v3=>
  bif v3 then
   some (0:Int)
  else
   some (10:Int)
 else
  bif (v1.cA==(2:Int))then
   Option.bind (y0 N v1) fun v4=>
   bif (v4==(0:Int))then
    some (0:Int)
   else
    some (10:Int)
  else
   some (10:Int)
def sV(N:Nat)(v1:bB):Option Int:=
 bif (v1.cA==(1:Int))then
  Bx N v1 (v1.cA==(1:Int))
 else
  Bx N v1 (v1.cA==(3:Int))
theorem Gv(N:Nat)(v1:bB)(r:Int)(J:sV N v1=some r):bm Tryz.prog 133 [(e9 v1)] (·=(an r)):=by
 rw[sV]at J;refine bK Tryz.func133 (by kernel_rfl) (by kernel_rfl) ?_;refine ma ai 1 [[],[],[]] [1,4,5] 1 (fun(v2:Bool)=>⟨15,[(1,(.ptr 0 0)),(4,(an v1.cA)),(5,(aM v2))],[.cells (e9 v1).cells]⟩) (fun(v2:Bool)=>Bx N v1 v2=some r) ?_ ?_
 ·intro f1 aV;refine bc J (fun h7 J=> ?_) fun h7 J=> ?_
  ·exact dT ai aV (v1.cA==(1:Int)) [[(0,bT h7)]] J
  exact dT ai aV (v1.cA==(3:Int)) [[(0,bF h7)],[]] J
 rintro v2 J
 try dsimp only at J
 rw[Bx]at J;refine bc J (fun h1 J=> ?_) fun h1 J=> ?_
 ·obtain⟨v3,h2,J⟩:=ar J;refine au ai [[(0,bT h1)],[(4,cL (WG N v1 v3 h2))]] ?_;refine bc J (fun h3 J=> ?_) fun h3 J=> ?_
  ·obtain rfl:=sj J;exact wr ai [[(0,bT h3)],[]]
  obtain rfl:=sj J;exact wr ai [[(0,bF h3)],[]]
 refine au ai [[(0,bF h1)],[]] ?_;refine bc J (fun h4 J=> ?_) fun h4 J=> ?_
 ·obtain⟨v4,h5,J⟩:=ar J;refine au ai [[(0,bT h4)],[(4,cL (DK N v1 v4 h5))]] ?_;refine bc J (fun h6 J=> ?_) fun h6 J=> ?_
  ·obtain rfl:=sj J;exact wr ai [[(0,bT h6)],[]]
  obtain rfl:=sj J;exact wr ai [[(0,bF h6)],[]]
 obtain rfl:=sj J;exact wr ai [[(0,bF h4)],[]]
def Bo(N:Nat):List Int→Nat→Int→Option Int
 |[],_,v7=>
  some v7
 |v5::v6,v3,v7=>
  (fun fS=>Bo N v6 (v3+1) fS) (if v5>v7 then v5 else v7)
def IL(N:Nat)(v1:List Int):Option Int:=
 Option.bind (v1[0]?) fun v2=>
 Bo N (v1.drop 1) 1 v2
def Ep(N:Nat)(v1:List Int):Option Int:=
 bif (decide ((v1.length:Int)<(1:Int)))then
  none
 else
  IL N v1
theorem aas(N:Nat)(v1:List Int)(r:Int)(J:Ep N v1=some r):bm Tryz.prog 134 [(.d (.sl (tp v1)))] (·=(an r)):=by
 rw[Ep]at J;refine bK Tryz.func134 (by kernel_rfl) (by kernel_rfl) ?_;refine ma ai 1 [[],[(4,oL v1 E2)]] [0] 0 (fun(_:Unit)=>⟨25,[(0,(.d (.sl (tp v1))))],[]⟩) (fun(_:Unit)=>IL N v1=some r) ?_ ?_
 ·intro f1 aV;refine bc J (fun h5 J=> ?_) fun h5 J=> ?_
  ·cases J
  exact dT ai aV () [[(0,bF h5)]] J
 rintro _ J
 try dsimp only at J
 rw[IL]at J;obtain⟨v2,h1,J⟩:=ar J;refine au ai [[(4,oE (k:=0) (P3 h1))],[]] ?_;refine dP 0 (tp v1) (by kernel_rfl) fun h2=> ?_;have h3:=cr E2 h2;refine cC ai 2 [] [0,3,4] 0 (fun((v3,v4,v7):Nat×(List Int)×Int)=>⟨25,[(0,(.d (.sl (tp v1)))),(3,(an v7)),(4,(an (v3:Int)))],[]⟩) (fun((v3,v4,v7):Nat×(List Int)×Int)=>v1.drop v3=v4∧Bo N v4 v3 v7=some r) (fun((v3,v4,v7):Nat×(List Int)×Int)=>v4.length) (1,(v1.drop 1),v2) ⟨rfl,J⟩ ?_;rintro⟨v3,v4,v7⟩ ⟨h4,J⟩ f2 dX;cases v4 with
 |nil=>
  rw[Bo]at J;obtain rfl:=sj J;exact wr ai [[(7,oL v1 E2)],[(0,bF (bS h4))],[]]
 |cons v5 v6=>
  rw[Bo]at J;exact cx ai dX (v3+1,v6,(if v5>v7 then v5 else v7)) [[(7,oL v1 E2)],[(0,bT (bR h4))],[(10,oE (P3 (bj h4)))],[(5,oq (b8 h4 rfl h3))]] ⟨b7 h4,J⟩
def tN(N:Nat)(v1:bB)(v2:List Int):Option Int:=
 Option.bind (sV N v1) fun v3=>
 bif (v3 !=(0:Int))then
  some (10:Int)
 else
  Option.bind (Ep N v2) fun v4=>
  bif (decide (v4>(6:Int)))then
   some (11:Int)
  else
   some (0:Int)
theorem RC(N:Nat)(v1:bB)(v2:List Int)(r:Int)(J:tN N v1 v2=some r):bm Tryz.prog 99 [(e9 v1),(.d (.sl (tp v2)))] (·=(an r)):=by
 rw[tN]at J;refine bK Tryz.func99 (by kernel_rfl) (by kernel_rfl) ?_;obtain⟨v3,h1,J⟩:=ar J;refine au ai [[],[(4,cL (Gv N v1 v3 h1))]] ?_;refine bc J (fun h2 J=> ?_) fun h2 J=> ?_
 ·obtain rfl:=sj J;exact wr ai [[(0,bT h2)],[]]
 obtain⟨v4,h3,J⟩:=ar J;refine au ai [[(0,bF h2)],[(4,cL (aas N v2 v4 h3))]] ?_;refine bc J (fun h4 J=> ?_) fun h4 J=> ?_
 ·obtain rfl:=sj J;exact wr ai [[(0,bT h4)],[]]
 obtain rfl:=sj J;exact wr ai [[(0,bF h4)],[]]
def vY(N:Nat)(v4:Int×(List (ByteArray×Int)))(v2:aY):List aw→Nat→Option (Int×(List (ByteArray×Int)))
 |[],_=>
  some ((0:Int),v4.2)
 |v8::v9,v6=>
  Option.bind (ug N v8 v2 v4.2) fun v10=>
  bif (v10 !=(0:Int))then
   some (v10,v4.2)
  else
   (vY N v4 v2 v9 (v6+1))
def CI(N:Nat)(v1:cq)(v2:aY)(v3:List (ByteArray×Int)):Option (Int×(List (ByteArray×Int))):=
 Option.bind (wu N v1.aq (2:Int) v2 v3) fun v4=>
 bif (v4.1 !=(0:Int))then
  some (v4.1,v4.2)
 else
  Option.bind (tN N v1.aB ([(v1.aJ.length:Int)])) fun v5=>
  bif (v5 !=(0:Int))then
   some (v5,v4.2)
  else
   vY N v4 v2 v1.aJ 0
theorem acS(N:Nat)(v1:cq)(v2:aY)(v3:List (ByteArray×Int))(r:Int×(List (ByteArray×Int)))(J:CI N v1 v2 v3=some r):bW Tryz.prog 62 [(.ptr 0 0),(qO v1)] [.cells (dO v2 [(.mp 1)]), .map (dA v3)] fun r1 h1=>r1=(an r.1)∧h1=[.cells (dO v2 [(.mp 1)]), .map (dA r.2)]:=by
 rw[CI]at J;refine fy 2 Tryz.func62 (by kernel_rfl) (by kernel_rfl) (agB rfl) ?_;obtain⟨v4,h1,J⟩:=ar J;refine au ai [[],[(10,⟨_,_, .jf (db:=[(.ptr 0 0),(bq v1.aq),(an (2:Int))]) (h:=[.cells (dO v2 [(.mp 1)]), .map (dA v3), .cells (qO v1).cells]) (l:=[0,1]) (by kernel_rfl) (by kernel_rfl) (by kernel_rfl) (by kernel_rfl) (Iv N v1.aq (2:Int) v2 v3 v4 h1)⟩)],[]] ?_;refine bc J (fun h2 J=> ?_) fun h2 J=> ?_
 ·obtain rfl:=sj J;exact cQ ai [[(0,bT h2)],[]]
 obtain⟨v5,h3,J⟩:=ar J;refine au ai [[(0,bF h2)],[(13,oL v1.aJ bO),(19,cL (RC N v1.aB ([(v1.aJ.length:Int)]) v5 h3))],[]] ?_;refine bc J (fun h4 J=> ?_) fun h4 J=> ?_
 ·obtain rfl:=sj J;exact cQ ai [[(0,bT h4)],[]]
 refine au ai [[(0,bF h4)],[(7,oL v1.aJ bO)]] ?_;refine dP 28 (cS v1.aJ) (by kernel_rfl) fun h5=> ?_;have h6:=cr bO h5;refine cC ai 1 [] [0,28,29,30] 3 (fun((v6,v7):Nat×(List aw))=>⟨41,[(0,(.ptr 0 0)),(28,(.d (.sl (cS v1.aJ)))),(29,(an (v1.aJ.length:Int))),(30,(an (v6:Int)))],[.cells (dO v2 [(.mp 1)]), .map (dA v4.2), .cells (qO v1).cells]⟩) (fun((v6,v7):Nat×(List aw))=>v1.aJ.drop v6=v7∧vY N v4 v2 v7 v6=some r) (fun((v6,v7):Nat×(List aw))=>v7.length) (0,v1.aJ) ⟨rfl,J⟩ ?_;rintro⟨v6,v7⟩ ⟨h7,J⟩ f1 aV;cases v7 with
 |nil=>
  rw[vY]at J;obtain rfl:=sj J;exact cQ ai [[],[(0,bF (bS h7))],[]]
 |cons v8 v9=>
  rw[vY]at J;obtain⟨v10,h8,J⟩:=ar J;refine au ai [[],[(0,bT (bR h7))],[(1,oE (jv (bj h7)))],[(7,⟨_,_, .rq (db:=[(.ptr 0 0),(b9 v8)]) (h:=[.cells (dO v2 [(.mp 1)]), .map (dA v4.2), .cells (qO v1).cells, .cells (b9 v8).cells]) (l:=[0,1]) (by kernel_rfl) (by kernel_rfl) (by kernel_rfl) (by kernel_rfl) (JO N v8 v2 v4.2 v10 h8)⟩)],[]] ?_;refine bc J (fun h9 J=> ?_) fun h9 J=> ?_
  ·obtain rfl:=sj J;exact cQ ai [[(0,bT h9)],[]]
  exact cx ai aV (v6+1,v9) [[(0,bF h9)],[(2,oq (b8 h7 rfl h6))]] ⟨b7 h7,J⟩
def JA(N:Nat)(v1:Int):Option Unit:=bif decide ((0:Int)≤v1)&&Nat.ble (v1.toNat*48) 140737488355328 then some ()else none
theorem YD(N:Nat)(v1:Int)(r:Unit)(J:JA N v1=some r):bW Tryz.prog 165 [.d (.v (.slice none 0 0)),(an v1)] [] fun r1 h1=>r1= .own 0 []∧h1=[.front 64 3 0]:=by
 obtain⟨hb,_⟩:=cV J;rw[agv]at hb;have e:Int.ofNat v1.toNat=v1:=Int.toNat_of_nonneg (of_decide_eq_true hb.1);have h:=Zc hb.2;rw[e]at h;exact h
def xP(N:Nat):List (List bk)→Nat→(List bk)→Option ((List bk))
 |[],_,aC=>
  some aC
 |v10::v11,v8,aC=>
  bif (Nat.ble ((aC.length+v10.length)*48) 140737488355328)then
  (fun fS=>xP N v11 (v8+1) fS) (aC++v10)
  else none
def tX(N:Nat)(v1:List (List bk)):List (List bk)→Nat→Int→Option ((List bk))
 |[],_,v6=>
  Option.bind (JA N v6) fun v7=>
  xP N v1 0 []
 |v4::v5,v2,v6=>
  bif (decide ((a7 (v6+(v4.length:Int)))<(0:Int)))then
   none
  else
   (fun ck=>tX N v1 v5 (v2+1) ck) (a7 (v6+(v4.length:Int)))
def zK(N:Nat)(v1:List (List bk)):Option ((List bk)):=
 tX N v1 v1 0 (0:Int)
theorem NA(N:Nat)(v1:List (List bk))(r:(List bk))(J:zK N v1=some r):bm Tryz.prog 135 [(.d (.sl (qX v1)))] (·=(.d (.sl (cy r)))):=by
 rw[zK]at J;refine bK Tryz.func135 (by kernel_rfl) (by kernel_rfl) ?_;refine au ai [[],[],[(4,oL v1 GS)]] ?_;refine dP 0 (qX v1) (by kernel_rfl) fun h1=> ?_;have h2:=cr GS h1;refine cC ai 1 [] [0,3,9,10,11] 0 (fun((v2,v3,v6):Nat×(List (List bk))×Int)=>⟨36,[(0,(.d (.sl (qX v1)))),(3,(an v6)),(9,(.d (.sl (qX v1)))),(10,(an (v1.length:Int))),(11,(an (v2:Int)))],[]⟩) (fun((v2,v3,v6):Nat×(List (List bk))×Int)=>v1.drop v2=v3∧tX N v1 v3 v2 v6=some r) (fun((v2,v3,v6):Nat×(List (List bk))×Int)=>v3.length) (0,v1,(0:Int)) ⟨rfl,J⟩ ?_;rintro⟨v2,v3,v6⟩ ⟨h3,J⟩ f1 aV;cases v3 with
 |nil=>
  rw[tX]at J;obtain⟨v7,h4,J⟩:=ar J;refine au ai [[],[(0,bF (bS h3))],[(4,⟨_,_, .jC (YD N v6 v7 h4)⟩)],[(4,oL v1 GS)]] ?_;refine dP 0 (qX v1) (by kernel_rfl) fun h5=> ?_;have h6:=cr GS h5;refine cC ai 2 [] [6,25,26,27] 1 (fun((v8,v9,aC):Nat×(List (List bk))×(List bk))=>⟨36,[(6,(.own 0 (cy aC))),(25,(.d (.sl (qX v1)))),(26,(an (v1.length:Int))),(27,(an (v8:Int)))],[.front 64 3 aC.length]⟩) (fun((v8,v9,aC):Nat×(List (List bk))×(List bk))=>v1.drop v8=v9∧xP N v9 v8 aC=some r) (fun((v8,v9,aC):Nat×(List (List bk))×(List bk))=>v9.length) (0,v1,[]) ⟨rfl,J⟩ ?_;rintro⟨v8,v9,aC⟩ ⟨h7,J⟩ f2 dX;cases v9 with
  |nil=>
   rw[xP]at J;obtain rfl:=sj J;exact wr ai [[],[(0,bF (bS h7))],[]]
  |cons v10 v11=>
   rw[xP]at J;obtain⟨h8,J⟩:=c8 J;exact cx ai dX (v8+1,v11,(aC++v10)) [[],[(0,bT (bR h7))],[(1,oE (R3 (bj h7)))],[(7,⟨_,_, .app (xs:=cy aC) (ys:=cy v10) (zs:=cy (aC++v10)) (n:=(aC++v10).length) bV.symm oy oy (by rw[(bV (l:=aC)),(bV (l:=v10))];exact(cY h8 (by decide)).1) (by rw[(bV (l:=aC)),(bV (l:=v10))];exact(cY h8 (by decide)).2) EO (by first|(rw[(bV (l:=aC)),(bV (l:=v10))];done)|(rw[(bV (l:=aC)),(bV (l:=v10))];rfl)|(rw[(bV (l:=aC)),(bV (l:=v10)),agu];done)|(rw[(bV (l:=aC)),(bV (l:=v10)),agu];rfl)|(rw[(bV (l:=aC)),(bV (l:=v10)),agN]))⟩)],[(2,oq (b8 h7 rfl h6))]] ⟨b7 h7,J⟩
 |cons v4 v5=>
  rw[tX]at J;refine au ai [[],[(0,bT (bR h3))],[(1,oE (R3 (bj h3)))],[(7,oL v4 bV)],[]] ?_;refine bc J (fun h9 J=> ?_) fun h9 J=> ?_
  ·cases J
  exact cx ai aV (v2+1,v5,(a7 (v6+(v4.length:Int)))) [[(0,bF h9)],[(2,oq (b8 h3 rfl h2))]] ⟨b7 h3,J⟩
def vZ(N:Nat)(v3:List (ByteArray×Int))(v2:aY):List bk→Nat→(List (ByteArray×Bool))→Option Int
 |[],_,_=>
  some (0:Int)
 |v7::v8,v5,v9=>
  Option.bind (sS N v7.aq) fun v10=>
  bif v10 then
   Option.bind (bif (gF v9 v7.aq false)then some true else some ((gF v3 v7.aq 0)==(1:Int))) fun v11=>
   bif v11 then
    some (8:Int)
   else
    bif (Nat.blt v9.length 9223372036854775807)then
    Option.bind (ug N v7.dS v2 v3) fun aC=>
    bif (aC !=(0:Int))then
     some aC
    else
     (fun ck=>vZ N v3 v2 v8 (v5+1) ck) ((v7.aq,true)::v9)
    else none
  else
   some (7:Int)
def Ec(N:Nat)(v1:aL)(v2:aY)(v3:List (ByteArray×Int)):Option Int:=
 Option.bind (zK N ([v1.aJ,v1.bG])) fun v4=>
 vZ N v3 v2 v4 0 []
theorem Yz(N:Nat)(v1:aL)(v2:aY)(v3:List (ByteArray×Int))(r:Int)(J:Ec N v1 v2 v3=some r):bW Tryz.prog 100 [(.ptr 0 0),(cE v1)] [.cells (dO v2 [(.mp 1)]), .map (dA v3)] fun r1 h1=>r1=(an r)∧h1=[.cells (dO v2 [(.mp 1)]), .map (dA v3)]:=by
 rw[Ec]at J;refine fy 2 Tryz.func100 (by kernel_rfl) (by kernel_rfl) (agB rfl) ?_;obtain⟨v4,h1,J⟩:=ar J;refine au ai [[],[],[(16,cL (NA N ([v1.aJ,v1.bG]) v4 h1)),(19,oL v4 bV)]] ?_;refine dP 15 (cy v4) (by kernel_rfl) fun h2=> ?_;have h3:=cr bV h2;refine cC ai 1 [] [0,5,15,16,17] 4 (fun((v5,v6,v9):Nat×(List bk)×(List (ByteArray×Bool)))=>⟨52,[(0,(.ptr 0 0)),(5,(.mp 3)),(15,(.d (.sl (cy v4)))),(16,(an (v4.length:Int))),(17,(an (v5:Int)))],[.cells (dO v2 [(.mp 1)]), .map (dA v3), .cells (cE v1).cells, .map (Am v9)]⟩) (fun((v5,v6,v9):Nat×(List bk)×(List (ByteArray×Bool)))=>v4.drop v5=v6∧vZ N v3 v2 v6 v5 v9=some r) (fun((v5,v6,v9):Nat×(List bk)×(List (ByteArray×Bool)))=>v6.length) (0,v4,[]) ⟨rfl,J⟩ ?_;rintro⟨v5,v6,v9⟩ ⟨h4,J⟩ f1 aV;cases v6 with
 |nil=>
  rw[vZ]at J;obtain rfl:=sj J;exact cQ ai [[],[(0,bF (bS h4))],[]]
 |cons v7 v8=>
  rw[vZ]at J;obtain⟨v10,h5,J⟩:=ar J;refine au ai [[],[(0,bT (bR h4))],[(1,oE (kg (bj h4)))],[(7,cL (Hg N v7.aq v10 h5))]] ?_;refine bc J (fun h6 J=> ?_) fun h6 J=> ?_
  ·refine au ai [[(0,bF (cG h6))]] ?_;obtain⟨v11,h8,J⟩:=ar J;refine cN ai [(26,(aM v11))] [.cells (dO v2 [(.mp 1)]), .map (dA v3), .cells (cE v1).cells, .map (Am v9), .cells (DJ v7).cells] ?_ ?_
   ·refine bc h8 (fun h7 h8=> ?_) fun h7 h8=> ?_
    ·obtain rfl:=sj h8;exact⟨so (os [15,18,21,24,27,30,33,36,40] (bT h7) [(11,⟨_,_, .eq (Pw false v9 v7.aq)⟩)]),by kernel_rfl⟩
    obtain rfl:=sj h8;exact⟨so (os [15,18,21,24,27,30,33,36,40] (bF h7) [(11,⟨_,_, .eq (Pw false v9 v7.aq)⟩),(35,⟨_,_, .eq (BZ false v3 v7.aq)⟩)]),by kernel_rfl⟩
   refine bc J (fun h9 J=> ?_) fun h9 J=> ?_
   ·obtain rfl:=sj J;exact cQ ai [[(0,bT h9)],[]]
   obtain⟨az,J⟩:=c8 J;obtain⟨aC,aZ,J⟩:=ar J;refine au ai [[(0,bF h9)],[(10,⟨_,_, .sd (o:= .none) (XA az)⟩)],[(10,⟨_,_, .rq (db:=[(.ptr 0 0),(b9 v7.dS)]) (h:=[.cells (dO v2 [(.mp 1)]), .map (dA v3), .cells (cE v1).cells, .map (Am ((v7.aq,true)::v9)), .cells (DJ v7).cells]) (l:=[0,1]) (by kernel_rfl) (by kernel_rfl) (by kernel_rfl) (by kernel_rfl) (JO N v7.dS v2 v3 aC aZ)⟩)],[]] ?_;refine bc J (fun bf J=> ?_) fun bf J=> ?_
   ·obtain rfl:=sj J;exact cQ ai [[(0,bT bf)],[]]
   exact cx ai aV (v5+1,v8,((v7.aq,true)::v9)) [[(0,bF bf)],[(2,oq (b8 h4 rfl h3))]] ⟨b7 h4,J⟩
  obtain rfl:=sj J;exact cQ ai [[(0,bT (cT h6))],[]]
end Go.Proofs.YtphmhnabilhbgaaGreatDoor
