/-
  Part 13 of the proof: PQ7.
-/
import Derived.Test.YtphmhnabilhbgaaGreatDoorPm12
namespace Go.Proofs.YtphmhnabilhbgaaGreatDoor
open Go.RowKit
set_option maxRecDepth 100000
set_option maxHeartbeats 0
set_option linter.unusedVariables false
def E2(N:Nat)(v1:aY):agU agV→Nat→agW Int
 |[],_=>
  some (0:Int)
 |v5::v6,v3=>
  bif (decide (((v3:Int)).toNat≤v1.bu.length))then
  Option.bind (xh N v5 ((v1.bu.take ((v3:Int)).toNat).drop 0)) fun v7=>
  bif (v7 !=(0:Int))then
   some v7
  else
   (E2 N v1 v6 (v3+1))
  else none
def Ox(N:Nat)(v1:aY):agW Int:=
 Option.bind (bif (decide ((v1.bu.length:Int)>(64:Int)))then some true else(bif (decide ((v1.bk.length:Int)>(64:Int)))then some true else(bif (decide ((v1.ay.length:Int)>(64:Int)))then some true else(bif (decide ((v1.cu.length:Int)>(64:Int)))then some true else some (decide ((v1.cM.length:Int)>(256:Int))))))) fun v2=>
 bif v2 then
  some (2:Int)
 else
  E2 N v1 v1.bu 0
def Dd(N:Nat)(v1:aw):agU aF→Nat→agW Bool
 |[],_=>
  some true
 |v4::v5,v2=>
  Option.bind (xo N v4.aq) fun v6=>
  Option.bind (bif v6 then(bif (v4.cZ.toInt==(0:Int))then some true else(bif (decide ((v2:Int)>(0:Int)))then bif (decide ((0:Int)≤(a8 ((v2:Int)-(1:Int)))))then
  Option.bind (v1.xL[((a8 ((v2:Int)-(1:Int)))).toNat]?) fun v7=>
  some (!(Op.bytesLess (bL v7.aq) (bL v4.aq)))
  else none else some false))else some true) fun v8=>
  bif v8 then
   some false
  else
   (Dd N v1 v5 (v2+1))
def uw(N:Nat)(v1:aw):agW Bool:=
 Dd N v1 v1.xL 0
def Fl(N:Nat)(v2:agU agV)(v3:agU agV):agU aF→Nat→agW Bool
 |[],_=>
  some true
 |v6::v7,v4=>
  Option.bind (lu N v2 v6.aq) fun v8=>
  Option.bind (bif v8 then some false else Option.bind (lu N v3 v6.aq) fun v9=>
  some (!v9)) fun v10=>
  bif v10 then
   some false
  else
   (Fl N v2 v3 v7 (v4+1))
def E7(N:Nat)(v1:aw)(v2:agU agV)(v3:agU agV):agW Bool:=
 Fl N v2 v3 v1.xL 0
def A0(N:Nat)(v1:aw)(v2:agU agV):agW Int:=
 Option.bind (uw N v1) fun v3=>
 bif v3 then
  Option.bind (E7 N v1 [] v2) fun v4=>
  bif v4 then
   some (0:Int)
  else
   some (9:Int)
 else
  some (1:Int)
def vN(N:Nat)(v1:bn):agW Bool:=
 Option.bind (bif (v1.bW==(1:Int))then some true else some (v1.bW==(3:Int))) fun v2=>
 bif v2 then
  Option.bind (bif (v1.ca==(0:Int))then(bif (v1.cF==(0:Int))then(bif (v1.cE==(0:Int))then some (v1.cJ==(0:Int))else some false)else some false)else some false) fun v3=>
  some v3
 else
  Option.bind (bif (v1.bW==(2:Int))then(bif (decide (v1.ca≥(2:Int)))then(bif (decide (v1.ca≤(31:Int)))then(bif (decide (v1.cF≥(0:Int)))then(bif (decide (v1.cF≤(30:Int)))then(bif (decide (v1.cE≥(1:Int)))then(bif (decide (v1.cE≤(4:Int)))then(bif (v1.cJ==(1:Int))then some true else some (v1.cJ==(2:Int)))else some false)else some false)else some false)else some false)else some false)else some false)else some false) fun v4=>
  some v4
def Gs(N:Nat)(v2:agU agV):agU aw→Nat→agW Int
 |[],_=>
  some (0:Int)
 |v8::v9,v6=>
  Option.bind (A0 N v8 v2) fun v10=>
  bif (v10 !=(0:Int))then
   some v10
  else
   (Gs N v2 v9 (v6+1))
def Kp(N:Nat)(v1:bN)(v2:agU agV)(v3:agU agV):agW Int:=
 Option.bind (xh N v1.aq v3) fun v4=>
 bif (v4 !=(0:Int))then
  some v4
 else
  Option.bind (vN N v1.aC) fun v5=>
  bif v5 then
   bif (decide ((v1.aS.length:Int)>(6:Int)))then
    some (11:Int)
   else
    Gs N v2 v1.aS 0
  else
   some (10:Int)
def DB(N:Nat)(v2:agU agV):agU bf→Nat→(agU agV)→agW Int
 |[],_,_=>
  some (0:Int)
 |v5::v6,v3,v7=>
  Option.bind (xh N v5.aq v7) fun v8=>
  bif (v8 !=(0:Int))then
   some v8
  else
   Option.bind (A0 N v5.ep v2) fun v9=>
   bif (v9 !=(0:Int))then
    some v9
   else
    bif (Nat.ble ((v7.length+1)*16) 140737488355328)then
    (fun bE=>DB N v2 v6 (v3+1) bE) (v7++[v5.aq])
    else none
def IY(N:Nat)(v1:agU bf)(v2:agU agV):agW Int:=
 bif (Nat.ble ((0+v2.length)*16) 140737488355328)then
 DB N v2 v1 0 v2
 else none
def Jx(N:Nat)(v1:aG):agW Int:=
 Option.bind (bif (decide (v1.cG<(0:Int)))then some true else some (decide (v1.cG>(5:Int)))) fun v2=>
 bif v2 then
  some (1:Int)
 else
  Option.bind (bif (v1.cG==(0:Int))then some true else some (v1.cG==(5:Int))) fun v3=>
  Option.bind (bif (v3==((v1.bI.length:Int)==(0:Int)))then(bif (v1.cG==(5:Int))then some ((v1.aS.length:Int)==(0:Int))else some false)else some true) fun v4=>
  bif v4 then
   some (11:Int)
  else
   some (0:Int)
def yx(N:Nat):agU bf→Nat→(agU agV)→agW ((agU agV))
 |[],_,v11=>
  some v11
 |v9::v10,v7,v11=>
  bif (Nat.ble ((v11.length+1)*16) 140737488355328)then
  (fun fx=>yx N v10 (v7+1) fx) (v11++[v9.aq])
  else none
def B9(N:Nat)(v1:aG):agU bf→Nat→(agU agV)→agW ((agU agV))
 |[],_,v6=>
  yx N v1.bI 0 v6
 |v4::v5,v2,v6=>
  bif (Nat.ble ((v6.length+1)*16) 140737488355328)then
  (fun bE=>B9 N v1 v5 (v2+1) bE) (v6++[v4.aq])
  else none
def Mh(N:Nat)(v1:aG):agW ((agU agV)):=
 B9 N v1 v1.aS 0 []
def xQ(N:Nat)(v2:Int)(Uc:ar→Int→agW Int):agU ar→Nat→Int→agW Int
 |[],_,v7=>
  some v7
 |v5::v6,v3,v7=>
  bif (decide (v2>(1:Int)))then
   Option.bind (Uc v5 (a8 (v2-(1:Int)))) fun v8=>
   (fun bE=>xQ N v2 Uc v6 (v3+1) bE) (if(a8 ((1:Int)+v8))>v7 then(a8 ((1:Int)+v8))else v7)
  else
   some v7
def tJ(N:Nat):Nat→ar→Int→agW Int
 |0,_,_=>none
 |d+1,v1,v2=>
  xQ N v2 (tJ N d) v1.a7 0 (1:Int)
def RW(N:Nat)(v1:ar)(v2:Int):agW Int:=tJ N N v1 v2
def Uw(N:Nat)(v1:ar):agW Int:=
 Option.bind (RW N v1 (41:Int)) fun v2=>
 some v2
def Bo(N:Nat)(v2:Int)(Rv:ar→Int→agW Int):agU ar→Nat→Int→agW Int
 |[],_,v7=>
  some v7
 |v5::v6,v3,v7=>
  bif (decide (v7≤v2))then
   Option.bind (Rv v5 (a8 (v2-v7))) fun v8=>
   (fun bE=>Bo N v2 Rv v6 (v3+1) bE) (a8 (v7+v8))
  else
   some v7
def yd(N:Nat):Nat→ar→Int→agW Int
 |0,_,_=>none
 |d+1,v1,v2=>
  Bo N v2 (yd N d) v1.a7 0 (1:Int)
def Ta(N:Nat)(v1:ar)(v2:Int):agW Int:=yd N N v1 v2
def TE(N:Nat)(v1:ar):agW Int:=
 Option.bind (Ta N v1 (2000:Int)) fun v2=>
 some (if(2001:Int)<v2 then(2001:Int)else v2)
def Gl(N:Nat):agU az→Nat→agW Bool
 |[],_=>
  some true
 |v7::v8,v5=>
  Option.bind (bif (bL v7.aV==bL (bs []))then(bif (decide ((v7.bj.length:Int)>(0:Int)))then some true else some false)else(bif (v7.aL.xK.toInt !=(0:Int))then some true else some (decide ((v7.aL.xL.length:Int)>(0:Int))))) fun v9=>
  bif v9 then
   some false
  else
   (Gl N v8 (v5+1))
def Hy(N:Nat)(v1:ar):agW Bool:=
 Option.bind (bif (decide (v1.aQ<(1:Int)))then some true else some (decide (v1.aQ>(18:Int)))) fun v2=>
 bif v2 then
  some false
 else
  Option.bind (bif (v1.aQ !=(1:Int))then(bif ((v1.dm.xN.toInt==(0:Int64).toInt)&&((v1.dm.xD.toInt==(0:Int64).toInt)&&true))then(bif (v1.aQ !=(12:Int))then some (!((v1.aC.bW==(0:Int))&&((v1.aC.ca==(0:Int))&&((v1.aC.cF==(0:Int))&&((v1.aC.cE==(0:Int))&&((v1.aC.cJ==(0:Int))&&true))))))else some false)else some true)else some false) fun v3=>
  bif v3 then
   some false
  else
   Option.bind (bif (v1.aQ !=(2:Int))then(bif (v1.aL.xK.toInt !=(0:Int))then some true else(bif (decide ((v1.aL.xL.length:Int)>(0:Int)))then some true else(bif (v1.aQ !=(3:Int))then(bif (bL v1.aq==bL (bs []))then some (decide ((v1.xIdx.length:Int)>(0:Int)))else some true)else some false)))else(bif (v1.aQ !=(3:Int))then(bif (bL v1.aq==bL (bs []))then some (decide ((v1.xIdx.length:Int)>(0:Int)))else some true)else some false)) fun v4=>
   bif v4 then
    some false
   else
    Gl N v1.xIdx 0
def EZ(N:Nat):agU az→Nat→agW Bool
 |[],_=>
  some true
 |v6::v7,v4=>
  Option.bind (bif (bL v6.aV==bL (bs []))then some false else Option.bind (xo N v6.aV) fun v8=>
  some (!v8)) fun v9=>
  bif v9 then
   some false
  else
   (EZ N v7 (v4+1))
def H8(N:Nat)(v1:ar):agW Bool:=
 Option.bind (bif (v1.aQ==(3:Int))then Option.bind (xo N v1.aq) fun v2=>
 some (!v2)else some false) fun v3=>
 bif v3 then
  some false
 else
  EZ N v1.xIdx 0
def Fz(N:Nat)(v1:Int)(v3:Bool):agW Int:=
 bif v3 then
  some (1:Int)
 else
  bif (v1==(11:Int))then
   some (3:Int)
  else
   some (2:Int)
def D6(N:Nat)(v1:Int)(v2:Bool):agW Int:=
 bif v2 then
  some (0:Int)
 else
  bif (v1==(8:Int))then
   Fz N v1 (v1==(8:Int))
  else
   bif (v1==(12:Int))then
    Fz N v1 (v1==(12:Int))
   else
    Fz N v1 (v1==(18:Int))
def Ks(N:Nat)(v1:Int):agW Int:=
 bif (v1==(1:Int))then
  D6 N v1 (v1==(1:Int))
 else
  bif (v1==(2:Int))then
   D6 N v1 (v1==(2:Int))
  else
   D6 N v1 (v1==(3:Int))
def DL(N:Nat):agU az→Nat→agW Bool
 |[],_=>
  some true
 |v6::v7,v4=>
  bif (decide ((v6.bj.length:Int)>(6:Int)))then
   some false
  else
   (DL N v7 (v4+1))
def Ko(N:Nat)(v1:ar):agW Bool:=
 Option.bind (Ks N v1.aQ) fun v2=>
 Option.bind (bif ((v1.a7.length:Int) !=v2)then some true else some (decide ((v1.xIdx.length:Int)>(6:Int)))) fun v3=>
 bif v3 then
  some false
 else
  DL N v1.xIdx 0
def Eo(N:Nat)(v1:ar):agW Bool:=
 Option.bind (bif (decide (v1.aQ≥(13:Int)))then some (decide (v1.aQ≤(18:Int)))else some false) fun v2=>
 some v2
def HF(N:Nat)(v1:Int)(v2:Int):agW Bool:=
 Option.bind (bif (v1==(11:Int))then(bif (v2==(0:Int))then some true else(bif (v1==(16:Int))then some true else(bif (v1==(17:Int))then some true else some (v1==(18:Int)))))else(bif (v1==(16:Int))then some true else(bif (v1==(17:Int))then some true else some (v1==(18:Int))))) fun v3=>
 some v3
def Fv(N:Nat)(v1:ar):agU ar→Nat→agW Bool
 |[],_=>
  some true
 |v7::v8,v5=>
  Option.bind (Eo N v7) fun v9=>
  Option.bind (HF N v1.aQ (v5:Int)) fun v10=>
  bif (v9==v10)then
   (Fv N v1 v8 (v5+1))
  else
   some false
def L2(N:Nat)(v1:ar):agW Bool:=
 Option.bind (bif (v1.aQ==(1:Int))then Option.bind (vN N v1.aC) fun v2=>
 some (!v2)else(bif (v1.aQ==(12:Int))then Option.bind (vN N v1.aC) fun v3=>
 some (!v3)else some false)) fun v4=>
 bif v4 then
  some false
 else
  Fv N v1 v1.a7 0
def DM(N:Nat):Nat→Int64→Int64→agW Int64
 |0,_,_=>none
 |v3+1,v4,v5=>
  bif (v5.toInt !=(0:Int))then
   (fun bE dP=>DM N v3 bE dP) v5 (Int64.ofInt ((v4.toInt).tmod v5.toInt))
  else
   some v4
def Na(N:Nat)(v1:Int64)(v2:Int64):agW Int64:=
 DM N N v1 v2
def JY(N:Nat)(v1:bn)(v2:fO):agW Bool:=
 bif (v1.bW==(2:Int))then
  bif (decide ((0:Int)≤(a8 (v1.ca-(1:Int)))))then
  Option.bind (bif (v2.xD.toInt==(1:Int))then(bif (decide (v2.xN.toInt≥(-(Int64.ofInt ((1:Int)*2^(min ((a8 (v1.ca-(1:Int)))).toNat (IntKind.bits .i64))))).toInt))then some (decide (v2.xN.toInt<(Int64.ofInt ((1:Int)*2^(min ((a8 (v1.ca-(1:Int)))).toNat (IntKind.bits .i64)))).toInt))else some false)else some false) fun v3=>
  some v3
  else none
 else
  Option.bind (bif (decide (v2.xN.toInt>(2147483647:Int)))then some true else(bif (decide (v2.xN.toInt<(-2147483647:Int)))then some true else(bif (decide (v2.xD.toInt<(1:Int)))then some true else some (decide (v2.xD.toInt>(2147483647:Int)))))) fun v4=>
  bif v4 then
   some false
  else
   bif (v1.bW==(3:Int))then
    some (v2.xD.toInt==(1:Int))
   else
    Option.bind (Na N (zx v2.xN (-v2.xN)) v2.xD) fun v5=>
    some (v5.toInt==(1:Int))
def En(N:Nat)(fa:agW Bool):agU aw→Nat→agW Bool
 |[],_=>
  fa
 |aH::aA,v11=>
  Option.bind (uw N aH) fun aT=>
  bif aT then
   (En N fa aA (v11+1))
  else
   some false
def GB(N:Nat):agU az→Nat→agW Bool
 |[],_=>
  some true
 |v8::v9,v6=>
  Option.bind (uw N v8.aL) fun v10=>
  bif v10 then
   En N (GB N v9 (v6+1)) v8.bj 0
  else
   some false
def Ju(N:Nat)(v1:ar):agW Bool:=
 Option.bind (bif (v1.aQ==(1:Int))then Option.bind (JY N v1.aC v1.dm) fun v2=>
 (bif v2 then Option.bind (uw N v1.aL) fun v3=>
 some (!v3)else some true)else Option.bind (uw N v1.aL) fun v4=>
 some (!v4)) fun v5=>
 bif v5 then
  some false
 else
  GB N v1.xIdx 0
def FZ(N:Nat)(Q8:ar→agW Int):agU ar→Nat→agW Int
 |[],_=>
  some (0:Int)
 |v9::v10,v7=>
  Option.bind (Q8 v9) fun v11=>
  bif (v11 !=(0:Int))then
   some v11
  else
   (FZ N Q8 v10 (v7+1))
def BV(N:Nat):Nat→ar→agW Int
 |0,_=>none
 |d+1,v1=>
  Option.bind (Hy N v1) fun v2=>
  bif v2 then
   Option.bind (H8 N v1) fun v3=>
   bif v3 then
    Option.bind (Ko N v1) fun v4=>
    bif v4 then
     Option.bind (L2 N v1) fun v5=>
     bif v5 then
      Option.bind (Ju N v1) fun v6=>
      bif v6 then
       FZ N (BV N d) v1.a7 0
      else
       some (1:Int)
     else
      some (10:Int)
    else
     some (11:Int)
   else
    some (7:Int)
  else
   some (5:Int)
def S3(N:Nat)(v1:ar):agW Int:=BV N N v1
def GN(N:Nat)(v1:ar):agW Int:=
 Option.bind (Uw N v1) fun v2=>
 bif (decide (v2>(40:Int)))then
  some (13:Int)
 else
  Option.bind (TE N v1) fun v3=>
  bif (decide (v3>(2000:Int)))then
   some (2:Int)
  else
   Option.bind (S3 N v1) fun v4=>
   some v4
def EO(N:Nat)(v2:agU agV)(v1:aY):agU aw→Nat→agW Int
 |[],_=>
  some (0:Int)
 |v6::v7,v4=>
  Option.bind (E7 N v6 v2 v1.bu) fun v8=>
  bif v8 then
   (EO N v2 v1 v7 (v4+1))
  else
   some (9:Int)
def K3(N:Nat)(v1:aY)(v2:agU agV)(v3:agU aw):agW Int:=
 EO N v2 v1 v3 0
end Go.Proofs.YtphmhnabilhbgaaGreatDoor
