/-
  Part 14 of the proof: PQ8.
-/
import Derived.Test.YtphmhnabilhbgaaGreatDoorPm13
namespace Go.Proofs.YtphmhnabilhbgaaGreatDoor
open Go.RowKit
set_option maxRecDepth 100000
set_option maxHeartbeats 0
set_option linter.unusedVariables false
def AB(N:Nat)(v9:aG):agU bf→Nat→(agU aw)→agW (bn×(agU aw)×Bool)
 |[],_,aT=>
  some (v9.aC,aT,true)
 |aH::aA,v11,aT=>
  bif (Nat.ble ((aT.length+1)*32) 140737488355328)then
  (fun jq=>AB N v9 aA (v11+1) jq) (aT++[aH.ep])
  else none
def Fu(N:Nat)(v2:agV):agU aG→Nat→agW (bn×(agU aw)×Bool)
 |[],_=>
  some (fb,[],false)
 |v9::v10,v7=>
  bif (bL v9.aq==bL v2)then
   AB N v9 v9.aS 0 []
  else
   (Fu N v2 v10 (v7+1))
def Bi(N:Nat)(v2:agV)(v1:aY):agU bN→Nat→agW (bn×(agU aw)×Bool)
 |[],_=>
  Fu N v2 v1.ay 0
 |v5::v6,v3=>
  bif (bL v5.aq==bL v2)then
   some (v5.aC,v5.aS,true)
  else
   (Bi N v2 v1 v6 (v3+1))
def EB(N:Nat)(v1:aY)(v2:agV):agW (bn×(agU aw)×Bool):=
 Bi N v2 v1 v1.bk 0
def AH(N:Nat)(v4:bn×(agU aw)×Bool)(v2:agU agV)(v1:aY):agU az→Nat→agW (bn×Int)
 |[],_=>
  some (v4.1,(0:Int))
 |v7::v8,v5=>
  bif (bL v7.aV==bL (bs []))then
   Option.bind (E7 N v7.aL v2 v1.bu) fun v9=>
   bif v9 then
    (AH N v4 v2 v1 v8 (v5+1))
   else
    some (fb,(9:Int))
  else
   Option.bind (EB N v1 v7.aV) fun v10=>
   bif v10.2.2 then
    bif (v10.1.bW !=(3:Int))then
     some (fb,(10:Int))
    else
     bif ((v10.2.1.length:Int) !=(v7.bj.length:Int))then
      some (fb,(11:Int))
     else
      Option.bind (K3 N v1 v2 v7.bj) fun v11=>
      bif (v11 !=(0:Int))then
       some (fb,v11)
      else
       (AH N v4 v2 v1 v8 (v5+1))
   else
    some (fb,(9:Int))
def Ha(N:Nat)(v1:aY)(v2:agU agV)(v3:ar):agW (bn×Int):=
 Option.bind (EB N v1 v3.aq) fun v4=>
 bif v4.2.2 then
  bif ((v4.2.1.length:Int) !=(v3.xIdx.length:Int))then
   some (fb,(11:Int))
  else
   AH N v4 v2 v1 v3.xIdx 0
 else
  some (fb,(9:Int))
def mv(N:Nat)(v3:ar)(v1:aY)(v2:agU agV)(Ty:aY→(agU agV)→ar→agW (bn×Int)):agU ar→Nat→(agU bn)→agW (bn×Int)
 |[],_,v8=>
  Option.bind (bif (v3.aQ==(1:Int))then some true else some (v3.aQ==(12:Int))) fun v9=>
  bif v9 then
   some (v3.aC,(0:Int))
  else
   bif (v3.aQ==(2:Int))then
    Option.bind (K3 N v1 v2 [v3.aL]) fun v10=>
    some ((⟨(3:Int),(0:Int),(0:Int),(0:Int),(0:Int)⟩:bn),v10)
   else
    bif (v3.aQ==(3:Int))then
     Option.bind (Ha N v1 v2 v3) fun v11=>
     some (v11.1,v11.2)
    else
     bif (v3.aQ==(11:Int))then
      Option.bind (v8[1]?) fun v12=>
      Option.bind (v8[2]?) fun aH=>
      bif ((v12.bW==aH.bW)&&((v12.ca==aH.ca)&&((v12.cF==aH.cF)&&((v12.cE==aH.cE)&&((v12.cJ==aH.cJ)&&true)))))then
       some (v12,(0:Int))
      else
       some (fb,(10:Int))
     else
      bif (v3.aQ==(8:Int))then
       Option.bind (v8[0]?) fun aA=>
       some (aA,(0:Int))
      else
       bif (decide (v3.aQ≥(16:Int)))then
        some (fb,(0:Int))
       else
        Option.bind (v8[0]?) fun aT=>
        Option.bind (v8[1]?) fun aX=>
        bif ((aT.bW==aX.bW)&&((aT.ca==aX.ca)&&((aT.cF==aX.cF)&&((aT.cE==aX.cE)&&((aT.cJ==aX.cJ)&&true)))))then
         bif (decide (v3.aQ≥(13:Int)))then
          some (fb,(0:Int))
         else
          some (aT,(0:Int))
        else
         some (fb,(10:Int))
 |v6::v7,v4,v8=>
  Option.bind (Ty v1 v2 v6) fun aK=>
  bif (aK.2 !=(0:Int))then
   some (fb,aK.2)
  else
   bif (Nat.ble ((v8.length+1)*40) 140737488355328)then
   (fun bE=>mv N v3 v1 v2 Ty v7 (v4+1) bE) (v8++[aK.1])
   else none
def xB(N:Nat):Nat→aY→(agU agV)→ar→agW (bn×Int)
 |0,_,_,_=>none
 |d+1,v1,v2,v3=>
  mv N v3 v1 v2 (xB N d) v3.a7 0 []
def GU(N:Nat)(v1:aY)(v2:agU agV)(v3:ar):agW (bn×Int):=xB N N v1 v2 v3
def BT(N:Nat)(v1:aY)(v2:agU agV)(v3:ar):agW (bn×Int):=
 Option.bind (GN N v3) fun v4=>
 bif (v4 !=(0:Int))then
  some (fb,v4)
 else
  Option.bind (Eo N v3) fun v5=>
  bif v5 then
   some (fb,(10:Int))
  else
   Option.bind (GU N v1 v2 v3) fun v6=>
   bif (v6.2 !=(0:Int))then
    some (fb,v6.2)
   else
    some (v6.1,(0:Int))
def LC(N:Nat)(v1:aY)(v2:Int)(v3:agU agV):agW Int:=
 bif (decide ((0:Int)≤v2))then
 Option.bind (v1.ay[(v2).toNat]?) fun v4=>
 Option.bind (xh N v4.aq v3) fun v5=>
 bif (v5 !=(0:Int))then
  some v5
 else
  Option.bind (vN N v4.aC) fun v6=>
  bif v6 then
   Option.bind (bif (decide ((v4.aS.length:Int)>(6:Int)))then some true else some (decide ((v4.bI.length:Int)>(6:Int)))) fun v7=>
   bif v7 then
    some (11:Int)
   else
    bif (Nat.ble ((0+v4.aS.length)*48) 140737488355328)then
    bif (Nat.ble ((v4.aS.length+v4.bI.length)*48) 140737488355328)then
    Option.bind (IY N (v4.aS++v4.bI) v1.bu) fun v8=>
    bif (v8 !=(0:Int))then
     some v8
    else
     Option.bind (Jx N v4) fun v9=>
     bif (v9 !=(0:Int))then
      some v9
     else
      bif (decide ((v2).toNat≤v1.ay.length))then
      Option.bind (Mh N v4) fun v10=>
      Option.bind (BT N (⟨v1.bu,[],v1.bk,((v1.ay.take (v2).toNat).drop 0),[]⟩:aY) v10 v4.bq) fun v11=>
      bif (v11.2 !=(0:Int))then
       some v11.2
      else
       bif ((v11.1.bW==v4.aC.bW)&&((v11.1.ca==v4.aC.ca)&&((v11.1.cF==v4.aC.cF)&&((v11.1.cE==v4.aC.cE)&&((v11.1.cJ==v4.aC.cJ)&&true)))))then
        some (0:Int)
       else
        some (10:Int)
      else none
    else none
    else none
  else
   some (10:Int)
 else none
def Aq(N:Nat)(v1:aY):agU agV→Nat→Int→agW (Int×Int)
 |[],_,_=>
  some ((0:Int),(0:Int))
 |v21::cY,bG,cz=>
  Option.bind (EB N v1 v21) fun v24=>
  bif v24.2.2 then
   bif (decide (((bG:Int)).toNat≤v1.cu.length))then
   Option.bind (lu N ((v1.cu.take ((bG:Int)).toNat).drop 0) v21) fun fV=>
   bif fV then
    some (cz,(8:Int))
   else
    (fun tY=>Aq N v1 cY (bG+1) tY) (a8 (cz+(1:Int)))
   else none
  else
   some (cz,(9:Int))
def wD(N:Nat)(v1:aY):agU aG→Nat→(agU agV)→Int→agW (Int×Int)
 |[],_,_,aR=>
  Aq N v1 v1.cu 0 aR
 |aT::aX,aH,aK,aR=>
  Option.bind (LC N v1 (aH:Int) aK) fun mU=>
  bif (mU !=(0:Int))then
   some (aR,mU)
  else
   bif (Nat.ble ((aK.length+1)*16) 140737488355328)then
   (fun jq m7=>wD N v1 aX (aH+1) jq m7) (aK++[aT.aq]) (a8 (aR+(1:Int)))
   else none
def vy(N:Nat)(v1:aY):agU bN→Nat→(agU agV)→Int→agW (Int×Int)
 |[],_,v11,v12=>
  wD N v1 v1.ay 0 v11 v12
 |v9::v10,v7,v11,v12=>
  Option.bind (Kp N v9 v1.bu v11) fun wy=>
  bif (wy !=(0:Int))then
   some (v12,wy)
  else
   bif (Nat.ble ((v11.length+1)*16) 140737488355328)then
   (fun fx oT=>vy N v1 v10 (v7+1) fx oT) (v11++[v9.aq]) (a8 (v12+(1:Int)))
   else none
def Bx(N:Nat)(v1:aY):agU cv→Nat→agW (Int×Int)
 |[],_=>
  bif (Nat.ble ((0+v1.bu.length)*16) 140737488355328)then
  vy N v1 v1.bk 0 v1.bu (2:Int)
  else none
 |v5::v6,v3=>
  Option.bind (A0 N v5.aL v1.bu) fun v28=>
  bif (v28 !=(0:Int))then
   some ((1:Int),v28)
  else
   (Bx N v1 v6 (v3+1))
def DU(N:Nat)(v1:aY):agW (Int×Int):=
 Option.bind (Ox N v1) fun v2=>
 bif (v2 !=(0:Int))then
  some ((0:Int),v2)
 else
  Bx N v1 v1.cM 0
def Gj(N:Nat)(v2:agV):agU aG→Nat→agW Int
 |[],_=>
  some (-1:Int)
 |v5::v6,v3=>
  bif (bL v5.aq==bL v2)then
   some (v3:Int)
  else
   (Gj N v2 v6 (v3+1))
def Mm(N:Nat)(v1:aY)(v2:agV):agW Int:=
 Gj N v2 v1.ay 0
def DY(N:Nat)(B5:ar→agV→agW Bool)(v2:agV):agU ar→Nat→agW Bool
 |[],_=>
  some true
 |v9::v10,v7=>
  Option.bind (B5 v9 v2) fun v11=>
  bif v11 then
   (DY N B5 v2 v10 (v7+1))
  else
   some false
def BL(N:Nat)(B5:ar→agV→agW Bool)(v2:agV)(v1:ar):agU az→Nat→agW Bool
 |[],_=>
  DY N B5 v2 v1.a7 0
 |v5::v6,v3=>
  Option.bind (bif (bL v5.aV==bL v2)then some true else(bif (v1.aQ==(3:Int))then(bif (bL v1.aq==bL v2)then some (!(bL v5.aV==bL (bs [])))else some false)else some false)) fun v12=>
  bif v12 then
   some false
  else
   (BL N B5 v2 v1 v6 (v3+1))
def Gt(N:Nat):Nat→ar→agV→agW Bool
 |0,_,_=>none
 |d+1,v1,v2=>
  BL N (Gt N d) v2 v1 v1.xIdx 0
def SF(N:Nat)(v1:ar)(v2:agV):agW Bool:=Gt N N v1 v2
def DJ(N:Nat)(v2:agV):agU aG→Nat→agW Int
 |[],_=>
  some (0:Int)
 |v8::v9,v6=>
  Option.bind (SF N v8.bq v2) fun v10=>
  bif v10 then
   (DJ N v2 v9 (v6+1))
  else
   some (1:Int)
def LZ(N:Nat)(v1:aY)(v2:agV):agW Int:=
 Option.bind (DU N v1) fun v3=>
 bif (v3.2 !=(0:Int))then
  some v3.2
 else
  Option.bind (Mm N v1 v2) fun v4=>
  bif (decide (v4<(0:Int)))then
   some (9:Int)
  else
   bif (decide ((0:Int)≤v4))then
   Option.bind (v1.ay[(v4).toNat]?) fun v5=>
   bif (v5.cG !=(0:Int))then
    some (1:Int)
   else
    DJ N v2 v1.ay 0
   else none
def yU(N:Nat)(v1:aw):agW Int:=
 Option.bind (uw N v1) fun v2=>
 bif v2 then
  some (0:Int)
 else
  some (1:Int)
def Gi(N:Nat)(v1:Int64)(v2:Int64):agW (Int64×Bool):=
 Option.bind (bif (v1.toInt==(0:Int))then some true else some (v2.toInt==(0:Int))) fun v3=>
 bif v3 then
  some ((0:Int64),true)
 else
  Option.bind (bif (v1.toInt==(-1:Int))then(bif (v2.toInt==(-9223372036854775808:Int))then some true else(bif (v2.toInt==(-1:Int))then(bif (v1.toInt==(-9223372036854775808:Int))then some true else bif (v2.toInt !=(0:Int))then
  some ((Int64.ofInt (((v1*v2).toInt).tdiv v2.toInt)).toInt !=v1.toInt)
  else none)else bif (v2.toInt !=(0:Int))then
  some ((Int64.ofInt (((v1*v2).toInt).tdiv v2.toInt)).toInt !=v1.toInt)
  else none))else(bif (v2.toInt==(-1:Int))then(bif (v1.toInt==(-9223372036854775808:Int))then some true else bif (v2.toInt !=(0:Int))then
  some ((Int64.ofInt (((v1*v2).toInt).tdiv v2.toInt)).toInt !=v1.toInt)
  else none)else bif (v2.toInt !=(0:Int))then
  some ((Int64.ofInt (((v1*v2).toInt).tdiv v2.toInt)).toInt !=v1.toInt)
  else none)) fun v4=>
  bif v4 then
   some ((0:Int64),false)
  else
   some ((v1*v2),true)
def zO(N:Nat)(v4:Int64×Bool)(v2:Int64):agU aF→Nat→(agU aF)→agW (aw×Int)
 |[],_,v9=>
  some ((⟨v4.1,v9⟩:aw),(0:Int))
 |v7::v8,v5,v9=>
  Option.bind (Gi N v7.cZ v2) fun v10=>
  bif v10.2 then
   bif (Nat.ble ((v9.length+1)*24) 140737488355328)then
   (fun bE=>zO N v4 v2 v8 (v5+1) bE) (v9++[(⟨v7.aq,v10.1⟩:aF)])
   else none
  else
   some (dB,(3:Int))
def L6(N:Nat)(v1:aw)(v2:Int64):agW (aw×Int):=
 Option.bind (yU N v1) fun v3=>
 bif (v3 !=(0:Int))then
  some (dB,(1:Int))
 else
  bif (v2.toInt==(0:Int))then
   some (dB,(0:Int))
  else
   Option.bind (Gi N v1.xK v2) fun v4=>
   bif v4.2 then
    zO N v4 v2 v1.xL 0 []
   else
    some (dB,(3:Int))
def FR(N:Nat)(v1:Int64)(v2:Int64):agW (Int64×Bool):=
 Option.bind (bif (decide (v2.toInt>(0:Int)))then(bif (decide (v1.toInt>((9223372036854775807:Int64)-v2).toInt))then some true else(bif (decide (v2.toInt<(0:Int)))then some (decide (v1.toInt<((-9223372036854775808:Int64)-v2).toInt))else some false))else(bif (decide (v2.toInt<(0:Int)))then some (decide (v1.toInt<((-9223372036854775808:Int64)-v2).toInt))else some false)) fun v3=>
 bif v3 then
  some ((0:Int64),false)
 else
  some ((v1+v2),true)
def Ga(N:Nat)(v3:agU agV)(v1:Nat)(v2:agV):Nat→Int→agW Bool
 |0,_=>none
 |v4+1,v5=>
  bif (Nat.beq v3.length v1)then
  bif (decide (v5<(v1:Int)))then
   bif (decide ((0:Int)≤v5))then
   Option.bind (v3[(v5).toNat]?) fun v6=>
   bif (bL v6==bL v2)then
    some true
   else
    (fun bE=>Ga N v3 v1 v2 v4 bE) (a8 (v5+(1:Int)))
   else none
  else
   some false
  else none
def QA(N:Nat)(v1:Nat)(v2:agV)(v3:agU agV):agW Bool:=
 Ga N v3 v1 v2 N (0:Int)
def Cl(N:Nat)(v1:Nat):Nat→Int→(agU agV)→agW (Nat×(agU agV))
 |0,_,_=>none
 |v5+1,v6,v7=>
  Option.bind (bif (decide (v6>(0:Int)))then bif (Nat.beq v7.length (v1+1))then
  bif (decide ((0:Int)≤(a8 (v6-(1:Int)))))then
  bif (decide ((a8 (v6-(1:Int)))<((v1+1):Int)))then
  Option.bind (v7[((a8 (v6-(1:Int)))).toNat]?) fun v8=>
  bif (decide ((0:Int)≤v6))then
  bif (decide (v6<((v1+1):Int)))then
  Option.bind (v7[(v6).toNat]?) fun v9=>
  some (!((Op.bytesLess (bL v8) (bL v9))||(bL v8==bL v9)))
  else none
  else none
  else none
  else none
  else none else some false) fun v10=>
  bif v10 then
   bif (Nat.beq v7.length (v1+1))then
   bif (decide ((0:Int)≤v6))then
   bif (decide (v6<((v1+1):Int)))then
   Option.bind (v7[(v6).toNat]?) fun v11=>
   bif (decide ((0:Int)≤(a8 (v6-(1:Int)))))then
   bif (decide ((a8 (v6-(1:Int)))<((v1+1):Int)))then
   Option.bind (v7[((a8 (v6-(1:Int)))).toNat]?) fun v12=>
   bif (Nat.beq (v7.set ((v6).toNat) v12).length (v1+1))then
   Option.bind ((v7.set ((v6).toNat) v12)[((a8 (v6-(1:Int)))).toNat]?) fun aH=>
   (fun bE dP=>Cl N v1 v5 bE dP) (a8 (v6-(1:Int))) ((v7.set ((v6).toNat) v12).set (((a8 (v6-(1:Int)))).toNat) v11)
   else none
   else none
   else none
   else none
   else none
   else none
  else
   some ((v1+1),v7)
def KY(N:Nat)(v1:Nat)(v2:agV)(v3:agU agV):agW (Nat×(agU agV)):=
 Option.bind (QA N v1 v2 v3) fun v4=>
 bif v4 then
  some (v1,v3)
 else
  bif (Nat.beq v3.length v1)then
  bif (Nat.ble ((v1+1)*16) 140737488355328)then
  bif (Nat.beq (v3++[v2]).length (v1+1))then
  Cl N v1 N (a8 (((v1+1):Int)-(1:Int))) (v3++[v2])
  else none
  else none
  else none
def EE(N:Nat)(fa:Nat→(agU agV)→agW ((agU agV))):agU aF→Nat→Nat→(agU agV)→agW ((agU agV))
 |[],_,v12,aH=>
  fa v12 aH
 |v10::v11,v8,v12,aH=>
  Option.bind (KY N v12 v10.aq aH) fun aA=>
  (fun fx oT=>EE N fa v11 (v8+1) fx oT) aA.1 aA.2
def xe(N:Nat):agU aw→Nat→Nat→(agU agV)→agW ((agU agV))
 |[],_,v6,v7=>
  bif (Nat.beq v7.length v6)then
  some v7
  else none
 |v4::v5,v2,v6,v7=>
  EE N (fun bE dP=>xe N v5 (v2+1) bE dP) v4.xL 0 v6 v7
def JX(N:Nat)(v1:agU aw):agW ((agU agV)):=
 xe N v1 0 0 []
def Ek(N:Nat)(v2:agV):agU aF→Nat→agW Int64
 |[],_=>
  some (0:Int64)
 |v5::v6,v3=>
  bif (bL v5.aq==bL v2)then
   some v5.cZ
  else
   (Ek N v2 v6 (v3+1))
def JC(N:Nat)(v1:aw)(v2:agV):agW Int64:=
 Ek N v2 v1.xL 0
def vv(N:Nat)(v6:Int64×Bool)(v1:aw)(v2:aw):agU agV→Nat→(agU aF)→agW (aw×Int)
 |[],_,v12=>
  some ((⟨v6.1,v12⟩:aw),(0:Int))
 |v10::v11,v8,v12=>
  Option.bind (JC N v1 v10) fun aH=>
  Option.bind (JC N v2 v10) fun aA=>
  Option.bind (FR N aH aA) fun aT=>
  bif aT.2 then
   bif (aT.1.toInt !=(0:Int))then
    bif (Nat.ble ((v12.length+1)*24) 140737488355328)then
    (fun bE=>vv N v6 v1 v2 v11 (v8+1) bE) (v12++[(⟨v10,aT.1⟩:aF)])
    else none
   else
    (fun bE=>vv N v6 v1 v2 v11 (v8+1) bE) v12
  else
   some (dB,(3:Int))
def Ef(N:Nat)(v1:aw)(v2:aw):agW (aw×Int):=
 Option.bind (yU N v1) fun v3=>
 Option.bind (bif (v3 !=(0:Int))then some true else Option.bind (yU N v2) fun v4=>
 some (v4 !=(0:Int))) fun v5=>
 bif v5 then
  some (dB,(1:Int))
 else
  Option.bind (FR N v1.xK v2.xK) fun v6=>
  bif v6.2 then
   Option.bind (JX N ([v1,v2])) fun v7=>
   vv N v6 v1 v2 v7 0 []
  else
   some (dB,(3:Int))
end Go.Proofs.YtphmhnabilhbgaaGreatDoor
