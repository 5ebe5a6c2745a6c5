/-
  Part 15 of the proof: PQ9.
-/
import Derived.Test.YtphmhnabilhbgaaGreatDoorPm14
namespace Go.Proofs.YtphmhnabilhbgaaGreatDoor
open Go.RowKit
set_option maxRecDepth 100000
set_option maxHeartbeats 0
set_option linter.unusedVariables false
def kG(N:Nat)(v5:aF)(v7:Int64)(v8:agU aF)(fa:Int64→(agU aF)→agW (aw×Int))(v1:jV):agU bf→Nat→Int64→(agU aF)→agW (aw×Int)
 |[],_,aH,aA=>
  Option.bind (L6 N (⟨aH,aA⟩:aw) v5.cZ) fun aT=>
  bif (aT.2 !=(0:Int))then
   some (dB,aT.2)
  else
   Option.bind (Ef N (⟨v7,v8⟩:aw) aT.1) fun aX=>
   bif (aX.2 !=(0:Int))then
    some (dB,aX.2)
   else
    fa aX.1.xK aX.1.xL
 |v11::v12,v9,aH,aA=>
  bif (bL v11.aq==bL v5.aq)then
   Option.bind (v1.N1[((v9:Int)).toNat]?) fun aK=>
   (fun fx oT=>kG N v5 v7 v8 fa v1 v12 (v9+1) fx oT) aK.aL.xK aK.aL.xL
  else
   (fun fx oT=>kG N v5 v7 v8 fa v1 v12 (v9+1) fx oT) aH aA
def GA(N:Nat)(v1:jV):agU aF→Nat→Int64→(agU aF)→agW (aw×Int)
 |[],_,v7,v8=>
  some ((⟨v7,v8⟩:aw),(0:Int))
 |v5::v6,v3,v7,v8=>
  kG N v5 v7 v8 (fun bE dP=>GA N v1 v6 (v3+1) bE dP) v1 v1.VW 0 (0:Int64) ([(⟨v5.aq,(1:Int64)⟩:aF)])
def EX(N:Nat)(v1:jV)(v2:aw):agW (aw×Int):=
 GA N v1 v2.xL 0 v2.xK []
def yl(N:Nat)(v2:ar)(v3:aw×Int)(v8:agU az)(Bj:jV→ar→agW (ar×Int))(v1:jV):agU ar→Nat→(agU ar)→agW (ar×Int)
 |[],_,aT=>
  some ((⟨v2.aQ,v2.aq,v2.dm,v2.aC,v3.1,v8,aT⟩:ar),(0:Int))
 |aH::aA,v11,aT=>
  Option.bind (Bj v1 aH) fun aX=>
  bif (aX.2 !=(0:Int))then
   some (fq,aX.2)
  else
   bif (Nat.ble ((aT.length+1)*160) 140737488355328)then
   (fun fx=>yl N v2 v3 v8 Bj v1 aA (v11+1) fx) (aT++[aX.1])
   else none
def BN(N:Nat)(v8:agU az)(fa:(agU az)→Int64→(agU aF)→agW (ar×Int))(aK:aw×Int)(v6:az)(v1:jV):agU aw→Nat→Int64→(agU aF)→(agU aw)→agW (ar×Int)
 |[],_,cY,cz,v24=>
  bif (Nat.ble ((v8.length+1)*72) 140737488355328)then
  fa (v8++[(⟨aK.1,v6.aV,v24⟩:az)]) cY cz
  else none
 |v20::v21,aR,_,_,v24=>
  Option.bind (EX N v1 v20) fun fV=>
  bif (fV.2 !=(0:Int))then
   some (fq,fV.2)
  else
   bif (Nat.ble ((v24.length+1)*32) 140737488355328)then
   (fun jq m7 aey=>BN N v8 fa aK v6 v1 v21 (aR+1) jq m7 aey) fV.1.xK fV.1.xL (v24++[fV.1])
   else none
def w9(N:Nat)(v2:ar)(v3:aw×Int)(Bj:jV→ar→agW (ar×Int))(v1:jV):agU az→Nat→(agU az)→Int64→(agU aF)→agW (ar×Int)
 |[],_,v8,_,_=>
  yl N v2 v3 v8 Bj v1 v2.a7 0 []
 |v6::v7,v4,v8,_,_=>
  Option.bind (EX N v1 v6.aL) fun aK=>
  bif (aK.2 !=(0:Int))then
   some (fq,aK.2)
  else
   BN N v8 (fun bE dP kM=>w9 N v2 v3 Bj v1 v7 (v4+1) bE dP kM) aK v6 v1 v6.bj 0 aK.1.xK aK.1.xL []
def EP(N:Nat):Nat→jV→ar→agW (ar×Int)
 |0,_,_=>none
 |d+1,v1,v2=>
  Option.bind (EX N v1 v2.aL) fun v3=>
  bif (v3.2 !=(0:Int))then
   some (fq,v3.2)
  else
   w9 N v2 v3 (EP N d) v1 v2.xIdx 0 [] v3.1.xK v3.1.xL
def KJ(N:Nat)(v1:jV)(v2:ar):agW (ar×Int):=EP N N v1 v2
def wY(N:Nat)(v1:ar)(TM:ar→aG→agW (ar×Int))(v2:aG):agU ar→Nat→(agU ar)→agW (ar×Int)
 |[],_,v9=>
  some ((⟨v1.aQ,v1.aq,v1.dm,v1.aC,v1.aL,v1.xIdx,v9⟩:ar),(0:Int))
 |v7::v8,v5,v9=>
  Option.bind (TM v7 v2) fun v10=>
  bif (v10.2 !=(0:Int))then
   some (fq,v10.2)
  else
   bif (Nat.ble ((v9.length+1)*160) 140737488355328)then
   (fun bE=>wY N v1 TM v2 v8 (v5+1) bE) (v9++[v10.1])
   else none
def vH(N:Nat):Nat→ar→aG→agW (ar×Int)
 |0,_,_=>none
 |d+1,v1,v2=>
  Option.bind (bif (v1.aQ==(3:Int))then some (bL v1.aq==bL v2.aq)else some false) fun v3=>
  bif v3 then
   Option.bind (KJ N (⟨v2.aS,v1.xIdx⟩:jV) v2.bq) fun v4=>
   some (v4.1,v4.2)
  else
   wY N v1 (vH N d) v2 v1.a7 0 []
def JN(N:Nat)(v1:ar)(v2:aG):agW (ar×Int):=vH N N v1 v2
def mP(N:Nat)(v1:aY)(v4:Int)(v2:agV):agU aG→Nat→(agU aG)→agW (aY×Int)
 |[],_,v9=>
  Option.bind (DU N (⟨v1.bu,v1.cM,v1.bk,v9,v1.cu⟩:aY)) fun v10=>
  bif (v10.2 !=(0:Int))then
   some (pw,v10.2)
  else
   some ((⟨v1.bu,v1.cM,v1.bk,v9,v1.cu⟩:aY),(0:Int))
 |v7::v8,v5,v9=>
  bif (decide ((0:Int)≤v4))then
  Option.bind (v1.ay[(v4).toNat]?) fun v11=>
  Option.bind (JN N v7.bq v11) fun v12=>
  bif (v12.2 !=(0:Int))then
   some (pw,v12.2)
  else
   Option.bind (bif ((v5:Int) !=v4)then some true else Option.bind (lu N v1.cu v2) fun aH=>
   some aH) fun aA=>
   bif aA then
    bif (Nat.ble ((v9.length+1)*272) 140737488355328)then
    (fun bE=>mP N v1 v4 v2 v8 (v5+1) bE) (v9++[(⟨v7.aq,v7.aC,v7.aS,v7.bI,v7.cG,v12.1⟩:aG)])
    else none
   else
    (fun bE=>mP N v1 v4 v2 v8 (v5+1) bE) v9
  else none
def Sc(N:Nat)(v1:aY)(v2:agV):agW (aY×Int):=
 Option.bind (LZ N v1 v2) fun v3=>
 bif (v3 !=(0:Int))then
  some (pw,v3)
 else
  Option.bind (Mm N v1 v2) fun v4=>
  mP N v1 v4 v2 v1.ay 0 []
end Go.Proofs.YtphmhnabilhbgaaGreatDoor
