/-
  Part 5 of the proof: AbsDat, IterE, KwS, AbsKern.
-/
import Derived.Test.YtnnapanbbbcalaaGreatDoorPe4
import Derived.Test.YtnnapanbbbcalaaGreatDoorProg
import Derived.WalkKit
import Derived.Shelf.Strings.Fields
import Derived.KernelRfl
set_option linter.defProp false
namespace Go.Proofs.YtnnapanbbbcalaaGreatDoor
open Tryz
open Go.RowKit
set_option linter.unusedVariables false
def jf(x:so):I D:=[.v (.string x)]
def cD(l:I so):I (I D):=l.map jf
def mY(l:I so):cD l=l.map jf:=rfl
def ft{l:I so}:(cD l).length=l.length:=by rw[mY,Zu]
def kp{l:I so}{k:Nat}{x:so}(h:l[k]?=some x):(cD l)[k]?=some (jf x):=by rw[mY,Zs,h];rfl
def atg{a b:I so}:cD a++cD b=cD (a++b):=by rw[mY,mY,mY,aa]
def sS{l:I so}:∀c∈cD l,c.length=1:=by
 intro c a;rw[mY]at a;obtain⟨x,_,rfl⟩:=UU.1 a;rfl
def aaH{l:I so}{k:Nat}:(cD l).drop k=cD (l.drop k):=by rw[mY,mY,List.map_drop]
def Ed{l:I so}{k n:Nat}:((cD l).take n).drop k=cD ((l.take n).drop k):=by rw[mY,mY,List.map_drop,List.map_take]
def fk(x:Int):I D:=[.v (.int .i64 x)]
def bH(l:I Int):I (I D):=l.map fk
def pk(l:I Int):bH l=l.map fk:=rfl
def fG{l:I Int}:(bH l).length=l.length:=by rw[pk,Zu]
def gY{l:I Int}{k:Nat}{x:Int}(h:l[k]?=some x):(bH l)[k]?=some (fk x):=by rw[pk,Zs,h];rfl
def aqY{a b:I Int}:bH a++bH b=bH (a++b):=by rw[pk,pk,pk,aa]
def GY{l:I Int}:∀c∈bH l,c.length=1:=by
 intro c a;rw[pk]at a;obtain⟨x,_,rfl⟩:=UU.1 a;rfl
structure dX where
 ay:ByteArray
 eW:Int64
def Hp(x:dX):I D:=[.v (.string x.ay),.v (.int .i64 x.eW.toInt)]
def tP(x:dX):AV:= .agg [.d (.v (.string x.ay)),.d (.v (.int .i64 x.eW.toInt))]
structure aM where
 bB:Int
 bW:Int
 ck:Int
 ct:Int
 cC:Int
def PE(x:aM):I D:=[.v (.int .i64 x.bB),.v (.int .i64 x.bW),.v (.int .i64 x.ck),.v (.int .i64 x.ct),.v (.int .i64 x.cC)]
def bY(x:aM):AV:= .agg [.d (.v (.int .i64 x.bB)),.d (.v (.int .i64 x.bW)),.d (.v (.int .i64 x.ck)),.d (.v (.int .i64 x.ct)),.d (.v (.int .i64 x.cC))]
structure aB where
 xN:Int64
 xD:Int64
def BA(x:aB):I D:=[.v (.int .i64 x.xN.toInt),.v (.int .i64 x.xD.toInt)]
def bp(x:aB):AV:= .agg [.d (.v (.int .i64 x.xN.toInt)),.d (.v (.int .i64 x.xD.toInt))]
structure aJ where
 ay:ByteArray
 dP:Int64
def jG(x:aJ):I D:=[.v (.string x.ay),.v (.int .i64 x.dP.toInt)]
def Nd(x:aJ):AV:= .agg [.d (.v (.string x.ay)),.d (.v (.int .i64 x.dP.toInt))]
structure fP where
 iQ:aB
 gw:aM
def eJ(x:fP):AV:= .agg [.d (.v (.int .i64 x.iQ.xN.toInt)),.d (.v (.int .i64 x.iQ.xD.toInt)),.d (.v (.int .i64 x.gw.bB)),.d (.v (.int .i64 x.gw.bW)),.d (.v (.int .i64 x.gw.ck)),.d (.v (.int .i64 x.gw.ct)),.d (.v (.int .i64 x.gw.cC))]
structure gi where
 xV:aB
 xT:aM
 xE:Int
def pW(x:gi):AV:= .agg [.d (.v (.int .i64 x.xV.xN.toInt)),.d (.v (.int .i64 x.xV.xD.toInt)),.d (.v (.int .i64 x.xT.bB)),.d (.v (.int .i64 x.xT.bW)),.d (.v (.int .i64 x.xT.ck)),.d (.v (.int .i64 x.xT.ct)),.d (.v (.int .i64 x.xT.cC)),.d (.v (.int .i64 x.xE))]
structure kL where
 pw:Int
 my:Int
 lz:Int
def Ib(x:kL):AV:= .agg [.d (.v (.int .u64 x.pw)),.d (.v (.int .u64 x.my)),.d (.v (.int .u64 x.lz))]
structure cE where
 cH:Int
 cY:Int
 dp:Int
 di:Int
 dd:Int
 c7:Int
def fp(x:cE):AV:= .agg [.d (.v (.int .u64 x.cH)),.d (.v (.int .u64 x.cY)),.d (.v (.int .u64 x.dp)),.d (.v (.int .u64 x.di)),.d (.v (.int .u64 x.dd)),.d (.v (.int .u64 x.c7))]
def dMonos(l:I dX):I (I D):=l.map Hp
def zc(l:I dX):dMonos l=l.map Hp:=rfl
def jx{l:I dX}:(dMonos l).length=l.length:=by rw[zc,Zu]
def lM{l:I dX}{k:Nat}{x:dX}(h:l[k]?=some x):(dMonos l)[k]?=some (Hp x):=by rw[zc,Zs,h];rfl
def asR{a b:I dX}:dMonos a++dMonos b=dMonos (a++b):=by rw[zc,zc,zc,aa]
def aeE{l:I dX}:∀c∈dMonos l,c.length=2:=by
 intro c a;rw[zc]at a;obtain⟨x,_,rfl⟩:=UU.1 a;rfl
def aS(l:I aJ):I (I D):=l.map jG
def sk(l:I aJ):aS l=l.map jG:=rfl
def m6{l:I aJ}:(aS l).length=l.length:=by rw[sk,Zu]
def n8{l:I aJ}{k:Nat}{x:aJ}(h:l[k]?=some x):(aS l)[k]?=some (jG x):=by rw[sk,Zs,h];rfl
def arW{a b:I aJ}:aS a++aS b=aS (a++b):=by rw[sk,sk,sk,aa]
def aeu{l:I aJ}:∀c∈aS l,c.length=2:=by
 intro c a;rw[sk]at a;obtain⟨x,_,rfl⟩:=UU.1 a;rfl
def eC(l:I aB):I (I D):=l.map BA
def uQ(l:I aB):eC l=l.map BA:=rfl
def jC{l:I aB}:(eC l).length=l.length:=by rw[uQ,Zu]
def mh{l:I aB}{k:Nat}{x:aB}(h:l[k]?=some x):(eC l)[k]?=some (BA x):=by rw[uQ,Zs,h];rfl
def asx{a b:I aB}:eC a++eC b=eC (a++b):=by rw[uQ,uQ,uQ,aa]
def TR{l:I aB}:∀c∈eC l,c.length=2:=by
 intro c a;rw[uQ]at a;obtain⟨x,_,rfl⟩:=UU.1 a;rfl
def ajp{l:I aB}{k:Nat}:(eC l).drop k=eC (l.drop k):=by rw[uQ,uQ,List.map_drop]
def pz(l:I aM):I (I D):=l.map PE
def A4(l:I aM):pz l=l.map PE:=rfl
def apD{l:I aM}:(pz l).length=l.length:=by rw[A4,Zu]
def mO{l:I aM}{k:Nat}{x:aM}(h:l[k]?=some x):(pz l)[k]?=some (PE x):=by rw[A4,Zs,h];rfl
def ami{a b:I aM}:pz a++pz b=pz (a++b):=by rw[A4,A4,A4,aa]
def aoM{l:I aM}:∀c∈pz l,c.length=5:=by
 intro c a;rw[A4]at a;obtain⟨x,_,rfl⟩:=UU.1 a;rfl
structure bE where
 xK:Int64
 xL:List dX
def EE(x:bE):I D:=[.v (.int .i64 x.xK.toInt),.sl (dMonos x.xL)]
def dY(x:bE):AV:= .agg [.d (.v (.int .i64 x.xK.toInt)),.d (.sl (dMonos x.xL))]
structure ik where
 bN:bE
 Hk:Bool
def Je(x:ik):I D:=[.v (.int .i64 x.bN.xK.toInt),.sl (dMonos x.bN.xL),.v (.bool x.Hk)]
def uc(x:ik):AV:= .agg [.d (.v (.int .i64 x.bN.xK.toInt)),.d (.sl (dMonos x.bN.xL)),.d (.v (.bool x.Hk))]
structure dH where
 ay:ByteArray
 eu:bE
def IT(x:dH):I D:=[.v (.string x.ay),.v (.int .i64 x.eu.xK.toInt),.sl (dMonos x.eu.xL)]
def TU(x:dH):AV:= .agg [.d (.v (.string x.ay)),.d (.v (.int .i64 x.eu.xK.toInt)),.d (.sl (dMonos x.eu.xL))]
structure bk where
 aH:aM
 aR:List Int
 eD:List aB
def cA(x:bk):I D:=[.v (.int .i64 x.aH.bB),.v (.int .i64 x.aH.bW),.v (.int .i64 x.aH.ck),.v (.int .i64 x.aH.ct),.v (.int .i64 x.aH.cC),.sl (bH x.aR),.sl (eC x.eD)]
def gF(x:bk):AV:= .agg [.d (.v (.int .i64 x.aH.bB)),.d (.v (.int .i64 x.aH.bW)),.d (.v (.int .i64 x.aH.ck)),.d (.v (.int .i64 x.aH.ct)),.d (.v (.int .i64 x.aH.cC)),.d (.sl (bH x.aR)),.d (.sl (eC x.eD))]
structure aL where
 ay:ByteArray
 xTensor:bk
def Io(x:aL):I D:=[.v (.string x.ay),.v (.int .i64 x.xTensor.aH.bB),.v (.int .i64 x.xTensor.aH.bW),.v (.int .i64 x.xTensor.aH.ck),.v (.int .i64 x.xTensor.aH.ct),.v (.int .i64 x.xTensor.aH.cC),.sl (bH x.xTensor.aR),.sl (eC x.xTensor.eD)]
def abD(x:aL):AV:= .agg [.d (.v (.string x.ay)),.d (.v (.int .i64 x.xTensor.aH.bB)),.d (.v (.int .i64 x.xTensor.aH.bW)),.d (.v (.int .i64 x.xTensor.aH.ck)),.d (.v (.int .i64 x.xTensor.aH.ct)),.d (.v (.int .i64 x.xTensor.aH.cC)),.d (.sl (bH x.xTensor.aR)),.d (.sl (eC x.xTensor.eD))]
def ox(l:I ik):I (I D):=l.map Je
def AF(l:I ik):ox l=l.map Je:=rfl
def pZ{l:I ik}:(ox l).length=l.length:=by rw[AF,Zu]
def Jc{l:I ik}{k:Nat}{x:ik}(h:l[k]?=some x):(ox l)[k]?=some (Je x):=by rw[AF,Zs,h];rfl
def amZ{a b:I ik}:ox a++ox b=ox (a++b):=by rw[AF,AF,AF,aa]
def al2{l:I ik}:∀c∈ox l,c.length=3:=by
 intro c a;rw[AF]at a;obtain⟨x,_,rfl⟩:=UU.1 a;rfl
def fz(l:I bE):I (I D):=l.map EE
def zT(l:I bE):fz l=l.map EE:=rfl
def fW{l:I bE}:(fz l).length=l.length:=by rw[zT,Zu]
def o8{l:I bE}{k:Nat}{x:bE}(h:l[k]?=some x):(fz l)[k]?=some (EE x):=by rw[zT,Zs,h];rfl
def akW{a b:I bE}:fz a++fz b=fz (a++b):=by rw[zT,zT,zT,aa]
def ant{l:I bE}:∀c∈fz l,c.length=2:=by
 intro c a;rw[zT]at a;obtain⟨x,_,rfl⟩:=UU.1 a;rfl
def gZ(l:I dH):I (I D):=l.map IT
def zA(l:I dH):gZ l=l.map IT:=rfl
def gv{l:I dH}:(gZ l).length=l.length:=by rw[zA,Zu]
def mW{l:I dH}{k:Nat}{x:dH}(h:l[k]?=some x):(gZ l)[k]?=some (IT x):=by rw[zA,Zs,h];rfl
def akv{a b:I dH}:gZ a++gZ b=gZ (a++b):=by rw[zA,zA,zA,aa]
def apC{l:I dH}:∀c∈gZ l,c.length=3:=by
 intro c a;rw[zA]at a;obtain⟨x,_,rfl⟩:=UU.1 a;rfl
def bm(l:I aL):I (I D):=l.map Io
def tQ(l:I aL):bm l=l.map Io:=rfl
def oG{l:I aL}:(bm l).length=l.length:=by rw[tQ,Zu]
def pV{l:I aL}{k:Nat}{x:aL}(h:l[k]?=some x):(bm l)[k]?=some (Io x):=by rw[tQ,Zs,h];rfl
def ana{a b:I aL}:bm a++bm b=bm (a++b):=by rw[tQ,tQ,tQ,aa]
def Wa{l:I aL}:∀c∈bm l,c.length=8:=by
 intro c a;rw[tQ]at a;obtain⟨x,_,rfl⟩:=UU.1 a;rfl
def af0{l:I aL}{k:Nat}:(bm l).drop k=bm (l.drop k):=by rw[tQ,tQ,List.map_drop]
def TL(x:I dH):I D:=[.sl (gZ x)]
def qi(l:I (I dH)):I (I D):=l.map TL
def Bm(l:I (I dH)):qi l=l.map TL:=rfl
def To{l:I (I dH)}:(qi l).length=l.length:=by rw[Bm,Zu]
def acZ{l:I (I dH)}{k:Nat}{x:(I dH)}(h:l[k]?=some x):(qi l)[k]?=some (TL x):=by rw[Bm,Zs,h];rfl
def ahX{a b:I (I dH)}:qi a++qi b=qi (a++b):=by rw[Bm,Bm,Bm,aa]
def akO{l:I (I dH)}:∀c∈qi l,c.length=1:=by
 intro c a;rw[Bm]at a;obtain⟨x,_,rfl⟩:=UU.1 a;rfl
structure eX where
 ay:ByteArray
 aH:aM
 aR:List bE
def EO(x:eX):I D:=[.v (.string x.ay),.v (.int .i64 x.aH.bB),.v (.int .i64 x.aH.bW),.v (.int .i64 x.aH.ck),.v (.int .i64 x.aH.ct),.v (.int .i64 x.aH.cC),.sl (fz x.aR)]
def pE(x:eX):AV:= .agg [.d (.v (.string x.ay)),.d (.v (.int .i64 x.aH.bB)),.d (.v (.int .i64 x.aH.bW)),.d (.v (.int .i64 x.aH.ck)),.d (.v (.int .i64 x.aH.ct)),.d (.v (.int .i64 x.aH.cC)),.d (.sl (fz x.aR))]
structure c8 where
 bN:bE
 de:ByteArray
 cQ:List bE
def Ga(x:c8):I D:=[.v (.int .i64 x.bN.xK.toInt),.sl (dMonos x.bN.xL),.v (.string x.de),.sl (fz x.cQ)]
def ij(x:c8):AV:= .agg [.d (.v (.int .i64 x.bN.xK.toInt)),.d (.sl (dMonos x.bN.xL)),.d (.v (.string x.de)),.d (.sl (fz x.cQ))]
def lB(l:I eX):I (I D):=l.map EO
def yE(l:I eX):lB l=l.map EO:=rfl
def k9{l:I eX}:(lB l).length=l.length:=by rw[yE,Zu]
def oD{l:I eX}{k:Nat}{x:eX}(h:l[k]?=some x):(lB l)[k]?=some (EO x):=by rw[yE,Zs,h];rfl
def aoB{a b:I eX}:lB a++lB b=lB (a++b):=by rw[yE,yE,yE,aa]
def apf{l:I eX}:∀c∈lB l,c.length=7:=by
 intro c a;rw[yE]at a;obtain⟨x,_,rfl⟩:=UU.1 a;rfl
def fc(l:I c8):I (I D):=l.map Ga
def yu(l:I c8):fc l=l.map Ga:=rfl
def gq{l:I c8}:(fc l).length=l.length:=by rw[yu,Zu]
def jk{l:I c8}{k:Nat}{x:c8}(h:l[k]?=some x):(fc l)[k]?=some (Ga x):=by rw[yu,Zs,h];rfl
def ase{a b:I c8}:fc a++fc b=fc (a++b):=by rw[yu,yu,yu,aa]
def amO{l:I c8}:∀c∈fc l,c.length=4:=by
 intro c a;rw[yu]at a;obtain⟨x,_,rfl⟩:=UU.1 a;rfl
structure az where
 aD:Int
 ay:ByteArray
 dP:aB
 aH:aM
 bN:bE
 xIdx:List c8
 bS:List az
mutual
def Ww:az->I D
 |⟨aD,ay,dP,aH,bN,xIdx,bS⟩=>[.v (.int .i64 aD),.v (.string ay),.v (.int .i64 dP.xN.toInt),.v (.int .i64 dP.xD.toInt),.v (.int .i64 aH.bB),.v (.int .i64 aH.bW),.v (.int .i64 aH.ck),.v (.int .i64 aH.ct),.v (.int .i64 aH.cC),.v (.int .i64 bN.xK.toInt),.sl (dMonos bN.xL),.sl (fc xIdx),.sl (hO bS)]
def hO:I az->I (I D)
 |[]=>[]
 |x::l=>Ww x::hO l
end
def fv(x:az):I D:=[.v (.int .i64 x.aD),.v (.string x.ay),.v (.int .i64 x.dP.xN.toInt),.v (.int .i64 x.dP.xD.toInt),.v (.int .i64 x.aH.bB),.v (.int .i64 x.aH.bW),.v (.int .i64 x.aH.ck),.v (.int .i64 x.aH.ct),.v (.int .i64 x.aH.cC),.v (.int .i64 x.bN.xK.toInt),.sl (dMonos x.bN.xL),.sl (fc x.xIdx),.sl (hO x.bS)]
def aqb(x:az):Ww x=fv x:=by cases x;simp only[Ww];rfl
def qq:∀l:I az,hO l=l.map fv
 |[]=>by simp [hO]
 |x::l=>by simp [hO,aqb,qq l]
def jm{l:I az}:(hO l).length=l.length:=by rw[qq,Zu]
def gy{l:I az}{k:Nat}{x:az}(h:l[k]?=some x):(hO l)[k]?=some (fv x):=by rw[qq,Zs,h];rfl
def aoe{a b:I az}:hO a++hO b=hO (a++b):=by rw[qq,qq,qq,aa]
def asH{l:I az}:∀c∈hO l,c.length=13:=by
 intro c a;rw[qq]at a;obtain⟨x,_,rfl⟩:=UU.1 a;rfl
def aK(x:az):AV:= .agg [.d (.v (.int .i64 x.aD)),.d (.v (.string x.ay)),.d (.v (.int .i64 x.dP.xN.toInt)),.d (.v (.int .i64 x.dP.xD.toInt)),.d (.v (.int .i64 x.aH.bB)),.d (.v (.int .i64 x.aH.bW)),.d (.v (.int .i64 x.aH.ck)),.d (.v (.int .i64 x.aH.ct)),.d (.v (.int .i64 x.aH.cC)),.d (.v (.int .i64 x.bN.xK.toInt)),.d (.sl (dMonos x.bN.xL)),.d (.sl (fc x.xIdx)),.d (.sl (hO x.bS))]
structure bZ where
 ay:ByteArray
 aH:aM
 aR:List dH
 cl:List dH
 dF:Int
 cw:az
def Ig(x:bZ):I D:=[.v (.string x.ay),.v (.int .i64 x.aH.bB),.v (.int .i64 x.aH.bW),.v (.int .i64 x.aH.ck),.v (.int .i64 x.aH.ct),.v (.int .i64 x.aH.cC),.sl (gZ x.aR),.sl (gZ x.cl),.v (.int .i64 x.dF),.v (.int .i64 x.cw.aD),.v (.string x.cw.ay),.v (.int .i64 x.cw.dP.xN.toInt),.v (.int .i64 x.cw.dP.xD.toInt),.v (.int .i64 x.cw.aH.bB),.v (.int .i64 x.cw.aH.bW),.v (.int .i64 x.cw.aH.ck),.v (.int .i64 x.cw.aH.ct),.v (.int .i64 x.cw.aH.cC),.v (.int .i64 x.cw.bN.xK.toInt),.sl (dMonos x.cw.bN.xL),.sl (fc x.cw.xIdx),.sl (hO x.cw.bS)]
def fg(x:bZ):AV:= .agg [.d (.v (.string x.ay)),.d (.v (.int .i64 x.aH.bB)),.d (.v (.int .i64 x.aH.bW)),.d (.v (.int .i64 x.aH.ck)),.d (.v (.int .i64 x.aH.ct)),.d (.v (.int .i64 x.aH.cC)),.d (.sl (gZ x.aR)),.d (.sl (gZ x.cl)),.d (.v (.int .i64 x.dF)),.d (.v (.int .i64 x.cw.aD)),.d (.v (.string x.cw.ay)),.d (.v (.int .i64 x.cw.dP.xN.toInt)),.d (.v (.int .i64 x.cw.dP.xD.toInt)),.d (.v (.int .i64 x.cw.aH.bB)),.d (.v (.int .i64 x.cw.aH.bW)),.d (.v (.int .i64 x.cw.aH.ck)),.d (.v (.int .i64 x.cw.aH.ct)),.d (.v (.int .i64 x.cw.aH.cC)),.d (.v (.int .i64 x.cw.bN.xK.toInt)),.d (.sl (dMonos x.cw.bN.xL)),.d (.sl (fc x.cw.xIdx)),.d (.sl (hO x.cw.bS))]
def iC(l:I bZ):I (I D):=l.map Ig
def tR(l:I bZ):iC l=l.map Ig:=rfl
def jM{l:I bZ}:(iC l).length=l.length:=by rw[tR,Zu]
def jn{l:I bZ}{k:Nat}{x:bZ}(h:l[k]?=some x):(iC l)[k]?=some (Ig x):=by rw[tR,Zs,h];rfl
def ahG{a b:I bZ}:iC a++iC b=iC (a++b):=by rw[tR,tR,tR,aa]
def Sy{l:I bZ}:∀c∈iC l,c.length=22:=by
 intro c a;rw[tR]at a;obtain⟨x,_,rfl⟩:=UU.1 a;rfl
def abG{l:I bZ}{k n:Nat}:((iC l).take n).drop k=iC ((l.take n).drop k):=by rw[tR,tR,List.map_drop,List.map_take]
structure bo where
 bJ:List ByteArray
 dR:List ik
 bn:List eX
 aP:List bZ
 dC:List ByteArray
def arF(x:bo):I D:=[.sl (cD x.bJ),.sl (ox x.dR),.sl (lB x.bn),.sl (iC x.aP),.sl (cD x.dC)]
def c6(x:bo):AV:= .agg [.d (.sl (cD x.bJ)),.d (.sl (ox x.dR)),.d (.sl (lB x.bn)),.d (.sl (iC x.aP)),.d (.sl (cD x.dC))]
def dk(s:so):AV:= .d (.v (.string s))
def Y(n:Int):AV:= .d (.v (.int .i64 n))
def bx(n:Int64):AV:= .d (.v (.int .i64 n.toInt))
def aA(b:Bool):AV:= .d (.v (.bool b))
abbrev aF(n:Int):Int:=IntKind.i64.wrap n
def Bl(a:Int):IntKind.i64.wrap a=a.bmod (2^64):=by
 rw[br,Int.bmod_def];omega
def iF(a:Int):Y (aF a)=bx (Int64.ofInt a):=by
 unfold Y bx aF;rw[Bl,Int64.toInt_ofInt]
def oF(a b:Int64):Y (aF (a.toInt+b.toInt))=bx (a+b):=by
 unfold Y bx aF;rw[Bl,Int64.toInt_add]
def mm(a b:Int64):Y (aF (a.toInt-b.toInt))=bx (a-b):=by
 unfold Y bx aF;rw[Bl,Int64.toInt_sub]
def gu(a b:Int64):Y (aF (a.toInt*b.toInt))=bx (a*b):=by
 unfold Y bx aF;rw[Bl,Int64.toInt_mul]
def lT(a:Int64):Y (aF (0-a.toInt))=bx (-a):=by
 unfold Y bx aF;rw[Bl,Int64.toInt_neg,Int.zero_sub]
def Ci{a:Int}(h:aF a=a):Y a=bx (Int64.ofInt a):=by
 rw[<-iF,h]
def aoZ(a:Int)(m:Nat)(h1: -9223372036854775808<=a)(g:a<9223372036854775808): -9223372036854775808<=a.fdiv (2^m)/\a.fdiv (2^m)<9223372036854775808:=by
 have d:(0:Int)<2^m:=Int.pow_pos (by decide);rw[Int.fdiv_eq_ediv_of_nonneg _ (Int.le_of_lt d)];generalize (2:Int)^m=p at*;by_cases h:0<=a;{have e:=Int.ediv_nonneg h (Int.le_of_lt d);have f:=Int.ediv_le_self p h;omega}
 ·have e:a / p<0:=Int.ediv_neg_of_neg_of_pos (by omega) d;have f:a<=a / p:=by
   refine(Int.le_ediv_iff_mul_le d).2 ?_;have:=Int.mul_le_mul_of_nonpos_left (a:=a) (b:=p) (c:=1) (by omega) (by omega);omega
  omega
def auz(a:Int64)(m:Nat):Y (a.toInt.fdiv (2^m))=bx (Int64.ofInt (a.toInt.fdiv (2^m))):=by
 refine Ci ?_;have h:=aoZ a.toInt m (by have:=a.le_toInt;simpa using this) (by have:=a.toInt_lt;simpa using this);unfold aF;rw[br];omega
def MA(a:Int64)(b:Int):Y (a.toInt.tmod b)=bx (Int64.ofInt (a.toInt.tmod b)):=by
 refine Ci ?_;unfold aF;rw[br];have d:=a.le_toInt;have e:=a.toInt_lt;have c:=Int.natAbs_tmod a.toInt b;have h:(a.toInt.tmod b).natAbs<=a.toInt.natAbs:=by rw[c];exact Nat.mod_le _ _
 have i: -9223372036854775808<=a.toInt/\a.toInt<=9223372036854775807:=by omega
 clear d e c;by_cases f:0<=a.toInt;{have:=Int.tmod_nonneg b f;generalize a.toInt.tmod b=x at*;omega};{have g:=Int.tmod_nonneg b (show 0<=-a.toInt by omega);rw[Int.neg_tmod]at g;generalize a.toInt.tmod b=x at*;omega}
def bU{α:Type}{l:I α}{k:Nat}{x:α}{xs:I α}{n:Nat}(a:l.drop k=x::xs)(c:l.length=n)(d:n<=maxLen):Y (aF ((k:Int)+1))=Y ((k+1:Nat):Int):=by
 have:(l.drop k).length=(x::xs).length:=by rw[a]
 rw[b9,Zl]at this;have b:k<maxLen:=by omega
 unfold maxLen at b;have e:IntKind.i64.wrap ((k:Int)+1)=((k+1:Nat):Int):=by rw[br];omega
 unfold Y aF;rw[e]
def aX{α:Type}{l:I α}{k:Nat}{x:α}{xs:I α}(a:l.drop k=x::xs):l[k]?=some x:=by
 have:(l.drop k)[0]?=some x:=by rw[a];rfl
 rwa [List.getElem?_drop]at this
def kM{α:Type}{l:I α}{k:Nat}{x:α}{xs:I α}(a:l.drop k=x::xs):l.drop (k+1)=xs:=by
 rw[<-List.drop_drop,a];rfl
def bD{α:Type}{l:I α}{k:Nat}{x:α}{xs:I α}(a:l.drop k=x::xs):decide ((k:Int)<(l.length:Int))=true:=by
 have:(l.drop k).length=(x::xs).length:=by rw[a]
 rw[b9,Zl]at this;exact dO (by omega)
def bG{α:Type}{l:I α}{k:Nat}(a:l.drop k=[]):decide ((k:Int)<(l.length:Int))=false:=by
 have:=List.drop_eq_nil_iff.1 a;exact Zx (by omega)
def mB{n dy:Nat}(h:Nat.ble (n*dy) 140737488355328=true)(a:1<=dy):n<=maxLen/\n*dy<=140737488355328:=by
 have h:=Zi h;refine⟨?_,h⟩;unfold maxLen;have:=Nat.le_mul_of_pos_right n a;omega
def bC:prog.follows .mixedOrders=true:=by kernel_rfl
set_option maxRecDepth 100000
set_option maxHeartbeats 0
def rj(a b:Int64):Int64:=if b.toInt>a.toInt then b else a
def sC(a b:Int64):Int64:=if b.toInt<a.toInt then b else a
def adL(a b:Int64):(if b.toInt>a.toInt then b.toInt else a.toInt)=(rj a b).toInt:=by unfold rj;split<;>rfl
def arp(a b:Int64):(if b.toInt<a.toInt then b.toInt else a.toInt)=(sC a b).toInt:=by unfold sC;split<;>rfl
def RO(a b:Int64):AV.d (.v (.int .i64 (if b.toInt>a.toInt then b.toInt else a.toInt)))=bx (rj a b):=by rw[adL];rfl
def agy(a b:Int64):AV.d (.v (.int .i64 (if b.toInt<a.toInt then b.toInt else a.toInt)))=bx (sC a b):=by rw[arp];rfl
mutual
def V2:az->I az
 |⟨o,n,v,t,l,i,xs⟩=>⟨o,n,v,t,l,i,xs⟩::lk xs
def lk:I az->I az
 |[]=>[]
 |x::l=>V2 x++lk l
end
def dQ(e:az):I az:=e::lk e.bS
def aqB(e:az):V2 e=dQ e:=by cases e;simp only[V2];rfl
def wT(x:az)(l:I az):lk (x::l)=dQ x++lk l:=by rw[lk,aqB]
def F8{P:dg}{k:Nat}:∀(l:I AV){C:Bool->I ar->Prop}{h:I ar},h.all (ar.aN h.length)=true->mN P k l C h->mN P k l (λb h1=>C b h1/\qD h h1) h
 |[],_,_,d,c=>⟨c,rfl,d⟩
 |x::l,C,h,d,c=>YS.mono c λb h1 ⟨a,e⟩=>⟨a,by
  cases b with
  |true=>exact XI l (λb j ⟨g,i,f⟩=>⟨g,by rw[i,a.1],by rw[a.1]at f;exact f⟩) (F8 l (by rw[a.1];exact a.2) e)
  |false=>exact⟨e,a⟩⟩
def Ph(e:az):Prop:=∀(k:Nat)(h:I ar)(C:Bool->I ar->Prop),h.all (ar.aN h.length)=true->k<h.length->mN prog k ((dQ e).map aK) C h->dt prog 150 [aK e,.cU k] h λr a=>∃b,r= .d (.v (.bool b))/\C b a/\qD h a
def Uc{P:dg}{fn:Func}{n:Nat}{t:I (Nat×AV)}{H h1 l:I ar}{K:AV->I ar->Prop}(c:h1.length=H.length)(a:h1.all (ar.aN H.length)=true)(d:oa P ⟨n,t,h1++l⟩ fn.results.toList λb=>((la b).bQ h1.length).aN h1.length=true/\K ((la b).bQ h1.length) h1):sw P fn H.length K ⟨n,t,h1++l⟩:=by
 rw[<-c]at a ⊢;exact anm a d
def CC{P:dg}{fn:Func}{n:Nat}{t:I (Nat×AV)}{H h1 l:I ar}{K:AV->I ar->Prop}(b:h1.length=H.length)(c:h1.all (ar.aN H.length)=true)(d:oa P ⟨n,t,h1++l⟩ fn.results.toList λa=>((la a).bQ h1.length).aN h1.length=true/\K ((la a).bQ h1.length) h1):Kx P fn H.length K .ret ⟨n,t,h1++l⟩:=Uc b c d
def ai5(e:az)(H:∀x∈e.bS,Ph x):Ph e:=by
 intro k h C E J F;refine wo h.length func150 rfl (by kernel_rfl) (Zv _) ?_
 suffices G:bR prog none h.length _ _ ⟨23,[(0,aK e),(1,.cU k)],h++[]⟩ by rw[ZV]at G;exact G
 repeat refine aw ?_
 refine fU ?_;refine cp rfl ?_;refine By (XE (l:=[]) (v:=aK e) rfl (by kernel_rfl)) rfl rfl EU ?_;refine cp rfl ?_;refine AJ (x:= .d (.v (.bool false))) rfl rfl ?_;refine aW ?_
 repeat refine aw ?_
 refine fU ?_;refine cp rfl ?_;refine AJ (x:= .cU k) rfl rfl ?_;refine cp rfl ?_;refine c9 (yt (i:=0) (off:=0) (l:=[]++[.cells (aK e).cells]) (x:=aK e) (by kernel_rfl) rfl (by kernel_rfl)) rfl rfl ?_;refine cp rfl ?_;rw[dQ,ZS]at F;have K:=MC (F8 (aK e::_) E F) [.cells (aK e).cells] E (by kernel_rfl) (λb w j=>j.1);refine CJ (k:=k) (x:=aK e) rfl rfl (by kernel_rfl) (by kernel_rfl) rfl rfl ?_;refine K.mono λb w j=> ?_;obtain⟨h1,⟨⟨f,t⟩,y⟩,rfl⟩:=j;refine cp rfl ?_;refine AJ (x:= .d (.v (.bool (!b)))) rfl rfl ?_;refine aW ?_;cases b with
 |false=>
  refine Bp ?_
  repeat refine aw ?_
  refine fU ?_;refine cp rfl ?_;refine AJ (x:= .d (.v (.bool false))) rfl rfl ?_;refine aW ?_;refine dm (dn ?_);refine CC f t ?_;exact⟨rfl,false,rfl,y⟩
 |true=>
  refine Br ?_;refine cN ?_;refine aW ?_;simp only[Tq]at y
  repeat refine aw ?_
  refine fU ?_;refine cp rfl ?_;refine AJ (x:= .ptr (h.length+0) 12) rfl rfl ?_;refine cp rfl ?_;refine c9 (yt (h:=h1) (i:=0) (off:=12) (l:=[.cells (aK e).cells]) (x:= .d (.sl (hO e.bS))) (by rw[f];rfl) rfl (by kernel_rfl)) rfl rfl ?_;refine cp rfl ?_;refine AJ (x:= .d (.v (.int .i64 (hO e.bS).length))) rfl rfl ?_;refine cp rfl ?_;refine AJ (x:= .d (.v (.int .i64 0))) rfl rfl ?_;refine aW ?_;refine Aq 12 (hO e.bS) (by kernel_rfl) λL=> ?_;have M:e.bS.length<=maxLen:=by rw[<-jm];exact LG L
  rw[jm]
  repeat refine aw ?_
  refine dL ?_;refine Mf (ι:=Nat×I az×I ar) [1,12,13,14] h.length (λi=>⟨23,[(1,.cU k),(12,.d (.sl (hO e.bS))),(13,.d (.v (.int .i64 e.bS.length))),(14,.d (.v (.int .i64 i.1)))],i.2.2⟩)
   (λi=>e.bS.drop i.1=i.2.1/\qD h i.2.2/\mN prog k ((lk i.2.1).map aK) (λb a=>C b a/\qD h a) i.2.2) (λi=>i.2.1.length) (0,e.bS,h1) (Zv _) ?_ ?_ ⟨rfl,⟨f,t⟩,y⟩ ?_
  ·rw[<-f];exact A1 _ (by rw[f];exact t) (by
     show(((AV.cU k).bQ h1.length).aN h1.length&&(true&&(true&&(true&&true))))=true;rw[f];simp [AV.bQ,AV.aN,cP];omega)
  ·rw[<-f];exact BZ _ (by rw[f];exact t)
  rintro⟨i,rest,z⟩ ⟨m,⟨c,u⟩,n⟩;simp only at m c u n ⊢
  repeat refine aw ?_
  refine fU ?_;refine cp rfl ?_;refine AJ (x:= .d (.v (.bool (decide ((i:Int)<(e.bS.length:Int)))))) rfl rfl ?_;refine aW ?_;refine aw ?_;cases rest with
  |nil=>
   rw[bG m];refine Br ?_;refine ma (iE (iE (m7 rfl ?_)));refine aW ?_
   repeat refine aw ?_
   refine fU ?_;refine cp rfl ?_;rw[<-ZV z];refine AJ (x:= .d (.v (.bool true))) rfl rfl ?_;refine aW ?_;refine dm ?_;refine CC c u ?_;rw[lk,ah]at n;exact⟨rfl,true,rfl,n⟩
  |cons x rest=>
   rw[bD m];refine Bp ?_;refine cN ?_;refine aW ?_
   repeat refine aw ?_
   refine dL ?_
   repeat refine aw ?_
   refine fU ?_;refine cp rfl ?_;rw[<-ZV z];refine c9 (TX (q:=i) (e:=52) (k:=13) rfl rfl (by kernel_rfl) (gy (aX m)) rfl) rfl rfl ?_;refine cp rfl ?_;refine AJ (x:=aK x) rfl rfl ?_;refine cp rfl ?_;refine By (Qs (l:=[]) (by kernel_rfl)) rfl rfl EU ?_;refine cp rfl ?_;refine Qo (TV (i:=0) (off:=0) (k:=13) (l:=[_]) (v:=aK x) (cM:=(aK x).cells) (by kernel_rfl) rfl (by kernel_rfl) rfl (by kernel_rfl) (by kernel_rfl)) rfl QQ ?_;refine aW ?_
   repeat refine aw ?_
   refine fU ?_;refine cp rfl ?_;refine c9 (yt (i:=0) (off:=0) (l:=[.cells (aK x).cells]) (x:=aK x) (by kernel_rfl) rfl (by kernel_rfl)) rfl rfl ?_;refine cp rfl ?_;refine AJ (x:= .cU k) rfl rfl ?_;refine cp rfl ?_;rw[wT,aa]at n;have N:=Xw _ _ n;have P:=H x (ZY (aX m)) k z _ (by rw[c];exact u) (by rw[c];exact J) N;have SP:=asi P [.cells (aK x).cells] (by rw[c];exact u) (by
    rw[c];show((aK x).aN h.length&&((AV.cU k).aN h.length&&true))=true;rw[show(aK x).aN h.length=true by kernel_rfl];simp [AV.aN,cP];omega) (λr w j=>by
    obtain⟨b,rfl,_,q1,o⟩:=j;exact⟨q1,o,rfl⟩)
   refine Hl (g:=150) (dD:=[]) rfl rfl rfl ?_;refine SP.mono λr w j=> ?_;obtain⟨a,⟨b,rfl,A,q1,o⟩,rfl⟩:=j;refine cp rfl ?_;refine AJ (x:= .d (.v (.bool (!b)))) rfl rfl ?_;refine aW ?_;cases b with
   |false=>
    refine Bp ?_
    repeat refine aw ?_
    refine fU ?_;refine cp rfl ?_;refine AJ (x:= .d (.v (.bool false))) rfl rfl ?_;refine aW ?_;refine dm (eQ (dn (dn (eQ (dn ?_)))));refine CC (h1:=a) (by rw[q1,c]) (by rw[c]at o;exact o) ?_;exact⟨rfl,false,rfl,A⟩
   |true=>
    refine Br ?_;refine cN ?_;refine eV ?_;refine aW ?_;simp only[Tq]at A;refine fU ?_;refine cp rfl ?_;refine c9 (x:= .d (.v (.int .i64 ((i+1:Nat):Int)))) (by
     show some ((.d (.v (.int .i64 (aF ((i:Int)+1)))):AV),HD.same)=_;have:=bU m rfl M;unfold Y at this;rw[this]) rfl rfl ?_
    refine cp rfl ?_;refine AJ (x:= .d (.v (.int .i64 ((i+1:Nat):Int)))) rfl rfl ?_;refine aW ?_;have p:a.length=h.length:=by rw[q1,c]
    have B:a.all (ar.aN a.length)=true:=by rw[q1];exact o
    refine⟨?_,(i+1,rest,a),?_,⟨kM m,⟨p,by rw[<-p];exact B⟩,A⟩,Z0 _⟩
    ·rw[<-p];exact A1 _ B (by
       show(((AV.cU k).bQ a.length).aN a.length&&(true&&(true&&(true&&true))))=true;rw[p];simp [AV.bQ,AV.aN,cP];omega)
    ·rw[<-p];exact BZ _ B
mutual
def aaq:(e:az)->Ph e
 |⟨_,_,_,_,_,_,xs⟩=>ai5 _ (abx xs)
def abx:(l:I az)->∀x∈l,Ph x
 |[],_,h=>absurd h Yx
 |x::l,y,h=>(Za.1 h).elim (λe=>e▸aaq x) (abx l y)
end
def MP{P:dg}{fn:Func}{n:Nat}{t:I (Nat×AV)}{H h1:I ar}{K:AV->I ar->Prop}(b:h1.length=H.length)(c:h1.all (ar.aN H.length)=true)(d:oa P ⟨n,t,h1⟩ fn.results.toList λa=>((la a).bQ h1.length).aN h1.length=true/\K ((la a).bQ h1.length) h1):Kx P fn H.length K .normal ⟨n,t,h1⟩:=by
 have:=Uc (P:=P) (fn:=fn) (n:=n) (t:=t) (l:=[]) (K:=K) b c;rw[ZV]at this;exact this d
def ac5{P:dg}{fn:Func}{n:Nat}{t:I (Nat×AV)}{H h1:I ar}{K:AV->I ar->Prop}(b:h1.length=H.length)(c:h1.all (ar.aN H.length)=true)(d:oa P ⟨n,t,h1⟩ fn.results.toList λa=>((la a).bQ h1.length).aN h1.length=true/\K ((la a).bQ h1.length) h1):Kx P fn H.length K .ret ⟨n,t,h1⟩:=MP b c d
def Wy(e:az):Bn prog 149 [.bM [fv e] 0 0] ((dQ e).map aK):=by
 intro k h C a c f;refine wo h.length func149 rfl (by kernel_rfl) (Zv _) ?_;show bR prog none h.length _ _ ⟨6,[(0,.cU k),(1,.bM [fv e] 0 0)],h⟩;refine fU ?_;refine cp rfl ?_;refine AJ (x:=aK e) rfl rfl ?_;refine cp rfl ?_;refine AJ (x:= .cU k) rfl rfl ?_;refine cp rfl ?_;refine Hl (g:=150) (dD:=[]) rfl rfl rfl ?_;refine(aaq e k h C a c f).mono λr m i=> ?_;obtain⟨b,rfl,j,q1,l⟩:=i;refine MP (n:=6) (t:=[(5,.d (.v (.bool b))),(4,.cU k),(3,aK e),(0,.cU k),(1,.bM [fv e] 0 0)]) q1 l ?_;exact⟨rfl,b,j⟩
def yr(x:c8):I bE:=x.bN::x.cQ
def qp(e:az):I bE:=e.bN::e.xIdx.flatMap yr
def as7(e:az):Bn prog 235 [.bM [fv e] 0 0] ((qp e).map dY):=by
 intro k h C lE z qu;have S:=F8 _ lE qu;refine wo h.length func235 rfl (by kernel_rfl) (Zv _) ?_;show bR prog none h.length _ _ ⟨37,[(0,.cU k),(1,.bM [fv e] 0 0)],h⟩
 repeat refine aw ?_
 refine fU ?_;refine cp rfl ?_;refine AJ (x:= .cU k) rfl rfl ?_;refine cp rfl ?_;refine AJ (x:= .bM [fv e] 0 9) rfl rfl ?_;refine cp rfl ?_;refine AJ (x:=dY e.bN) rfl rfl ?_;refine cp rfl ?_;rw[qp,ZS]at S;refine CJ (k:=k) (x:=dY e.bN) rfl rfl (by kernel_rfl) (by kernel_rfl) rfl rfl ?_;refine YS.mono S λb G f=> ?_;obtain⟨⟨g,A⟩,H⟩:=f;refine cp rfl ?_;refine AJ (x:= .d (.v (.bool (!b)))) rfl rfl ?_;refine aW ?_;cases b with
 |false=>
  refine Bp ?_;refine dm (dn ?_);exact ac5 g A ⟨rfl,false,H.1⟩
 |true=>
  refine Br ?_;refine cN ?_;refine aW ?_;simp only[Tq]at H
  repeat refine aw ?_
  refine fU ?_;refine cp rfl ?_;refine AJ (x:= .bM [fv e] 0 11) rfl rfl ?_;refine cp rfl ?_;refine AJ (x:= .d (.sl (fc e.xIdx))) rfl rfl ?_;refine cp rfl ?_;refine AJ (x:= .d (.v (.int .i64 (fc e.xIdx).length))) rfl rfl ?_;refine cp rfl ?_;refine AJ (x:= .d (.v (.int .i64 0))) rfl rfl ?_;refine aW ?_;refine Aq 13 (fc e.xIdx) (by kernel_rfl) λcy=> ?_;have qT:e.xIdx.length<=maxLen:=by rw[<-gq];exact LG cy
  rw[gq];refine dL ?_;refine Mf (ι:=Nat×I c8×I ar) [0,13,14,15] h.length (λi=>⟨37,[(0,.cU k),(13,.d (.sl (fc e.xIdx))),(14,.d (.v (.int .i64 e.xIdx.length))),(15,.d (.v (.int .i64 i.1)))],i.2.2⟩)
    (λi=>e.xIdx.drop i.1=i.2.1/\qD h i.2.2/\mN prog k ((i.2.1.flatMap yr).map dY) (λb a=>C b a/\qD h a) i.2.2) (λi=>i.2.1.length) (0,e.xIdx,G) (Zv _) ?_ ?_ ⟨rfl,⟨g,A⟩,H⟩ ?_
  ·rw[<-g];exact JL _ (by rw[g];exact A) (by
     show(((AV.cU k).bQ G.length).aN G.length&&(true&&(true&&(true&&true))))=true;rw[g,Cq z];rfl)
  ·rw[<-g];exact MN _ (by rw[g];exact A)
  rintro⟨i,rest,J⟩ ⟨n,⟨p,K⟩,r⟩;simp only at n p K r ⊢
  repeat refine aw ?_
  refine fU ?_;refine cp rfl ?_;refine AJ (x:= .d (.v (.bool (decide ((i:Int)<(e.xIdx.length:Int)))))) rfl rfl ?_;refine aW ?_
  repeat refine aw ?_
  cases rest with
  |nil=>
   rw[bG n];refine Br ?_;refine ma (iE (iE (m7 rfl ?_)));rw[List.flatMap_nil,ah]at r;exact MP p K ⟨rfl,true,r.1⟩
  |cons x rest=>
   rw[bD n];refine Bp ?_;refine cN ?_;refine aW ?_
   repeat refine aw ?_
   refine dL ?_
   repeat refine aw ?_
   refine fU ?_;refine cp rfl ?_;rw[<-ZV J];refine c9 (TX (q:=i) (e:=83) (k:=4) rfl rfl (by kernel_rfl) (jk (aX n)) rfl) rfl rfl ?_;refine cp rfl ?_;refine AJ (x:=ij x) rfl rfl ?_;refine cp rfl ?_;refine By (Qs (l:=[]) (by kernel_rfl)) rfl rfl EU ?_;refine cp rfl ?_;refine Qo (TV (i:=0) (off:=0) (k:=4) (l:=[_]) (v:=ij x) (cM:=(ij x).cells) (by kernel_rfl) rfl (by kernel_rfl) rfl (by kernel_rfl) (by kernel_rfl)) rfl QQ ?_;refine aW ?_
   repeat refine aw ?_
   refine fU ?_;refine cp rfl ?_;refine AJ (x:= .cU k) rfl rfl ?_;refine cp rfl ?_;refine AJ (x:= .ptr (J.length+0) 0) rfl rfl ?_;refine cp rfl ?_;refine c9 (yt (i:=0) (off:=0) (l:=[.cells (ij x).cells]) (x:=dY x.bN) (by kernel_rfl) rfl (by kernel_rfl)) rfl rfl ?_;refine cp rfl ?_;rw[List.flatMap_cons,yr,List.cons_append,ZS]at r;have hy:=MC r [.cells (ij x).cells] (by rw[p];exact K) (by kernel_rfl) (λb L f=>f.1);refine CJ (k:=k) (x:=dY x.bN) rfl rfl (by kernel_rfl) (by kernel_rfl) rfl rfl ?_;refine hy.mono λb L f=> ?_;obtain⟨a,⟨⟨T,W⟩,M⟩,rfl⟩:=f;refine cp rfl ?_;refine AJ (x:= .d (.v (.bool (!b)))) rfl rfl ?_;refine aW ?_;have q1:a.length=h.length:=by rw[T,p]
   have B:a.all (ar.aN h.length)=true:=by rw[p]at W;exact W
   cases b with
   |false=>
    refine Bp ?_;refine dm ?_
    repeat (first|(with_reducible refine dn ?_)|(with_reducible refine eQ ?_))
    exact CC q1 B ⟨rfl,false,M.1⟩
   |true=>
    refine Br ?_;refine cN ?_;refine aW ?_;simp only[Tq]at M
    repeat refine aw ?_
    refine fU ?_;refine cp rfl ?_;refine AJ (x:= .ptr (J.length+0) 3) rfl rfl ?_;refine cp rfl ?_;refine c9 (yt (h:=a) (i:=0) (off:=3) (l:=[.cells (ij x).cells]) (x:= .d (.sl (fz x.cQ))) (by rw[T];rfl) rfl (by kernel_rfl)) rfl rfl ?_;refine cp rfl ?_;refine AJ (x:= .d (.v (.int .i64 (fz x.cQ).length))) rfl rfl ?_;refine cp rfl ?_;refine AJ (x:= .d (.v (.int .i64 0))) rfl rfl ?_;refine aW ?_;refine Aq 25 (fz x.cQ) (by kernel_rfl) λN=> ?_;have P:x.cQ.length<=maxLen:=by rw[<-fW];exact LG N
    rw[fW];refine dL ?_;refine Mf (ι:=Nat×I bE×I ar) [0,13,14,15,25,26,27] h.length (λj=>⟨37,[(0,.cU k),(13,.d (.sl (fc e.xIdx))),(14,.d (.v (.int .i64 e.xIdx.length))),(15,.d (.v (.int .i64 i))),(25,.d (.sl (fz x.cQ))),(26,.d (.v (.int .i64 x.cQ.length))),(27,.d (.v (.int .i64 j.1)))],j.2.2⟩)
      (λj=>x.cQ.drop j.1=j.2.1/\qD h j.2.2/\mN prog k ((j.2.1++rest.flatMap yr).map dY) (λb a=>C b a/\qD h a) j.2.2) (λj=>j.2.1.length) (0,x.cQ,a) (Zv _) ?_ ?_ ⟨rfl,⟨q1,B⟩,M⟩ ?_
    ·rw[<-q1];exact A1 _ (by rw[q1];exact B) (by
       show(((AV.cU k).bQ a.length).aN a.length&&(true&&(true&&(true&&(true&&(true&&(true&&true)))))))=true;rw[q1,Cq z];rfl)
    ·rw[<-q1];exact BZ _ (by rw[q1];exact B)
    rintro⟨j,Q,E⟩ ⟨o,⟨c,t⟩,u⟩;simp only at o c t u ⊢
    repeat refine aw ?_
    refine fU ?_;refine cp rfl ?_;refine AJ (x:= .d (.v (.bool (decide ((j:Int)<(x.cQ.length:Int)))))) rfl rfl ?_;refine aW ?_
    repeat refine aw ?_
    cases Q with
    |nil=>
     rw[bG o];refine Br ?_;refine ma (iE (iE (m7 rfl ?_)));refine eV ?_;refine aW ?_;rw[W2]at u;refine fU ?_;refine cp rfl ?_;refine c9 (x:= .d (.v (.int .i64 ((i+1:Nat):Int)))) (by
       show some ((.d (.v (.int .i64 (aF ((i:Int)+1)))):AV),HD.same)=_;have:=bU n rfl qT;unfold Y at this;rw[this]) rfl rfl ?_
     refine cp rfl ?_;refine AJ (x:= .d (.v (.int .i64 ((i+1:Nat):Int)))) rfl rfl ?_;refine aW ?_;refine⟨?_,(i+1,rest,E),?_,⟨kM n,⟨c,t⟩,u⟩,Z0 _⟩
     ·rw[<-c];exact JL _ (by rw[c];exact t) (by
        show(((AV.cU k).bQ E.length).aN E.length&&(true&&(true&&(true&&true))))=true;rw[c,Cq z];rfl)
     ·rw[<-c];exact MN _ (by rw[c];exact t)
    |cons y Q=>
     rw[bD o];refine Bp ?_;refine cN ?_;refine aW ?_
     repeat refine aw ?_
     refine dL ?_
     repeat refine aw ?_
     refine fU ?_;refine cp rfl ?_;rw[<-ZV E];refine c9 (TX (q:=j) (e:=48) (k:=2) rfl rfl (by kernel_rfl) (o8 (aX o)) rfl) rfl rfl ?_;refine cp rfl ?_;refine AJ (x:=dY y) rfl rfl ?_;refine cp rfl ?_;refine By (Qs (l:=[]) (by kernel_rfl)) rfl rfl EU ?_;refine cp rfl ?_;refine Qo (TV (i:=0) (off:=0) (k:=2) (l:=[_]) (v:=dY y) (cM:=(dY y).cells) (by kernel_rfl) rfl (by kernel_rfl) rfl (by kernel_rfl) (by kernel_rfl)) rfl QQ ?_;refine aW ?_
     repeat refine aw ?_
     refine fU ?_;refine cp rfl ?_;refine AJ (x:= .cU k) rfl rfl ?_;refine cp rfl ?_;refine c9 (yt (i:=0) (off:=0) (l:=[.cells (dY y).cells]) (x:=dY y) (by kernel_rfl) rfl (by kernel_rfl)) rfl rfl ?_;refine cp rfl ?_;rw[List.cons_append,ZS]at u;have SJ:=MC u [.cells (dY y).cells] (by rw[c];exact t) (by kernel_rfl) (λb L f=>f.1);refine CJ (k:=k) (x:=dY y) rfl rfl (by kernel_rfl) (by kernel_rfl) rfl rfl ?_;refine SJ.mono λb L f=> ?_;obtain⟨w,⟨⟨r1,r3⟩,R⟩,rfl⟩:=f;refine cp rfl ?_;refine AJ (x:= .d (.v (.bool (!b)))) rfl rfl ?_;refine aW ?_;have m:w.length=h.length:=by rw[r1,c]
     have F:w.all (ar.aN h.length)=true:=by rw[c]at r3;exact r3
     cases b with
     |false=>
      refine Bp ?_;refine dm ?_
      repeat (first|(with_reducible refine dn ?_)|(with_reducible refine eQ ?_))
      exact CC m F ⟨rfl,false,R.1⟩
     |true=>
      refine Br ?_;refine cN ?_;refine eV ?_;refine aW ?_;simp only[Tq]at R;refine fU ?_;refine cp rfl ?_;refine c9 (x:= .d (.v (.int .i64 ((j+1:Nat):Int)))) (by
       show some ((.d (.v (.int .i64 (aF ((j:Int)+1)))):AV),HD.same)=_;have:=bU o rfl P;unfold Y at this;rw[this]) rfl rfl ?_
      refine cp rfl ?_;refine AJ (x:= .d (.v (.int .i64 ((j+1:Nat):Int)))) rfl rfl ?_;refine aW ?_;refine⟨?_,(j+1,Q,w),?_,⟨kM o,⟨m,F⟩,R⟩,Z0 _⟩
      ·rw[<-m];exact A1 _ (by rw[m];exact F) (by
         show(((AV.cU k).bQ w.length).aN w.length&&(true&&(true&&(true&&(true&&(true&&(true&&true)))))))=true;rw[m,Cq z];rfl)
      ·rw[<-m];exact BZ _ (by rw[m];exact F)
def aso(a:az):AFn prog 89 [aK a] (·= .fn 149 [.bM [fv a] 0 0]):=by
 refine QK (r:= .fn 149 [.ptr 0 0]) (h:=[.cells (aK a).cells]) ?_ (by kernel_rfl) rfl;refine tz 1 func89 rfl (by kernel_rfl) (Zi rfl) ?_;refine nh (s':=⟨4,[(0,aK a)],[]⟩) (by kernel_rfl) ?_;refine aw (Cy [] [(1,.ptr 0 0)] [.cells (aK a).cells] ?_);refine aw (Cy [] [(2,.fn 149 [.ptr 0 0])] [.cells (aK a).cells] ?_);refine dm ?_;exact ku (by kernel_rfl)
def alg(a:az):AFn prog 155 [aK a] (·= .fn 235 [.bM [fv a] 0 0]):=by
 refine QK (r:= .fn 235 [.ptr 0 0]) (h:=[.cells (aK a).cells]) ?_ (by kernel_rfl) rfl;refine tz 1 func155 rfl (by kernel_rfl) (Zi rfl) ?_;refine nh (s':=⟨4,[(0,aK a)],[]⟩) (by kernel_rfl) ?_;refine aw (Cy [] [(1,.ptr 0 0)] [.cells (aK a).cells] ?_);refine aw (Cy [] [(2,.fn 235 [.ptr 0 0])] [.cells (aK a).cells] ?_);refine dm ?_;exact ku (by kernel_rfl)
open Go.RowKit Go.Shelf
def ajU:Ren where
 f:=fun
  |157=>307
  |229=>322
  |199=>323
  |261=>330
  |311=>332
  |312=>333
  |n=>n
 t:=fun
  |9=>9
  |31=>22
  |3=>3
  |5=>5
  |4=>4
  |119=>303
  |0=>0
  |40=>260
  |152=>312
  |21=>21
  |154=>314
  |51=>300
  |141=>316
  |196=>323
  |193=>320
  |198=>326
  |49=>324
  |194=>321
  |201=>329
  |226=>331
  |46=>250
  |227=>332
  |n=>n
 g:=fun
  |0=>0
  |6=>1
  |n=>n
def pC:I so:=[bs [115,105,122,101],bs [119,104,101,114,101],bs [105,110],bs [100,101,102],bs [111,117,116],bs [115,117,109],bs [112,114,111,100],bs [109,105,110],bs [109,97,120],bs [115,99,97,110],bs [111,118,101,114],bs [105,102],bs [99,97,115,116],bs [102,114,97,99],bs [105,110,116],bs [102,105,120],bs [99,101,105,108],bs [102,108,111,111,114],bs [122,101,114,111],bs [101,118,101,110],bs [115,97,116],bs [119,114,97,112]]
def as9:Lays.n157 prog ajU:=by
 constructor<;>first|kernel_rfl|(intro w;rfl)
def H6:so:=⟨#[115,105,122,101,32,119,104,101,114,101,32,105,110,32,100,101,102,32,111,117,116,32,115,117,109,32,112,114,111,100,32,109,105,110,32,109,97,120,32,115,99,97,110,32,111,118,101,114,32,105,102,32,99,97,115,116,32,102,114,97,99,32,105,110,116,32,102,105,120,32,99,101,105,108,32,102,108,111,111,114,32,122,101,114,111,32,101,118,101,110,32,115,97,116,32,119,114,97,112]⟩
def an9(w:Zy)(a:∀c:Nat,c<256->w.cell? ⟨0,c,none⟩=some (.int .u8 (if Lib.isSp (UInt8.ofNat c)then 1 else 0))):
 Calls prog 307 #[.string H6] w λe w'=>e= .returned (.slice (some ⟨w.heap.size,0,none⟩) 22 22)/\w'=w.alloc (.cells (pC.map Value.string).toArray 9):=by
 have d:(H6.data.toList.all λb=>decide (b.toNat<128))=true:=by kernel_rfl
 have h:=Any.strings_Fields_core as9 (by kernel_rfl) H6 w (U0 (by kernel_rfl)) (λj b f=>U0 (Zd.1 d b (ZY f))) a;have g:(Lib.fields H6.data.toList).length=22:=by kernel_rfl
 have i:((Lib.fields H6.data.toList).map λl=>Value.string ⟨l.toArray⟩)=pC.map Value.string:=by kernel_rfl
 rw[g,i]at h;exact h
def atb(w:Zy)(a:∀c:Nat,c<256->w.cell? ⟨0,c,none⟩=some (.int .u8 (if Lib.isSp (UInt8.ofNat c)then 1 else 0))):
 Calls prog 285 #[] w λe w'=>e= .returned (.slice (some ⟨w.heap.size,0,none⟩) 22 22)/\w'=w.alloc (.cells (pC.map Value.string).toArray 9):=by
 go_enter func285,ntmps285
 go_wp2_with (go_at_call 307;refine(an9 _ a).mono ?_;rintro e w' ⟨rfl,rfl⟩)
 go_ret
 exact⟨rfl,rfl⟩
def air:∀c:Nat,c<256->(yW EB)[c]?=some (.int .u8 (if Lib.isSp (UInt8.ofNat c)then 1 else 0)):=λc a=>by
 rw[show yW EB=(List.range 256).map λc=>Value.int .u8 (if Lib.isSp (UInt8.ofNat c)then 1 else 0) by kernel_rfl,Zs,List.getElem?_range a];rfl
def arJ:AFn prog 285 [] (·= .d (.sl (cD pC))):=by
 refine⟨by kernel_rfl,λG w l h m t=> ?_⟩;obtain rfl:l= #[]:=Array.size_eq_zero_iff.1 m;refine(atb w λc n=> ?_).mono λe z b=> ?_
 ·exact(h.gl.1 0 (yW EB) Zq c _ (air c n)).2
 ·obtain⟨rfl,rfl⟩:=b;obtain⟨p,q⟩:=Xs h (.cells (pC.map Value.string).toArray 9) 22;have Ab:Rd (G.rz w.heap.size 22).S (w.alloc (.cells (pC.map Value.string).toArray 9)) 1 (cD pC) (pC.map Value.string):=
   ⟨rfl,λx a=>(by obtain⟨y,_,rfl⟩:=UU.1 a;rfl),λu f=>(by obtain⟨y,_,rfl⟩:=UU.1 f;rfl),λi j x d a k=>by
    rw[mY,Zs]at a;cases g:pC[i]? with
    |none=>rw[g]at a;cases a
    |some y=>
     rw[g]at a;cases a;cases j with
     |zero=>cases k;exact⟨.string y,by rw[Nat.mul_one,Nat.add_zero,Zs,g];rfl,.v _⟩
     |succ j=>cases k⟩
  have b:=Ab.FH w.heap.size 22 (by decide) (by decide) (λo r=>.inr ⟨rfl,r⟩) (λo u f=>by
   rw[World.cell?_alloc_new,List.getElem?_toArray];exact f)
  exact⟨_,_,_,_,rfl,p,Zv _,q,.d b,rfl,rfl⟩
set_option maxRecDepth 1000000
end Go.Proofs.YtnnapanbbbcalaaGreatDoor
