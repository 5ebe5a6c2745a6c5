/-
  Part 5 of the proof: AbsDat, IterE, KwS, AbsKern.
-/
import Derived.Test.YtnnapanbbbcalaaGreatDoorPd4
import Derived.Test.YtnnapanbbbcalaaGreatDoorProg
import Derived.WalkKit
import Derived.Shelf.Strings.Fields
import Derived.KernelRfl
set_option linter.defProp false
namespace Go.Proofs.YtnnapanbbbcalaaGreatDoor
open Tryz
open Go.RowKit
set_option linter.unusedVariables false
def iY(x:so):I D:=[.v (.string x)]
def cD(l:I so):I (I D):=l.map iY
def mS(l:I so):cD l=l.map iY:=rfl
def fB{l:I so}:(cD l).length=l.length:=by rw[mS,Zq]
def k9{l:I so}{k:Nat}{x:so}(h:l[k]?=some x):(cD l)[k]?=some (iY x):=by rw[mS,Zm,h];rfl
def as6{a b:I so}:cD a++cD b=cD (a++b):=by rw[mS,mS,mS,ZD]
def s9{l:I so}:∀c∈cD l,c.length=1:=by
 intro c a;rw[mS]at a;obtain⟨x,_,rfl⟩:=W1.1 a;rfl
def aeC{l:I so}{k:Nat}:(cD l).drop k=cD (l.drop k):=by rw[mS,mS,List.map_drop]
def En{l:I so}{k n:Nat}:((cD l).take n).drop k=cD ((l.take n).drop k):=by rw[mS,mS,List.map_drop,List.map_take]
def fj(x:Int):I D:=[.v (.int .i64 x)]
def bE(l:I Int):I (I D):=l.map fj
def py(l:I Int):bE l=l.map fj:=rfl
def fF{l:I Int}:(bE l).length=l.length:=by rw[py,Zq]
def gV{l:I Int}{k:Nat}{x:Int}(h:l[k]?=some x):(bE l)[k]?=some (fj x):=by rw[py,Zm,h];rfl
def ajz{a b:I Int}:bE a++bE b=bE (a++b):=by rw[py,py,py,ZD]
def HQ{l:I Int}:∀c∈bE l,c.length=1:=by
 intro c a;rw[py]at a;obtain⟨x,_,rfl⟩:=W1.1 a;rfl
structure dZ where
 aC:ByteArray
 eQ:Int64
def H4(x:dZ):I D:=[.v (.string x.aC),.v (.int .i64 x.eQ.toInt)]
def uJ(x:dZ):AV:= .agg [.d (.v (.string x.aC)),.d (.v (.int .i64 x.eQ.toInt))]
structure aL where
 bA:Int
 bU:Int
 ck:Int
 cr:Int
 cC:Int
def Li(x:aL):I D:=[.v (.int .i64 x.bA),.v (.int .i64 x.bU),.v (.int .i64 x.ck),.v (.int .i64 x.cr),.v (.int .i64 x.cC)]
def bX(x:aL):AV:= .agg [.d (.v (.int .i64 x.bA)),.d (.v (.int .i64 x.bU)),.d (.v (.int .i64 x.ck)),.d (.v (.int .i64 x.cr)),.d (.v (.int .i64 x.cC))]
structure aA where
 xN:Int64
 xD:Int64
def CI(x:aA):I D:=[.v (.int .i64 x.xN.toInt),.v (.int .i64 x.xD.toInt)]
def bm(x:aA):AV:= .agg [.d (.v (.int .i64 x.xN.toInt)),.d (.v (.int .i64 x.xD.toInt))]
structure aJ where
 aC:ByteArray
 dQ:Int64
def jD(x:aJ):I D:=[.v (.string x.aC),.v (.int .i64 x.dQ.toInt)]
def MX(x:aJ):AV:= .agg [.d (.v (.string x.aC)),.d (.v (.int .i64 x.dQ.toInt))]
structure fQ where
 iU:aA
 gy:aL
def eK(x:fQ):AV:= .agg [.d (.v (.int .i64 x.iU.xN.toInt)),.d (.v (.int .i64 x.iU.xD.toInt)),.d (.v (.int .i64 x.gy.bA)),.d (.v (.int .i64 x.gy.bU)),.d (.v (.int .i64 x.gy.ck)),.d (.v (.int .i64 x.gy.cr)),.d (.v (.int .i64 x.gy.cC))]
structure gi where
 xV:aA
 xT:aL
 xE:Int
def qB(x:gi):AV:= .agg [.d (.v (.int .i64 x.xV.xN.toInt)),.d (.v (.int .i64 x.xV.xD.toInt)),.d (.v (.int .i64 x.xT.bA)),.d (.v (.int .i64 x.xT.bU)),.d (.v (.int .i64 x.xT.ck)),.d (.v (.int .i64 x.xT.cr)),.d (.v (.int .i64 x.xT.cC)),.d (.v (.int .i64 x.xE))]
structure kS where
 pj:Int
 mm:Int
 lJ:Int
def EY(x:kS):AV:= .agg [.d (.v (.int .u64 x.pj)),.d (.v (.int .u64 x.mm)),.d (.v (.int .u64 x.lJ))]
structure cE where
 cJ:Int
 cY:Int
 dp:Int
 di:Int
 dd:Int
 c6:Int
def fg(x:cE):AV:= .agg [.d (.v (.int .u64 x.cJ)),.d (.v (.int .u64 x.cY)),.d (.v (.int .u64 x.dp)),.d (.v (.int .u64 x.di)),.d (.v (.int .u64 x.dd)),.d (.v (.int .u64 x.c6))]
def hJ(l:I dZ):I (I D):=l.map H4
def zh(l:I dZ):hJ l=l.map H4:=rfl
def jH{l:I dZ}:(hJ l).length=l.length:=by rw[zh,Zq]
def lO{l:I dZ}{k:Nat}{x:dZ}(h:l[k]?=some x):(hJ l)[k]?=some (H4 x):=by rw[zh,Zm,h];rfl
def amZ{a b:I dZ}:hJ a++hJ b=hJ (a++b):=by rw[zh,zh,zh,ZD]
def szT{l:I dZ}:∀c∈hJ l,c.length=2:=by
 intro c a;rw[zh]at a;obtain⟨x,_,rfl⟩:=W1.1 a;rfl
def aT(l:I aJ):I (I D):=l.map jD
def th(l:I aJ):aT l=l.map jD:=rfl
def mV{l:I aJ}:(aT l).length=l.length:=by rw[th,Zq]
def oa{l:I aJ}{k:Nat}{x:aJ}(h:l[k]?=some x):(aT l)[k]?=some (jD x):=by rw[th,Zm,h];rfl
def aiH{a b:I aJ}:aT a++aT b=aT (a++b):=by rw[th,th,th,ZD]
def aeE{l:I aJ}:∀c∈aT l,c.length=2:=by
 intro c a;rw[th]at a;obtain⟨x,_,rfl⟩:=W1.1 a;rfl
def eB(l:I aA):I (I D):=l.map CI
def uY(l:I aA):eB l=l.map CI:=rfl
def jK{l:I aA}:(eB l).length=l.length:=by rw[uY,Zq]
def mv{l:I aA}{k:Nat}{x:aA}(h:l[k]?=some x):(eB l)[k]?=some (CI x):=by rw[uY,Zm,h];rfl
def ama{a b:I aA}:eB a++eB b=eB (a++b):=by rw[uY,uY,uY,ZD]
def Uv{l:I aA}:∀c∈eB l,c.length=2:=by
 intro c a;rw[uY]at a;obtain⟨x,_,rfl⟩:=W1.1 a;rfl
def asf{l:I aA}{k:Nat}:(eB l).drop k=eB (l.drop k):=by rw[uY,uY,List.map_drop]
def pJ(l:I aL):I (I D):=l.map Li
def Dg(l:I aL):pJ l=l.map Li:=rfl
def aqn{l:I aL}:(pJ l).length=l.length:=by rw[Dg,Zq]
def mW{l:I aL}{k:Nat}{x:aL}(h:l[k]?=some x):(pJ l)[k]?=some (Li x):=by rw[Dg,Zm,h];rfl
def ar7{a b:I aL}:pJ a++pJ b=pJ (a++b):=by rw[Dg,Dg,Dg,ZD]
def asg{l:I aL}:∀c∈pJ l,c.length=5:=by
 intro c a;rw[Dg]at a;obtain⟨x,_,rfl⟩:=W1.1 a;rfl
structure bD where
 xK:Int64
 xL:List dZ
def D7(x:bD):I D:=[.v (.int .i64 x.xK.toInt),.sl (hJ x.xL)]
def dW(x:bD):AV:= .agg [.d (.v (.int .i64 x.xK.toInt)),.d (.sl (hJ x.xL))]
structure iu where
 bO:bD
 E3:Bool
def Gz(x:iu):I D:=[.v (.int .i64 x.bO.xK.toInt),.sl (hJ x.bO.xL),.v (.bool x.E3)]
def uL(x:iu):AV:= .agg [.d (.v (.int .i64 x.bO.xK.toInt)),.d (.sl (hJ x.bO.xL)),.d (.v (.bool x.E3))]
structure dF where
 aC:ByteArray
 eH:bD
def Fc(x:dF):I D:=[.v (.string x.aC),.v (.int .i64 x.eH.xK.toInt),.sl (hJ x.eH.xL)]
def Ug(x:dF):AV:= .agg [.d (.v (.string x.aC)),.d (.v (.int .i64 x.eH.xK.toInt)),.d (.sl (hJ x.eH.xL))]
structure bk where
 aH:aL
 aQ:List Int
 eF:List aA
def cz(x:bk):I D:=[.v (.int .i64 x.aH.bA),.v (.int .i64 x.aH.bU),.v (.int .i64 x.aH.ck),.v (.int .i64 x.aH.cr),.v (.int .i64 x.aH.cC),.sl (bE x.aQ),.sl (eB x.eF)]
def fY(x:bk):AV:= .agg [.d (.v (.int .i64 x.aH.bA)),.d (.v (.int .i64 x.aH.bU)),.d (.v (.int .i64 x.aH.ck)),.d (.v (.int .i64 x.aH.cr)),.d (.v (.int .i64 x.aH.cC)),.d (.sl (bE x.aQ)),.d (.sl (eB x.eF))]
structure aR where
 aC:ByteArray
 iH:bk
def GB(x:aR):I D:=[.v (.string x.aC),.v (.int .i64 x.iH.aH.bA),.v (.int .i64 x.iH.aH.bU),.v (.int .i64 x.iH.aH.ck),.v (.int .i64 x.iH.aH.cr),.v (.int .i64 x.iH.aH.cC),.sl (bE x.iH.aQ),.sl (eB x.iH.eF)]
def agc(x:aR):AV:= .agg [.d (.v (.string x.aC)),.d (.v (.int .i64 x.iH.aH.bA)),.d (.v (.int .i64 x.iH.aH.bU)),.d (.v (.int .i64 x.iH.aH.ck)),.d (.v (.int .i64 x.iH.aH.cr)),.d (.v (.int .i64 x.iH.aH.cC)),.d (.sl (bE x.iH.aQ)),.d (.sl (eB x.iH.eF))]
def nZ(l:I iu):I (I D):=l.map Gz
def zw(l:I iu):nZ l=l.map Gz:=rfl
def qe{l:I iu}:(nZ l).length=l.length:=by rw[zw,Zq]
def HY{l:I iu}{k:Nat}{x:iu}(h:l[k]?=some x):(nZ l)[k]?=some (Gz x):=by rw[zw,Zm,h];rfl
def akm{a b:I iu}:nZ a++nZ b=nZ (a++b):=by rw[zw,zw,zw,ZD]
def arc{l:I iu}:∀c∈nZ l,c.length=3:=by
 intro c a;rw[zw]at a;obtain⟨x,_,rfl⟩:=W1.1 a;rfl
def fA(l:I bD):I (I D):=l.map D7
def xW(l:I bD):fA l=l.map D7:=rfl
def fX{l:I bD}:(fA l).length=l.length:=by rw[xW,Zq]
def o7{l:I bD}{k:Nat}{x:bD}(h:l[k]?=some x):(fA l)[k]?=some (D7 x):=by rw[xW,Zm,h];rfl
def apT{a b:I bD}:fA a++fA b=fA (a++b):=by rw[xW,xW,xW,ZD]
def asb{l:I bD}:∀c∈fA l,c.length=2:=by
 intro c a;rw[xW]at a;obtain⟨x,_,rfl⟩:=W1.1 a;rfl
def dAxiss(l:I dF):I (I D):=l.map Fc
def Ac(l:I dF):dAxiss l=l.map Fc:=rfl
def gw{l:I dF}:(dAxiss l).length=l.length:=by rw[Ac,Zq]
def m7{l:I dF}{k:Nat}{x:dF}(h:l[k]?=some x):(dAxiss l)[k]?=some (Fc x):=by rw[Ac,Zm,h];rfl
def aoW{a b:I dF}:dAxiss a++dAxiss b=dAxiss (a++b):=by rw[Ac,Ac,Ac,ZD]
def akn{l:I dF}:∀c∈dAxiss l,c.length=3:=by
 intro c a;rw[Ac]at a;obtain⟨x,_,rfl⟩:=W1.1 a;rfl
def bp(l:I aR):I (I D):=l.map GB
def AJ(l:I aR):bp l=l.map GB:=rfl
def vQ{l:I aR}:(bp l).length=l.length:=by rw[AJ,Zq]
def vI{l:I aR}{k:Nat}{x:aR}(h:l[k]?=some x):(bp l)[k]?=some (GB x):=by rw[AJ,Zm,h];rfl
def alg{a b:I aR}:bp a++bp b=bp (a++b):=by rw[AJ,AJ,AJ,ZD]
def ai8{l:I aR}:∀c∈bp l,c.length=8:=by
 intro c a;rw[AJ]at a;obtain⟨x,_,rfl⟩:=W1.1 a;rfl
def Sp(x:I dF):I D:=[.sl (dAxiss x)]
def pQ(l:I (I dF)):I (I D):=l.map Sp
def Cl(l:I (I dF)):pQ l=l.map Sp:=rfl
def V5{l:I (I dF)}:(pQ l).length=l.length:=by rw[Cl,Zq]
def rde{l:I (I dF)}{k:Nat}{x:(I dF)}(h:l[k]?=some x):(pQ l)[k]?=some (Sp x):=by rw[Cl,Zm,h];rfl
def anB{a b:I (I dF)}:pQ a++pQ b=pQ (a++b):=by rw[Cl,Cl,Cl,ZD]
def amb{l:I (I dF)}:∀c∈pQ l,c.length=1:=by
 intro c a;rw[Cl]at a;obtain⟨x,_,rfl⟩:=W1.1 a;rfl
structure fm where
 aC:ByteArray
 aH:aL
 aQ:List bD
def IG(x:fm):I D:=[.v (.string x.aC),.v (.int .i64 x.aH.bA),.v (.int .i64 x.aH.bU),.v (.int .i64 x.aH.ck),.v (.int .i64 x.aH.cr),.v (.int .i64 x.aH.cC),.sl (fA x.aQ)]
def pz(x:fm):AV:= .agg [.d (.v (.string x.aC)),.d (.v (.int .i64 x.aH.bA)),.d (.v (.int .i64 x.aH.bU)),.d (.v (.int .i64 x.aH.ck)),.d (.v (.int .i64 x.aH.cr)),.d (.v (.int .i64 x.aH.cC)),.d (.sl (fA x.aQ))]
structure c7 where
 bO:bD
 dc:ByteArray
 cP:List bD
def GS(x:c7):I D:=[.v (.int .i64 x.bO.xK.toInt),.sl (hJ x.bO.xL),.v (.string x.dc),.sl (fA x.cP)]
def ig(x:c7):AV:= .agg [.d (.v (.int .i64 x.bO.xK.toInt)),.d (.sl (hJ x.bO.xL)),.d (.v (.string x.dc)),.d (.sl (fA x.cP))]
def lL(l:I fm):I (I D):=l.map IG
def zK(l:I fm):lL l=l.map IG:=rfl
def mP{l:I fm}:(lL l).length=l.length:=by rw[zK,Zq]
def pc{l:I fm}{k:Nat}{x:fm}(h:l[k]?=some x):(lL l)[k]?=some (IG x):=by rw[zK,Zm,h];rfl
def ah9{a b:I fm}:lL a++lL b=lL (a++b):=by rw[zK,zK,zK,ZD]
def ajP{l:I fm}:∀c∈lL l,c.length=7:=by
 intro c a;rw[zK]at a;obtain⟨x,_,rfl⟩:=W1.1 a;rfl
def fc(l:I c7):I (I D):=l.map GS
def x6(l:I c7):fc l=l.map GS:=rfl
def gq{l:I c7}:(fc l).length=l.length:=by rw[x6,Zq]
def jh{l:I c7}{k:Nat}{x:c7}(h:l[k]?=some x):(fc l)[k]?=some (GS x):=by rw[x6,Zm,h];rfl
def ag1{a b:I c7}:fc a++fc b=fc (a++b):=by rw[x6,x6,x6,ZD]
def asT{l:I c7}:∀c∈fc l,c.length=4:=by
 intro c a;rw[x6]at a;obtain⟨x,_,rfl⟩:=W1.1 a;rfl
structure ay where
 aD:Int
 aC:ByteArray
 dQ:aA
 aH:aL
 bO:bD
 xIdx:List c7
 bS:List ay
mutual
def Vj:ay->I D
 |⟨aD,aC,dQ,aH,bO,xIdx,bS⟩=>[.v (.int .i64 aD),.v (.string aC),.v (.int .i64 dQ.xN.toInt),.v (.int .i64 dQ.xD.toInt),.v (.int .i64 aH.bA),.v (.int .i64 aH.bU),.v (.int .i64 aH.ck),.v (.int .i64 aH.cr),.v (.int .i64 aH.cC),.v (.int .i64 bO.xK.toInt),.sl (hJ bO.xL),.sl (fc xIdx),.sl (dExprs bS)]
def dExprs:I ay->I (I D)
 |[]=>[]
 |x::l=>Vj x::dExprs l
end
def fu(x:ay):I D:=[.v (.int .i64 x.aD),.v (.string x.aC),.v (.int .i64 x.dQ.xN.toInt),.v (.int .i64 x.dQ.xD.toInt),.v (.int .i64 x.aH.bA),.v (.int .i64 x.aH.bU),.v (.int .i64 x.aH.ck),.v (.int .i64 x.aH.cr),.v (.int .i64 x.aH.cC),.v (.int .i64 x.bO.xK.toInt),.sl (hJ x.bO.xL),.sl (fc x.xIdx),.sl (dExprs x.bS)]
def ajJ(x:ay):Vj x=fu x:=by cases x;simp only[Vj];rfl
def qm:∀l:I ay,dExprs l=l.map fu
 |[]=>by simp [dExprs]
 |x::l=>by simp [dExprs,ajJ,qm l]
def ji{l:I ay}:(dExprs l).length=l.length:=by rw[qm,Zq]
def gz{l:I ay}{k:Nat}{x:ay}(h:l[k]?=some x):(dExprs l)[k]?=some (fu x):=by rw[qm,Zm,h];rfl
def ajb{a b:I ay}:dExprs a++dExprs b=dExprs (a++b):=by rw[qm,qm,qm,ZD]
def aou{l:I ay}:∀c∈dExprs l,c.length=13:=by
 intro c a;rw[qm]at a;obtain⟨x,_,rfl⟩:=W1.1 a;rfl
def aK(x:ay):AV:= .agg [.d (.v (.int .i64 x.aD)),.d (.v (.string x.aC)),.d (.v (.int .i64 x.dQ.xN.toInt)),.d (.v (.int .i64 x.dQ.xD.toInt)),.d (.v (.int .i64 x.aH.bA)),.d (.v (.int .i64 x.aH.bU)),.d (.v (.int .i64 x.aH.ck)),.d (.v (.int .i64 x.aH.cr)),.d (.v (.int .i64 x.aH.cC)),.d (.v (.int .i64 x.bO.xK.toInt)),.d (.sl (hJ x.bO.xL)),.d (.sl (fc x.xIdx)),.d (.sl (dExprs x.bS))]
structure bZ where
 aC:ByteArray
 aH:aL
 aQ:List dF
 cl:List dF
 dG:Int
 cw:ay
def FQ(x:bZ):I D:=[.v (.string x.aC),.v (.int .i64 x.aH.bA),.v (.int .i64 x.aH.bU),.v (.int .i64 x.aH.ck),.v (.int .i64 x.aH.cr),.v (.int .i64 x.aH.cC),.sl (dAxiss x.aQ),.sl (dAxiss x.cl),.v (.int .i64 x.dG),.v (.int .i64 x.cw.aD),.v (.string x.cw.aC),.v (.int .i64 x.cw.dQ.xN.toInt),.v (.int .i64 x.cw.dQ.xD.toInt),.v (.int .i64 x.cw.aH.bA),.v (.int .i64 x.cw.aH.bU),.v (.int .i64 x.cw.aH.ck),.v (.int .i64 x.cw.aH.cr),.v (.int .i64 x.cw.aH.cC),.v (.int .i64 x.cw.bO.xK.toInt),.sl (hJ x.cw.bO.xL),.sl (fc x.cw.xIdx),.sl (dExprs x.cw.bS)]
def fb(x:bZ):AV:= .agg [.d (.v (.string x.aC)),.d (.v (.int .i64 x.aH.bA)),.d (.v (.int .i64 x.aH.bU)),.d (.v (.int .i64 x.aH.ck)),.d (.v (.int .i64 x.aH.cr)),.d (.v (.int .i64 x.aH.cC)),.d (.sl (dAxiss x.aQ)),.d (.sl (dAxiss x.cl)),.d (.v (.int .i64 x.dG)),.d (.v (.int .i64 x.cw.aD)),.d (.v (.string x.cw.aC)),.d (.v (.int .i64 x.cw.dQ.xN.toInt)),.d (.v (.int .i64 x.cw.dQ.xD.toInt)),.d (.v (.int .i64 x.cw.aH.bA)),.d (.v (.int .i64 x.cw.aH.bU)),.d (.v (.int .i64 x.cw.aH.ck)),.d (.v (.int .i64 x.cw.aH.cr)),.d (.v (.int .i64 x.cw.aH.cC)),.d (.v (.int .i64 x.cw.bO.xK.toInt)),.d (.sl (hJ x.cw.bO.xL)),.d (.sl (fc x.cw.xIdx)),.d (.sl (dExprs x.cw.bS))]
def iy(l:I bZ):I (I D):=l.map FQ
def uF(l:I bZ):iy l=l.map FQ:=rfl
def j6{l:I bZ}:(iy l).length=l.length:=by rw[uF,Zq]
def ju{l:I bZ}{k:Nat}{x:bZ}(h:l[k]?=some x):(iy l)[k]?=some (FQ x):=by rw[uF,Zm,h];rfl
def aqO{a b:I bZ}:iy a++iy b=iy (a++b):=by rw[uF,uF,uF,ZD]
def Rf{l:I bZ}:∀c∈iy l,c.length=22:=by
 intro c a;rw[uF]at a;obtain⟨x,_,rfl⟩:=W1.1 a;rfl
def adZ{l:I bZ}{k n:Nat}:((iy l).take n).drop k=iy ((l.take n).drop k):=by rw[uF,uF,List.map_drop,List.map_take]
structure bo where
 bG:List ByteArray
 dU:List iu
 bu:List fm
 aM:List bZ
 dM:List ByteArray
def ahU(x:bo):I D:=[.sl (cD x.bG),.sl (nZ x.dU),.sl (lL x.bu),.sl (iy x.aM),.sl (cD x.dM)]
def c9(x:bo):AV:= .agg [.d (.sl (cD x.bG)),.d (.sl (nZ x.dU)),.d (.sl (lL x.bu)),.d (.sl (iy x.aM)),.d (.sl (cD x.dM))]
def dj(s:so):AV:= .d (.v (.string s))
def Y(n:Int):AV:= .d (.v (.int .i64 n))
def bx(n:Int64):AV:= .d (.v (.int .i64 n.toInt))
def az(b:Bool):AV:= .d (.v (.bool b))
abbrev aE(n:Int):Int:=IntKind.i64.wrap n
def Bh(a:Int):IntKind.i64.wrap a=a.bmod (2^64):=by
 rw[b6,Int.bmod_def];omega
def iI(a:Int):Y (aE a)=bx (Int64.ofInt a):=by
 unfold Y bx aE;rw[Bh,Int64.toInt_ofInt]
def ot(a b:Int64):Y (aE (a.toInt+b.toInt))=bx (a+b):=by
 unfold Y bx aE;rw[Bh,Int64.toInt_add]
def mz(a b:Int64):Y (aE (a.toInt-b.toInt))=bx (a-b):=by
 unfold Y bx aE;rw[Bh,Int64.toInt_sub]
def gv(a b:Int64):Y (aE (a.toInt*b.toInt))=bx (a*b):=by
 unfold Y bx aE;rw[Bh,Int64.toInt_mul]
def l7(a:Int64):Y (aE (0-a.toInt))=bx (-a):=by
 unfold Y bx aE;rw[Bh,Int64.toInt_neg,Int.zero_sub]
def DD{a:Int}(h:aE a=a):Y a=bx (Int64.ofInt a):=by
 rw[<-iI,h]
def aqq(a:Int)(m:Nat)(h1: -9223372036854775808<=a)(g:a<9223372036854775808): -9223372036854775808<=a.fdiv (2^m)/\a.fdiv (2^m)<9223372036854775808:=by
 have d:(0:Int)<2^m:=Int.pow_pos (by decide);rw[Int.fdiv_eq_ediv_of_nonneg _ (Int.le_of_lt d)];generalize (2:Int)^m=p at*;by_cases h:0<=a;{have e:=Int.ediv_nonneg h (Int.le_of_lt d);have f:=Int.ediv_le_self p h;omega}
 ·have e:a / p<0:=Int.ediv_neg_of_neg_of_pos (by omega) d;have f:a<=a / p:=by
   refine(Int.le_ediv_iff_mul_le d).2 ?_;have:=Int.mul_le_mul_of_nonpos_left (a:=a) (b:=p) (c:=1) (by omega) (by omega);omega
  omega
def aei(a:Int64)(m:Nat):Y (a.toInt.fdiv (2^m))=bx (Int64.ofInt (a.toInt.fdiv (2^m))):=by
 refine DD ?_;have h:=aqq a.toInt m (by have:=a.le_toInt;simpa using this) (by have:=a.toInt_lt;simpa using this);unfold aE;rw[b6];omega
def LY(a:Int64)(b:Int):Y (a.toInt.tmod b)=bx (Int64.ofInt (a.toInt.tmod b)):=by
 refine DD ?_;unfold aE;rw[b6];have d:=a.le_toInt;have e:=a.toInt_lt;have c:=Int.natAbs_tmod a.toInt b;have h:(a.toInt.tmod b).natAbs<=a.toInt.natAbs:=by rw[c];exact Nat.mod_le _ _
 have i: -9223372036854775808<=a.toInt/\a.toInt<=9223372036854775807:=by omega
 clear d e c;by_cases f:0<=a.toInt;{have:=Int.tmod_nonneg b f;generalize a.toInt.tmod b=x at*;omega};{have g:=Int.tmod_nonneg b (show 0<=-a.toInt by omega);rw[Int.neg_tmod]at g;generalize a.toInt.tmod b=x at*;omega}
def bV{α:Type}{l:I α}{k:Nat}{x:α}{xs:I α}{n:Nat}(a:l.drop k=x::xs)(c:l.length=n)(d:n<=maxLen):Y (aE ((k:Int)+1))=Y ((k+1:Nat):Int):=by
 have:(l.drop k).length=(x::xs).length:=by rw[a]
 rw[ak,Zi]at this;have b:k<maxLen:=by omega
 unfold maxLen at b;have e:IntKind.i64.wrap ((k:Int)+1)=((k+1:Nat):Int):=by rw[b6];omega
 unfold Y aE;rw[e]
def aY{α:Type}{l:I α}{k:Nat}{x:α}{xs:I α}(a:l.drop k=x::xs):l[k]?=some x:=by
 have:(l.drop k)[0]?=some x:=by rw[a];rfl
 rwa [List.getElem?_drop]at this
def kI{α:Type}{l:I α}{k:Nat}{x:α}{xs:I α}(a:l.drop k=x::xs):l.drop (k+1)=xs:=by
 rw[<-List.drop_drop,a];rfl
def bH{α:Type}{l:I α}{k:Nat}{x:α}{xs:I α}(a:l.drop k=x::xs):decide ((k:Int)<(l.length:Int))=true:=by
 have:(l.drop k).length=(x::xs).length:=by rw[a]
 rw[ak,Zi]at this;exact dO (by omega)
def bI{α:Type}{l:I α}{k:Nat}(a:l.drop k=[]):decide ((k:Int)<(l.length:Int))=false:=by
 have:=List.drop_eq_nil_iff.1 a;exact Zx (by omega)
def mj{n dy:Nat}(h:Nat.ble (n*dy) 140737488355328=true)(a:1<=dy):n<=maxLen/\n*dy<=140737488355328:=by
 have h:=Zh h;refine⟨?_,h⟩;unfold maxLen;have:=Nat.le_mul_of_pos_right n a;omega
def bB:prog.follows .mixedOrders=true:=by kernel_rfl
set_option maxRecDepth 100000
set_option maxHeartbeats 0
def qN(a b:Int64):Int64:=if b.toInt>a.toInt then b else a
def sA(a b:Int64):Int64:=if b.toInt<a.toInt then b else a
def abU(a b:Int64):(if b.toInt>a.toInt then b.toInt else a.toInt)=(qN a b).toInt:=by unfold qN;split<;>rfl
def aph(a b:Int64):(if b.toInt<a.toInt then b.toInt else a.toInt)=(sA a b).toInt:=by unfold sA;split<;>rfl
def Wn(a b:Int64):AV.d (.v (.int .i64 (if b.toInt>a.toInt then b.toInt else a.toInt)))=bx (qN a b):=by rw[abU];rfl
def abw(a b:Int64):AV.d (.v (.int .i64 (if b.toInt<a.toInt then b.toInt else a.toInt)))=bx (sA a b):=by rw[aph];rfl
mutual
def UG:ay->I ay
 |⟨o,n,v,t,l,i,xs⟩=>⟨o,n,v,t,l,i,xs⟩::k8 xs
def k8:I ay->I ay
 |[]=>[]
 |x::l=>UG x++k8 l
end
def dR(e:ay):I ay:=e::k8 e.bS
def agZ(e:ay):UG e=dR e:=by cases e;simp only[UG];rfl
def vq(x:ay)(l:I ay):k8 (x::l)=dR x++k8 l:=by rw[k8,agZ]
def JB{P:dg}{k:Nat}:∀(l:I AV){C:Bool->I ar->Prop}{h:I ar},h.all (ar.aN h.length)=true->mK P k l C h->mK P k l (λb h1=>C b h1/\qx h h1) h
 |[],_,_,d,c=>⟨c,rfl,d⟩
 |x::l,C,h,d,c=>YS.mono c λb h1 ⟨a,e⟩=>⟨a,by
  cases b with
  |true=>exact XH l (λb j ⟨g,i,f⟩=>⟨g,by rw[i,a.1],by rw[a.1]at f;exact f⟩) (JB l (by rw[a.1];exact a.2) e)
  |false=>exact⟨e,a⟩⟩
def Km(e:ay):Prop:=∀(k:Nat)(h:I ar)(C:Bool->I ar->Prop),h.all (ar.aN h.length)=true->k<h.length->mK prog k ((dR e).map aK) C h->dq prog 150 [aK e,.cF k] h λr a=>∃b,r= .d (.v (.bool b))/\C b a/\qx h a
def TE{P:dg}{fn:Func}{n:Nat}{t:I (Nat×AV)}{H h1 l:I ar}{K:AV->I ar->Prop}(c:h1.length=H.length)(a:h1.all (ar.aN H.length)=true)(d:oD P ⟨n,t,h1++l⟩ fn.results.toList λb=>((lx b).bR h1.length).aN h1.length=true/\K ((lx b).bR h1.length) h1):tz P fn H.length K ⟨n,t,h1++l⟩:=by
 rw[<-c]at a ⊢;exact asD a d
def CJ{P:dg}{fn:Func}{n:Nat}{t:I (Nat×AV)}{H h1 l:I ar}{K:AV->I ar->Prop}(b:h1.length=H.length)(c:h1.all (ar.aN H.length)=true)(d:oD P ⟨n,t,h1++l⟩ fn.results.toList λa=>((lx a).bR h1.length).aN h1.length=true/\K ((lx a).bR h1.length) h1):OU P fn H.length K .ret ⟨n,t,h1++l⟩:=TE b c d
def aln(e:ay)(H:∀x∈e.bS,Km x):Km e:=by
 intro k h C E J F;refine vU h.length func150 rfl (by kernel_rfl) (Zr _) ?_
 suffices G:bQ prog none h.length _ _ ⟨23,[(0,aK e),(1,.cF k)],h++[]⟩ by rw[ZV]at G;exact G
 repeat refine aw ?_
 refine fS ?_;refine cq rfl ?_;refine DS (XD (l:=[]) (v:=aK e) rfl (by kernel_rfl)) rfl rfl Hy ?_;refine cq rfl ?_;refine BR (x:= .d (.v (.bool false))) rfl rfl ?_;refine aV ?_
 repeat refine aw ?_
 refine fS ?_;refine cq rfl ?_;refine BR (x:= .cF k) rfl rfl ?_;refine cq rfl ?_;refine c8 (yn (i:=0) (off:=0) (l:=[]++[.cells (aK e).cells]) (x:=aK e) (by kernel_rfl) rfl (by kernel_rfl)) rfl rfl ?_;refine cq rfl ?_;rw[dR,ZS]at F;have K:=PE (JB (aK e::_) E F) [.cells (aK e).cells] E (by kernel_rfl) (λb w j=>j.1);refine Bn (k:=k) (x:=aK e) rfl rfl (by kernel_rfl) (by kernel_rfl) rfl rfl ?_;refine K.mono λb w j=> ?_;obtain⟨h1,⟨⟨f,t⟩,y⟩,rfl⟩:=j;refine cq rfl ?_;refine BR (x:= .d (.v (.bool (!b)))) rfl rfl ?_;refine aV ?_;cases b with
 |false=>
  refine CD ?_
  repeat refine aw ?_
  refine fS ?_;refine cq rfl ?_;refine BR (x:= .d (.v (.bool false))) rfl rfl ?_;refine aV ?_;refine dk (dn ?_);refine CJ f t ?_;exact⟨rfl,false,rfl,y⟩
 |true=>
  refine CG ?_;refine cO ?_;refine aV ?_;simp only[V1]at y
  repeat refine aw ?_
  refine fS ?_;refine cq rfl ?_;refine BR (x:= .ptr (h.length+0) 12) rfl rfl ?_;refine cq rfl ?_;refine c8 (yn (h:=h1) (i:=0) (off:=12) (l:=[.cells (aK e).cells]) (x:= .d (.sl (dExprs e.bS))) (by rw[f];rfl) rfl (by kernel_rfl)) rfl rfl ?_;refine cq rfl ?_;refine BR (x:= .d (.v (.int .i64 (dExprs e.bS).length))) rfl rfl ?_;refine cq rfl ?_;refine BR (x:= .d (.v (.int .i64 0))) rfl rfl ?_;refine aV ?_;refine x9 12 (dExprs e.bS) (by kernel_rfl) λL=> ?_;have M:e.bS.length<=maxLen:=by rw[<-ji];exact Ma L
  rw[ji]
  repeat refine aw ?_
  refine dI ?_;refine Ph (ι:=Nat×I ay×I ar) [1,12,13,14] h.length (λi=>⟨23,[(1,.cF k),(12,.d (.sl (dExprs e.bS))),(13,.d (.v (.int .i64 e.bS.length))),(14,.d (.v (.int .i64 i.1)))],i.2.2⟩)
   (λi=>e.bS.drop i.1=i.2.1/\qx h i.2.2/\mK prog k ((k8 i.2.1).map aK) (λb a=>C b a/\qx h a) i.2.2) (λi=>i.2.1.length) (0,e.bS,h1) (Zr _) ?_ ?_ ⟨rfl,⟨f,t⟩,y⟩ ?_
  ·rw[<-f];exact Bz _ (by rw[f];exact t) (by
     show(((AV.cF k).bR h1.length).aN h1.length&&(true&&(true&&(true&&true))))=true;rw[f];simp [AV.bR,AV.aN,cG];omega)
  ·rw[<-f];exact C9 _ (by rw[f];exact t)
  rintro⟨i,rest,z⟩ ⟨m,⟨c,u⟩,n⟩;simp only at m c u n ⊢
  repeat refine aw ?_
  refine fS ?_;refine cq rfl ?_;refine BR (x:= .d (.v (.bool (decide ((i:Int)<(e.bS.length:Int)))))) rfl rfl ?_;refine aV ?_;refine aw ?_;cases rest with
  |nil=>
   rw[bI m];refine CG ?_;refine lW (iD (iD (mU rfl ?_)));refine aV ?_
   repeat refine aw ?_
   refine fS ?_;refine cq rfl ?_;rw[<-ZV z];refine BR (x:= .d (.v (.bool true))) rfl rfl ?_;refine aV ?_;refine dk ?_;refine CJ c u ?_;rw[k8,a6]at n;exact⟨rfl,true,rfl,n⟩
  |cons x rest=>
   rw[bH m];refine CD ?_;refine cO ?_;refine aV ?_
   repeat refine aw ?_
   refine dI ?_
   repeat refine aw ?_
   refine fS ?_;refine cq rfl ?_;rw[<-ZV z];refine c8 (R5 (q:=i) (e:=52) (k:=13) rfl rfl (by kernel_rfl) (gz (aY m)) rfl) rfl rfl ?_;refine cq rfl ?_;refine BR (x:=aK x) rfl rfl ?_;refine cq rfl ?_;refine DS (T7 (l:=[]) (by kernel_rfl)) rfl rfl Hy ?_;refine cq rfl ?_;refine VS (QT (i:=0) (off:=0) (k:=13) (l:=[_]) (v:=aK x) (cM:=(aK x).cells) (by kernel_rfl) rfl (by kernel_rfl) rfl (by kernel_rfl) (by kernel_rfl)) rfl TT ?_;refine aV ?_
   repeat refine aw ?_
   refine fS ?_;refine cq rfl ?_;refine c8 (yn (i:=0) (off:=0) (l:=[.cells (aK x).cells]) (x:=aK x) (by kernel_rfl) rfl (by kernel_rfl)) rfl rfl ?_;refine cq rfl ?_;refine BR (x:= .cF k) rfl rfl ?_;refine cq rfl ?_;rw[vq,ZD]at n;have N:=XG _ _ n;have P:=H x (ZX (aY m)) k z _ (by rw[c];exact u) (by rw[c];exact J) N;have Uk:=asz P [.cells (aK x).cells] (by rw[c];exact u) (by
    rw[c];show((aK x).aN h.length&&((AV.cF k).aN h.length&&true))=true;rw[show(aK x).aN h.length=true by kernel_rfl];simp [AV.aN,cG];omega) (λr w j=>by
    obtain⟨b,rfl,_,q1,o⟩:=j;exact⟨q1,o,rfl⟩)
   refine I2 (g:=150) (dC:=[]) rfl rfl rfl ?_;refine Uk.mono λr w j=> ?_;obtain⟨a,⟨b,rfl,A,q1,o⟩,rfl⟩:=j;refine cq rfl ?_;refine BR (x:= .d (.v (.bool (!b)))) rfl rfl ?_;refine aV ?_;cases b with
   |false=>
    refine CD ?_
    repeat refine aw ?_
    refine fS ?_;refine cq rfl ?_;refine BR (x:= .d (.v (.bool false))) rfl rfl ?_;refine aV ?_;refine dk (eW (dn (dn (eW (dn ?_)))));refine CJ (h1:=a) (by rw[q1,c]) (by rw[c]at o;exact o) ?_;exact⟨rfl,false,rfl,A⟩
   |true=>
    refine CG ?_;refine cO ?_;refine eV ?_;refine aV ?_;simp only[V1]at A;refine fS ?_;refine cq rfl ?_;refine c8 (x:= .d (.v (.int .i64 ((i+1:Nat):Int)))) (by
     show some ((.d (.v (.int .i64 (aE ((i:Int)+1)))):AV),HD.same)=_;have:=bV m rfl M;unfold Y at this;rw[this]) rfl rfl ?_
    refine cq rfl ?_;refine BR (x:= .d (.v (.int .i64 ((i+1:Nat):Int)))) rfl rfl ?_;refine aV ?_;have p:a.length=h.length:=by rw[q1,c]
    have B:a.all (ar.aN a.length)=true:=by rw[q1];exact o
    refine⟨?_,(i+1,rest,a),?_,⟨kI m,⟨p,by rw[<-p];exact B⟩,A⟩,Yu _⟩
    ·rw[<-p];exact Bz _ B (by
       show(((AV.cF k).bR a.length).aN a.length&&(true&&(true&&(true&&true))))=true;rw[p];simp [AV.bR,AV.aN,cG];omega)
    ·rw[<-p];exact C9 _ B
mutual
def aag:(e:ay)->Km e
 |⟨_,_,_,_,_,_,xs⟩=>aln _ (acG xs)
def acG:(l:I ay)->∀x∈l,Km x
 |[],_,h=>absurd h Yp
 |x::l,y,h=>(ZY.1 h).elim (λe=>e▸aag x) (acG l y)
end
def M5{P:dg}{fn:Func}{n:Nat}{t:I (Nat×AV)}{H h1:I ar}{K:AV->I ar->Prop}(b:h1.length=H.length)(c:h1.all (ar.aN H.length)=true)(d:oD P ⟨n,t,h1⟩ fn.results.toList λa=>((lx a).bR h1.length).aN h1.length=true/\K ((lx a).bR h1.length) h1):OU P fn H.length K .normal ⟨n,t,h1⟩:=by
 have:=TE (P:=P) (fn:=fn) (n:=n) (t:=t) (l:=[]) (K:=K) b c;rw[ZV]at this;exact this d
def adH{P:dg}{fn:Func}{n:Nat}{t:I (Nat×AV)}{H h1:I ar}{K:AV->I ar->Prop}(b:h1.length=H.length)(c:h1.all (ar.aN H.length)=true)(d:oD P ⟨n,t,h1⟩ fn.results.toList λa=>((lx a).bR h1.length).aN h1.length=true/\K ((lx a).bR h1.length) h1):OU P fn H.length K .ret ⟨n,t,h1⟩:=M5 b c d
def VV(e:ay):BW prog 149 [.bK [fu e] 0 0] ((dR e).map aK):=by
 intro k h C a c f;refine vU h.length func149 rfl (by kernel_rfl) (Zr _) ?_;show bQ prog none h.length _ _ ⟨6,[(0,.cF k),(1,.bK [fu e] 0 0)],h⟩;refine fS ?_;refine cq rfl ?_;refine BR (x:=aK e) rfl rfl ?_;refine cq rfl ?_;refine BR (x:= .cF k) rfl rfl ?_;refine cq rfl ?_;refine I2 (g:=150) (dC:=[]) rfl rfl rfl ?_;refine(aag e k h C a c f).mono λr m i=> ?_;obtain⟨b,rfl,j,q1,l⟩:=i;refine M5 (n:=6) (t:=[(5,.d (.v (.bool b))),(4,.cF k),(3,aK e),(0,.cF k),(1,.bK [fu e] 0 0)]) q1 l ?_;exact⟨rfl,b,j⟩
def yY(x:c7):I bD:=x.bO::x.cP
def qE(e:ay):I bD:=e.bO::e.xIdx.flatMap yY
def ahl(e:ay):BW prog 235 [.bK [fu e] 0 0] ((qE e).map dW):=by
 intro k h C lE z qf;have S:=JB _ lE qf;refine vU h.length func235 rfl (by kernel_rfl) (Zr _) ?_;show bQ prog none h.length _ _ ⟨37,[(0,.cF k),(1,.bK [fu e] 0 0)],h⟩
 repeat refine aw ?_
 refine fS ?_;refine cq rfl ?_;refine BR (x:= .cF k) rfl rfl ?_;refine cq rfl ?_;refine BR (x:= .bK [fu e] 0 9) rfl rfl ?_;refine cq rfl ?_;refine BR (x:=dW e.bO) rfl rfl ?_;refine cq rfl ?_;rw[qE,ZS]at S;refine Bn (k:=k) (x:=dW e.bO) rfl rfl (by kernel_rfl) (by kernel_rfl) rfl rfl ?_;refine YS.mono S λb G f=> ?_;obtain⟨⟨g,A⟩,H⟩:=f;refine cq rfl ?_;refine BR (x:= .d (.v (.bool (!b)))) rfl rfl ?_;refine aV ?_;cases b with
 |false=>
  refine CD ?_;refine dk (dn ?_);exact adH g A ⟨rfl,false,H.1⟩
 |true=>
  refine CG ?_;refine cO ?_;refine aV ?_;simp only[V1]at H
  repeat refine aw ?_
  refine fS ?_;refine cq rfl ?_;refine BR (x:= .bK [fu e] 0 11) rfl rfl ?_;refine cq rfl ?_;refine BR (x:= .d (.sl (fc e.xIdx))) rfl rfl ?_;refine cq rfl ?_;refine BR (x:= .d (.v (.int .i64 (fc e.xIdx).length))) rfl rfl ?_;refine cq rfl ?_;refine BR (x:= .d (.v (.int .i64 0))) rfl rfl ?_;refine aV ?_;refine x9 13 (fc e.xIdx) (by kernel_rfl) λcA=> ?_;have rB:e.xIdx.length<=maxLen:=by rw[<-gq];exact Ma cA
  rw[gq];refine dI ?_;refine Ph (ι:=Nat×I c7×I ar) [0,13,14,15] h.length (λi=>⟨37,[(0,.cF k),(13,.d (.sl (fc e.xIdx))),(14,.d (.v (.int .i64 e.xIdx.length))),(15,.d (.v (.int .i64 i.1)))],i.2.2⟩)
    (λi=>e.xIdx.drop i.1=i.2.1/\qx h i.2.2/\mK prog k ((i.2.1.flatMap yY).map dW) (λb a=>C b a/\qx h a) i.2.2) (λi=>i.2.1.length) (0,e.xIdx,G) (Zr _) ?_ ?_ ⟨rfl,⟨g,A⟩,H⟩ ?_
  ·rw[<-g];exact My _ (by rw[g];exact A) (by
     show(((AV.cF k).bR G.length).aN G.length&&(true&&(true&&(true&&true))))=true;rw[g,Dq z];rfl)
  ·rw[<-g];exact PM _ (by rw[g];exact A)
  rintro⟨i,rest,J⟩ ⟨n,⟨p,K⟩,r⟩;simp only at n p K r ⊢
  repeat refine aw ?_
  refine fS ?_;refine cq rfl ?_;refine BR (x:= .d (.v (.bool (decide ((i:Int)<(e.xIdx.length:Int)))))) rfl rfl ?_;refine aV ?_
  repeat refine aw ?_
  cases rest with
  |nil=>
   rw[bI n];refine CG ?_;refine lW (iD (iD (mU rfl ?_)));rw[List.flatMap_nil,a6]at r;exact M5 p K ⟨rfl,true,r.1⟩
  |cons x rest=>
   rw[bH n];refine CD ?_;refine cO ?_;refine aV ?_
   repeat refine aw ?_
   refine dI ?_
   repeat refine aw ?_
   refine fS ?_;refine cq rfl ?_;rw[<-ZV J];refine c8 (R5 (q:=i) (e:=83) (k:=4) rfl rfl (by kernel_rfl) (jh (aY n)) rfl) rfl rfl ?_;refine cq rfl ?_;refine BR (x:=ig x) rfl rfl ?_;refine cq rfl ?_;refine DS (T7 (l:=[]) (by kernel_rfl)) rfl rfl Hy ?_;refine cq rfl ?_;refine VS (QT (i:=0) (off:=0) (k:=4) (l:=[_]) (v:=ig x) (cM:=(ig x).cells) (by kernel_rfl) rfl (by kernel_rfl) rfl (by kernel_rfl) (by kernel_rfl)) rfl TT ?_;refine aV ?_
   repeat refine aw ?_
   refine fS ?_;refine cq rfl ?_;refine BR (x:= .cF k) rfl rfl ?_;refine cq rfl ?_;refine BR (x:= .ptr (J.length+0) 0) rfl rfl ?_;refine cq rfl ?_;refine c8 (yn (i:=0) (off:=0) (l:=[.cells (ig x).cells]) (x:=dW x.bO) (by kernel_rfl) rfl (by kernel_rfl)) rfl rfl ?_;refine cq rfl ?_;rw[List.flatMap_cons,yY,List.cons_append,ZS]at r;have hy:=PE r [.cells (ig x).cells] (by rw[p];exact K) (by kernel_rfl) (λb L f=>f.1);refine Bn (k:=k) (x:=dW x.bO) rfl rfl (by kernel_rfl) (by kernel_rfl) rfl rfl ?_;refine hy.mono λb L f=> ?_;obtain⟨a,⟨⟨T,W⟩,M⟩,rfl⟩:=f;refine cq rfl ?_;refine BR (x:= .d (.v (.bool (!b)))) rfl rfl ?_;refine aV ?_;have q1:a.length=h.length:=by rw[T,p]
   have B:a.all (ar.aN h.length)=true:=by rw[p]at W;exact W
   cases b with
   |false=>
    refine CD ?_;refine dk ?_
    repeat (first|(with_reducible refine dn ?_)|(with_reducible refine eW ?_))
    exact CJ q1 B ⟨rfl,false,M.1⟩
   |true=>
    refine CG ?_;refine cO ?_;refine aV ?_;simp only[V1]at M
    repeat refine aw ?_
    refine fS ?_;refine cq rfl ?_;refine BR (x:= .ptr (J.length+0) 3) rfl rfl ?_;refine cq rfl ?_;refine c8 (yn (h:=a) (i:=0) (off:=3) (l:=[.cells (ig x).cells]) (x:= .d (.sl (fA x.cP))) (by rw[T];rfl) rfl (by kernel_rfl)) rfl rfl ?_;refine cq rfl ?_;refine BR (x:= .d (.v (.int .i64 (fA x.cP).length))) rfl rfl ?_;refine cq rfl ?_;refine BR (x:= .d (.v (.int .i64 0))) rfl rfl ?_;refine aV ?_;refine x9 25 (fA x.cP) (by kernel_rfl) λN=> ?_;have P:x.cP.length<=maxLen:=by rw[<-fX];exact Ma N
    rw[fX];refine dI ?_;refine Ph (ι:=Nat×I bD×I ar) [0,13,14,15,25,26,27] h.length (λj=>⟨37,[(0,.cF k),(13,.d (.sl (fc e.xIdx))),(14,.d (.v (.int .i64 e.xIdx.length))),(15,.d (.v (.int .i64 i))),(25,.d (.sl (fA x.cP))),(26,.d (.v (.int .i64 x.cP.length))),(27,.d (.v (.int .i64 j.1)))],j.2.2⟩)
      (λj=>x.cP.drop j.1=j.2.1/\qx h j.2.2/\mK prog k ((j.2.1++rest.flatMap yY).map dW) (λb a=>C b a/\qx h a) j.2.2) (λj=>j.2.1.length) (0,x.cP,a) (Zr _) ?_ ?_ ⟨rfl,⟨q1,B⟩,M⟩ ?_
    ·rw[<-q1];exact Bz _ (by rw[q1];exact B) (by
       show(((AV.cF k).bR a.length).aN a.length&&(true&&(true&&(true&&(true&&(true&&(true&&true)))))))=true;rw[q1,Dq z];rfl)
    ·rw[<-q1];exact C9 _ (by rw[q1];exact B)
    rintro⟨j,Q,E⟩ ⟨o,⟨c,t⟩,u⟩;simp only at o c t u ⊢
    repeat refine aw ?_
    refine fS ?_;refine cq rfl ?_;refine BR (x:= .d (.v (.bool (decide ((j:Int)<(x.cP.length:Int)))))) rfl rfl ?_;refine aV ?_
    repeat refine aw ?_
    cases Q with
    |nil=>
     rw[bI o];refine CG ?_;refine lW (iD (iD (mU rfl ?_)));refine eV ?_;refine aV ?_;rw[Wo]at u;refine fS ?_;refine cq rfl ?_;refine c8 (x:= .d (.v (.int .i64 ((i+1:Nat):Int)))) (by
       show some ((.d (.v (.int .i64 (aE ((i:Int)+1)))):AV),HD.same)=_;have:=bV n rfl rB;unfold Y at this;rw[this]) rfl rfl ?_
     refine cq rfl ?_;refine BR (x:= .d (.v (.int .i64 ((i+1:Nat):Int)))) rfl rfl ?_;refine aV ?_;refine⟨?_,(i+1,rest,E),?_,⟨kI n,⟨c,t⟩,u⟩,Yu _⟩
     ·rw[<-c];exact My _ (by rw[c];exact t) (by
        show(((AV.cF k).bR E.length).aN E.length&&(true&&(true&&(true&&true))))=true;rw[c,Dq z];rfl)
     ·rw[<-c];exact PM _ (by rw[c];exact t)
    |cons y Q=>
     rw[bH o];refine CD ?_;refine cO ?_;refine aV ?_
     repeat refine aw ?_
     refine dI ?_
     repeat refine aw ?_
     refine fS ?_;refine cq rfl ?_;rw[<-ZV E];refine c8 (R5 (q:=j) (e:=48) (k:=2) rfl rfl (by kernel_rfl) (o7 (aY o)) rfl) rfl rfl ?_;refine cq rfl ?_;refine BR (x:=dW y) rfl rfl ?_;refine cq rfl ?_;refine DS (T7 (l:=[]) (by kernel_rfl)) rfl rfl Hy ?_;refine cq rfl ?_;refine VS (QT (i:=0) (off:=0) (k:=2) (l:=[_]) (v:=dW y) (cM:=(dW y).cells) (by kernel_rfl) rfl (by kernel_rfl) rfl (by kernel_rfl) (by kernel_rfl)) rfl TT ?_;refine aV ?_
     repeat refine aw ?_
     refine fS ?_;refine cq rfl ?_;refine BR (x:= .cF k) rfl rfl ?_;refine cq rfl ?_;refine c8 (yn (i:=0) (off:=0) (l:=[.cells (dW y).cells]) (x:=dW y) (by kernel_rfl) rfl (by kernel_rfl)) rfl rfl ?_;refine cq rfl ?_;rw[List.cons_append,ZS]at u;have RC:=PE u [.cells (dW y).cells] (by rw[c];exact t) (by kernel_rfl) (λb L f=>f.1);refine Bn (k:=k) (x:=dW y) rfl rfl (by kernel_rfl) (by kernel_rfl) rfl rfl ?_;refine RC.mono λb L f=> ?_;obtain⟨w,⟨⟨r1,r3⟩,R⟩,rfl⟩:=f;refine cq rfl ?_;refine BR (x:= .d (.v (.bool (!b)))) rfl rfl ?_;refine aV ?_;have m:w.length=h.length:=by rw[r1,c]
     have F:w.all (ar.aN h.length)=true:=by rw[c]at r3;exact r3
     cases b with
     |false=>
      refine CD ?_;refine dk ?_
      repeat (first|(with_reducible refine dn ?_)|(with_reducible refine eW ?_))
      exact CJ m F ⟨rfl,false,R.1⟩
     |true=>
      refine CG ?_;refine cO ?_;refine eV ?_;refine aV ?_;simp only[V1]at R;refine fS ?_;refine cq rfl ?_;refine c8 (x:= .d (.v (.int .i64 ((j+1:Nat):Int)))) (by
       show some ((.d (.v (.int .i64 (aE ((j:Int)+1)))):AV),HD.same)=_;have:=bV o rfl P;unfold Y at this;rw[this]) rfl rfl ?_
      refine cq rfl ?_;refine BR (x:= .d (.v (.int .i64 ((j+1:Nat):Int)))) rfl rfl ?_;refine aV ?_;refine⟨?_,(j+1,Q,w),?_,⟨kI o,⟨m,F⟩,R⟩,Yu _⟩
      ·rw[<-m];exact Bz _ (by rw[m];exact F) (by
         show(((AV.cF k).bR w.length).aN w.length&&(true&&(true&&(true&&(true&&(true&&(true&&true)))))))=true;rw[m,Dq z];rfl)
      ·rw[<-m];exact C9 _ (by rw[m];exact F)
def aiq(a:ay):gZ prog 89 [aK a] (·= .fn 149 [.bK [fu a] 0 0]):=by
 refine U8 (r:= .fn 149 [.ptr 0 0]) (h:=[.cells (aK a).cells]) ?_ (by kernel_rfl) rfl;refine tv 1 func89 rfl (by kernel_rfl) (Zh rfl) ?_;refine mI (s':=⟨4,[(0,aK a)],[]⟩) (by kernel_rfl) ?_;refine aw (CU [] [(1,.ptr 0 0)] [.cells (aK a).cells] ?_);refine aw (CU [] [(2,.fn 149 [.ptr 0 0])] [.cells (aK a).cells] ?_);refine dk ?_;exact kt (by kernel_rfl)
def ahG(a:ay):gZ prog 155 [aK a] (·= .fn 235 [.bK [fu a] 0 0]):=by
 refine U8 (r:= .fn 235 [.ptr 0 0]) (h:=[.cells (aK a).cells]) ?_ (by kernel_rfl) rfl;refine tv 1 func155 rfl (by kernel_rfl) (Zh rfl) ?_;refine mI (s':=⟨4,[(0,aK a)],[]⟩) (by kernel_rfl) ?_;refine aw (CU [] [(1,.ptr 0 0)] [.cells (aK a).cells] ?_);refine aw (CU [] [(2,.fn 235 [.ptr 0 0])] [.cells (aK a).cells] ?_);refine dk ?_;exact kt (by kernel_rfl)
open Go.RowKit Go.Shelf
def ahu:Ren where
 f:=fun
  |157=>307
  |229=>322
  |199=>323
  |261=>330
  |311=>332
  |312=>333
  |n=>n
 t:=fun
  |9=>9
  |31=>22
  |3=>3
  |5=>5
  |4=>4
  |119=>303
  |0=>0
  |40=>260
  |152=>312
  |21=>21
  |154=>314
  |51=>300
  |141=>316
  |196=>323
  |193=>320
  |198=>326
  |49=>324
  |194=>321
  |201=>329
  |226=>331
  |46=>250
  |227=>332
  |n=>n
 g:=fun
  |0=>0
  |6=>1
  |n=>n
def pH:I so:=[bs [115,105,122,101],bs [119,104,101,114,101],bs [105,110],bs [100,101,102],bs [111,117,116],bs [115,117,109],bs [112,114,111,100],bs [109,105,110],bs [109,97,120],bs [115,99,97,110],bs [111,118,101,114],bs [105,102],bs [99,97,115,116],bs [102,114,97,99],bs [105,110,116],bs [102,105,120],bs [99,101,105,108],bs [102,108,111,111,114],bs [122,101,114,111],bs [101,118,101,110],bs [115,97,116],bs [119,114,97,112]]
def anO:Lays.n157 prog ahu:=by
 constructor<;>first|kernel_rfl|(intro w;rfl)
def Fa:so:=⟨#[115,105,122,101,32,119,104,101,114,101,32,105,110,32,100,101,102,32,111,117,116,32,115,117,109,32,112,114,111,100,32,109,105,110,32,109,97,120,32,115,99,97,110,32,111,118,101,114,32,105,102,32,99,97,115,116,32,102,114,97,99,32,105,110,116,32,102,105,120,32,99,101,105,108,32,102,108,111,111,114,32,122,101,114,111,32,101,118,101,110,32,115,97,116,32,119,114,97,112]⟩
def ajc(w:Zz)(a:∀c:Nat,c<256->w.cell? ⟨0,c,none⟩=some (.int .u8 (if Lib.isSp (UInt8.ofNat c)then 1 else 0))):
 Calls prog 307 #[.string Fa] w λe w'=>e= .returned (.slice (some ⟨w.heap.size,0,none⟩) 22 22)/\w'=w.alloc (.cells (pH.map Value.string).toArray 9):=by
 have d:(Fa.data.toList.all λb=>decide (b.toNat<128))=true:=by kernel_rfl
 have h:=Any.strings_Fields_core anO (by kernel_rfl) Fa w (Vd (by kernel_rfl)) (λj b f=>Vd (Zb.1 d b (ZX f))) a;have g:(Lib.fields Fa.data.toList).length=22:=by kernel_rfl
 have i:((Lib.fields Fa.data.toList).map λl=>Value.string ⟨l.toArray⟩)=pH.map Value.string:=by kernel_rfl
 rw[g,i]at h;exact h
def amR(w:Zz)(a:∀c:Nat,c<256->w.cell? ⟨0,c,none⟩=some (.int .u8 (if Lib.isSp (UInt8.ofNat c)then 1 else 0))):
 Calls prog 285 #[] w λe w'=>e= .returned (.slice (some ⟨w.heap.size,0,none⟩) 22 22)/\w'=w.alloc (.cells (pH.map Value.string).toArray 9):=by
 go_enter func285,ntmps285
 go_wp2_with (go_at_call 307;refine(ajc _ a).mono ?_;rintro e w' ⟨rfl,rfl⟩)
 go_ret
 exact⟨rfl,rfl⟩
def aqW:∀c:Nat,c<256->(AH Ge)[c]?=some (.int .u8 (if Lib.isSp (UInt8.ofNat c)then 1 else 0)):=λc a=>by
 rw[show AH Ge=(List.range 256).map λc=>Value.int .u8 (if Lib.isSp (UInt8.ofNat c)then 1 else 0) by kernel_rfl,Zm,List.getElem?_range a];rfl
def aqX:gZ prog 285 [] (·= .d (.sl (cD pH))):=by
 refine⟨by kernel_rfl,λG w l h m z=> ?_⟩;obtain rfl:l= #[]:=Array.size_eq_zero_iff.1 m;refine(amR w λc n=> ?_).mono λe A b=> ?_
 ·exact(h.gl.1 0 (AH Ge) Zl c _ (aqW c n)).2
 ·obtain⟨rfl,rfl⟩:=b;obtain⟨p,q⟩:=YE h (.cells (pH.map Value.string).toArray 9) 22;have r:Rd (G.sb w.heap.size 22).S (w.alloc (.cells (pH.map Value.string).toArray 9)) 1 (cD pH) (pH.map Value.string):=
   ⟨rfl,λx a=>(by obtain⟨y,_,rfl⟩:=W1.1 a;rfl),λu f=>(by obtain⟨y,_,rfl⟩:=W1.1 f;rfl),λi j x d a k=>by
    rw[mS,Zm]at a;cases g:pH[i]? with
    |none=>rw[g]at a;cases a
    |some y=>
     rw[g]at a;cases a;cases j with
     |zero=>cases k;exact⟨.string y,by rw[Nat.mul_one,Nat.add_zero,Zm,g];rfl,.v _⟩
     |succ j=>cases k⟩
  have b:=r.HG w.heap.size 22 (by decide) (by decide) (λo t=>.inr ⟨rfl,t⟩) (λo u f=>by
   rw[World.cell?_alloc_new,List.getElem?_toArray];exact f)
  exact⟨_,_,_,_,rfl,p,Zr _,q,.d b,rfl,rfl⟩
set_option maxRecDepth 1000000
end Go.Proofs.YtnnapanbbbcalaaGreatDoor
