/-
  Part 4 of the proof.
-/
import Derived.Test.YtjploedinjiflaaGreatDoorPi3
import Derived.Test.YtjploedinjiflaaGreatDoorProg
import Derived.WalkKit
import Derived.Shelf.Strings.Fields
import Derived.KernelRfl
set_option linter.defProp false
namespace Go.Proofs.YtjploedinjiflaaGreatDoor
open Tryz
open Go.RowKit
set_option linter.unusedVariables false
def je(x:so):U D:=[.v (.string x)]
def bQ(l:U so):U (U D):=l.map je
def pc(l:U so):bQ l=l.map je:=rfl
def jt{l:U so}:(bQ l).length=l.length:=by rw[pc,Zw]
def rM{l:U so}{k:Nat}{x:so}(h:l[k]?=some x):(bQ l)[k]?=some (je x):=by rw[pc,Zm,h];rfl
def atD{a b:U so}:bQ a++bQ b=bQ (a++b):=by rw[pc,pc,pc,ab]
def E8{l:U so}:∀c∈bQ l,c.length=1:=by
 intro c a;rw[pc]at a;obtain⟨x,_,rfl⟩:=UZ.1 a;rfl
def ami{l:U so}{k n:Nat}:((bQ l).take n).drop k=bQ ((l.take n).drop k):=by rw[pc,pc,List.map_drop,List.map_take]
def fu(x:Int):U D:=[.v (.int .i64 x)]
def bN(l:U Int):U (U D):=l.map fu
def pO(l:U Int):bN l=l.map fu:=rfl
def ig{l:U Int}:(bN l).length=l.length:=by rw[pO,Zw]
def kK{l:U Int}{k:Nat}{x:Int}(h:l[k]?=some x):(bN l)[k]?=some (fu x):=by rw[pO,Zm,h];rfl
def ajL{a b:U Int}:bN a++bN b=bN (a++b):=by rw[pO,pO,pO,ab]
def JL{l:U Int}:∀c∈bN l,c.length=1:=by
 intro c a;rw[pO]at a;obtain⟨x,_,rfl⟩:=UZ.1 a;rfl
structure bD where
 ar:ByteArray
 dh:Int64
def GC(x:bD):U D:=[.v (.string x.ar),.v (.int .i64 x.dh.toInt)]
def lB(x:bD):AV:= .agg [.d (.v (.string x.ar)),.d (.v (.int .i64 x.dh.toInt))]
structure aQ where
 bt:Int
 bW:Int
 bR:Int
 b9:Int
 b8:Int
def LD(x:aQ):U D:=[.v (.int .i64 x.bt),.v (.int .i64 x.bW),.v (.int .i64 x.bR),.v (.int .i64 x.b9),.v (.int .i64 x.b8)]
def cN(x:aQ):AV:= .agg [.d (.v (.int .i64 x.bt)),.d (.v (.int .i64 x.bW)),.d (.v (.int .i64 x.bR)),.d (.v (.int .i64 x.b9)),.d (.v (.int .i64 x.b8))]
structure aH where
 xN:Int64
 xD:Int64
def DV(x:aH):U D:=[.v (.int .i64 x.xN.toInt),.v (.int .i64 x.xD.toInt)]
def bO(x:aH):AV:= .agg [.d (.v (.int .i64 x.xN.toInt)),.d (.v (.int .i64 x.xD.toInt))]
structure aR where
 ar:ByteArray
 cU:Int64
def Io(x:aR):U D:=[.v (.string x.ar),.v (.int .i64 x.cU.toInt)]
def No(x:aR):AV:= .agg [.d (.v (.string x.ar)),.d (.v (.int .i64 x.cU.toInt))]
structure fG where
 js:aH
 gC:aQ
def eQ(x:fG):AV:= .agg [.d (.v (.int .i64 x.js.xN.toInt)),.d (.v (.int .i64 x.js.xD.toInt)),.d (.v (.int .i64 x.gC.bt)),.d (.v (.int .i64 x.gC.bW)),.d (.v (.int .i64 x.gC.bR)),.d (.v (.int .i64 x.gC.b9)),.d (.v (.int .i64 x.gC.b8))]
structure kY where
 pF:Int
 mJ:Int
 lQ:Int
def FZ(x:kY):AV:= .agg [.d (.v (.int .u64 x.pF)),.d (.v (.int .u64 x.mJ)),.d (.v (.int .u64 x.lQ))]
def cY(l:U bD):U (U D):=l.map GC
def uM(l:U bD):cY l=l.map GC:=rfl
def fO{l:U bD}:(cY l).length=l.length:=by rw[uM,Zw]
def jL{l:U bD}{k:Nat}{x:bD}(h:l[k]?=some x):(cY l)[k]?=some (GC x):=by rw[uM,Zm,h];rfl
def anv{a b:U bD}:cY a++cY b=cY (a++b):=by rw[uM,uM,uM,ab]
def CB{l:U bD}:∀c∈cY l,c.length=2:=by
 intro c a;rw[uM]at a;obtain⟨x,_,rfl⟩:=UZ.1 a;rfl
def Mx{l:U bD}{k:Nat}:(cY l).drop k=cY (l.drop k):=by rw[uM,uM,List.map_drop]
def bz(l:U aR):U (U D):=l.map Io
def y5(l:U aR):bz l=l.map Io:=rfl
def yQ{l:U aR}:(bz l).length=l.length:=by rw[y5,Zw]
def Cc{l:U aR}{k:Nat}{x:aR}(h:l[k]?=some x):(bz l)[k]?=some (Io x):=by rw[y5,Zm,h];rfl
def ajl{a b:U aR}:bz a++bz b=bz (a++b):=by rw[y5,y5,y5,ab]
def atK{l:U aR}:∀c∈bz l,c.length=2:=by
 intro c a;rw[y5]at a;obtain⟨x,_,rfl⟩:=UZ.1 a;rfl
def fa(l:U aH):U (U D):=l.map DV
def vA(l:U aH):fa l=l.map DV:=rfl
def nK{l:U aH}:(fa l).length=l.length:=by rw[vA,Zw]
def ta{l:U aH}{k:Nat}{x:aH}(h:l[k]?=some x):(fa l)[k]?=some (DV x):=by rw[vA,Zm,h];rfl
def asd{a b:U aH}:fa a++fa b=fa (a++b):=by rw[vA,vA,vA,ab]
def W3{l:U aH}:∀c∈fa l,c.length=2:=by
 intro c a;rw[vA]at a;obtain⟨x,_,rfl⟩:=UZ.1 a;rfl
def an1{l:U aH}{k:Nat}:(fa l).drop k=fa (l.drop k):=by rw[vA,vA,List.map_drop]
def qI(l:U aQ):U (U D):=l.map LD
def Cj(l:U aQ):qI l=l.map LD:=rfl
def arQ{l:U aQ}:(qI l).length=l.length:=by rw[Cj,Zw]
def vE{l:U aQ}{k:Nat}{x:aQ}(h:l[k]?=some x):(qI l)[k]?=some (LD x):=by rw[Cj,Zm,h];rfl
def anM{a b:U aQ}:qI a++qI b=qI (a++b):=by rw[Cj,Cj,Cj,ab]
def amI{l:U aQ}:∀c∈qI l,c.length=5:=by
 intro c a;rw[Cj]at a;obtain⟨x,_,rfl⟩:=UZ.1 a;rfl
structure aK where
 xK:Int64
 xL:List bD
def nq(x:aK):U D:=[.v (.int .i64 x.xK.toInt),.sl (cY x.xL)]
def cJ(x:aK):AV:= .agg [.d (.v (.int .i64 x.xK.toInt)),.d (.sl (cY x.xL))]
structure cQ where
 aU:aK
 l9:Bool
def HO(x:cQ):U D:=[.v (.int .i64 x.aU.xK.toInt),.sl (cY x.aU.xL),.v (.bool x.l9)]
def pH(x:cQ):AV:= .agg [.d (.v (.int .i64 x.aU.xK.toInt)),.d (.sl (cY x.aU.xL)),.d (.v (.bool x.l9))]
structure cq where
 ar:ByteArray
 dq:aK
def IG(x:cq):U D:=[.v (.string x.ar),.v (.int .i64 x.dq.xK.toInt),.sl (cY x.dq.xL)]
def vO(x:cq):AV:= .agg [.d (.v (.string x.ar)),.d (.v (.int .i64 x.dq.xK.toInt)),.d (.sl (cY x.dq.xL))]
structure bo where
 aw:aQ
 aJ:List Int
 fE:List aH
def cx(x:bo):U D:=[.v (.int .i64 x.aw.bt),.v (.int .i64 x.aw.bW),.v (.int .i64 x.aw.bR),.v (.int .i64 x.aw.b9),.v (.int .i64 x.aw.b8),.sl (bN x.aJ),.sl (fa x.fE)]
def jo(x:bo):AV:= .agg [.d (.v (.int .i64 x.aw.bt)),.d (.v (.int .i64 x.aw.bW)),.d (.v (.int .i64 x.aw.bR)),.d (.v (.int .i64 x.aw.b9)),.d (.v (.int .i64 x.aw.b8)),.d (.sl (bN x.aJ)),.d (.sl (fa x.fE))]
structure aO where
 ar:ByteArray
 gg:bo
def Fh(x:aO):U D:=[.v (.string x.ar),.v (.int .i64 x.gg.aw.bt),.v (.int .i64 x.gg.aw.bW),.v (.int .i64 x.gg.aw.bR),.v (.int .i64 x.gg.aw.b9),.v (.int .i64 x.gg.aw.b8),.sl (bN x.gg.aJ),.sl (fa x.gg.fE)]
def awt(x:aO):AV:= .agg [.d (.v (.string x.ar)),.d (.v (.int .i64 x.gg.aw.bt)),.d (.v (.int .i64 x.gg.aw.bW)),.d (.v (.int .i64 x.gg.aw.bR)),.d (.v (.int .i64 x.gg.aw.b9)),.d (.v (.int .i64 x.gg.aw.b8)),.d (.sl (bN x.gg.aJ)),.d (.sl (fa x.gg.fE))]
def dP(l:U cQ):U (U D):=l.map HO
def AL(l:U cQ):dP l=l.map HO:=rfl
def ql{l:U cQ}:(dP l).length=l.length:=by rw[AL,Zw]
def C3{l:U cQ}{k:Nat}{x:cQ}(h:l[k]?=some x):(dP l)[k]?=some (HO x):=by rw[AL,Zm,h];rfl
def aof{a b:U cQ}:dP a++dP b=dP (a++b):=by rw[AL,AL,AL,ab]
def amf{l:U cQ}:∀c∈dP l,c.length=3:=by
 intro c a;rw[AL]at a;obtain⟨x,_,rfl⟩:=UZ.1 a;rfl
def dF(l:U aK):U (U D):=l.map nq
def vQ(l:U aK):dF l=l.map nq:=rfl
def fJ{l:U aK}:(dF l).length=l.length:=by rw[vQ,Zw]
def mQ{l:U aK}{k:Nat}{x:aK}(h:l[k]?=some x):(dF l)[k]?=some (nq x):=by rw[vQ,Zm,h];rfl
def aoL{a b:U aK}:dF a++dF b=dF (a++b):=by rw[vQ,vQ,vQ,ab]
def agL{l:U aK}:∀c∈dF l,c.length=2:=by
 intro c a;rw[vQ]at a;obtain⟨x,_,rfl⟩:=UZ.1 a;rfl
def dC(l:U cq):U (U D):=l.map IG
def AZ(l:U cq):dC l=l.map IG:=rfl
def kt{l:U cq}:(dC l).length=l.length:=by rw[AZ,Zw]
def uo{l:U cq}{k:Nat}{x:cq}(h:l[k]?=some x):(dC l)[k]?=some (IG x):=by rw[AZ,Zm,h];rfl
def auV{a b:U cq}:dC a++dC b=dC (a++b):=by rw[AZ,AZ,AZ,ab]
def aqb{l:U cq}:∀c∈dC l,c.length=3:=by
 intro c a;rw[AZ]at a;obtain⟨x,_,rfl⟩:=UZ.1 a;rfl
def bG(l:U aO):U (U D):=l.map Fh
def AE(l:U aO):bG l=l.map Fh:=rfl
def A9{l:U aO}:(bG l).length=l.length:=by rw[AE,Zw]
def Eo{l:U aO}{k:Nat}{x:aO}(h:l[k]?=some x):(bG l)[k]?=some (Fh x):=by rw[AE,Zm,h];rfl
def aor{a b:U aO}:bG a++bG b=bG (a++b):=by rw[AE,AE,AE,ab]
def atf{l:U aO}:∀c∈bG l,c.length=8:=by
 intro c a;rw[AE]at a;obtain⟨x,_,rfl⟩:=UZ.1 a;rfl
def QW(x:U cq):U D:=[.sl (dC x)]
def qF(l:U (U cq)):U (U D):=l.map QW
def Bp(l:U (U cq)):qF l=l.map QW:=rfl
def Ue{l:U (U cq)}:(qF l).length=l.length:=by rw[Bp,Zw]
def abk{l:U (U cq)}{k:Nat}{x:(U cq)}(h:l[k]?=some x):(qF l)[k]?=some (QW x):=by rw[Bp,Zm,h];rfl
def amL{a b:U (U cq)}:qF a++qF b=qF (a++b):=by rw[Bp,Bp,Bp,ab]
def aqz{l:U (U cq)}:∀c∈qF l,c.length=1:=by
 intro c a;rw[Bp]at a;obtain⟨x,_,rfl⟩:=UZ.1 a;rfl
structure cl where
 ar:ByteArray
 aw:aQ
 aJ:List aK
def EF(x:cl):U D:=[.v (.string x.ar),.v (.int .i64 x.aw.bt),.v (.int .i64 x.aw.bW),.v (.int .i64 x.aw.bR),.v (.int .i64 x.aw.b9),.v (.int .i64 x.aw.b8),.sl (dF x.aJ)]
def mj(x:cl):AV:= .agg [.d (.v (.string x.ar)),.d (.v (.int .i64 x.aw.bt)),.d (.v (.int .i64 x.aw.bW)),.d (.v (.int .i64 x.aw.bR)),.d (.v (.int .i64 x.aw.b9)),.d (.v (.int .i64 x.aw.b8)),.d (.sl (dF x.aJ))]
structure aT where
 aU:aK
 bp:ByteArray
 bC:List aK
def im(x:aT):U D:=[.v (.int .i64 x.aU.xK.toInt),.sl (cY x.aU.xL),.v (.string x.bp),.sl (dF x.bC)]
def fK(x:aT):AV:= .agg [.d (.v (.int .i64 x.aU.xK.toInt)),.d (.sl (cY x.aU.xL)),.d (.v (.string x.bp)),.d (.sl (dF x.bC))]
def dA(l:U cl):U (U D):=l.map EF
def yY(l:U cl):dA l=l.map EF:=rfl
def pe{l:U cl}:(dA l).length=l.length:=by rw[yY,Zw]
def xM{l:U cl}{k:Nat}{x:cl}(h:l[k]?=some x):(dA l)[k]?=some (EF x):=by rw[yY,Zm,h];rfl
def akk{a b:U cl}:dA a++dA b=dA (a++b):=by rw[yY,yY,yY,ab]
def at5{l:U cl}:∀c∈dA l,c.length=7:=by
 intro c a;rw[yY]at a;obtain⟨x,_,rfl⟩:=UZ.1 a;rfl
def cg(l:U aT):U (U D):=l.map im
def uR(l:U aT):cg l=l.map im:=rfl
def gv{l:U aT}:(cg l).length=l.length:=by rw[uR,Zw]
def j5{l:U aT}{k:Nat}{x:aT}(h:l[k]?=some x):(cg l)[k]?=some (im x):=by rw[uR,Zm,h];rfl
def amn{a b:U aT}:cg a++cg b=cg (a++b):=by rw[uR,uR,uR,ab]
def ahm{l:U aT}:∀c∈cg l,c.length=4:=by
 intro c a;rw[uR]at a;obtain⟨x,_,rfl⟩:=UZ.1 a;rfl
structure au where
 aA:Int
 ar:ByteArray
 cU:aH
 aw:aQ
 aU:aK
 xIdx:List aT
 bk:List au
mutual
def Vv:au->U D
 |⟨aA,ar,cU,aw,aU,xIdx,bk⟩=>[.v (.int .i64 aA),.v (.string ar),.v (.int .i64 cU.xN.toInt),.v (.int .i64 cU.xD.toInt),.v (.int .i64 aw.bt),.v (.int .i64 aw.bW),.v (.int .i64 aw.bR),.v (.int .i64 aw.b9),.v (.int .i64 aw.b8),.v (.int .i64 aU.xK.toInt),.sl (cY aU.xL),.sl (cg xIdx),.sl (eH bk)]
def eH:U au->U (U D)
 |[]=>[]
 |x::l=>Vv x::eH l
end
def dV(x:au):U D:=[.v (.int .i64 x.aA),.v (.string x.ar),.v (.int .i64 x.cU.xN.toInt),.v (.int .i64 x.cU.xD.toInt),.v (.int .i64 x.aw.bt),.v (.int .i64 x.aw.bW),.v (.int .i64 x.aw.bR),.v (.int .i64 x.aw.b9),.v (.int .i64 x.aw.b8),.v (.int .i64 x.aU.xK.toInt),.sl (cY x.aU.xL),.sl (cg x.xIdx),.sl (eH x.bk)]
def au7(x:au):Vv x=dV x:=by cases x;simp only[Vv];rfl
def oY:∀l:U au,eH l=l.map dV
 |[]=>by simp [eH]
 |x::l=>by simp [eH,au7,oY l]
def iM{l:U au}:(eH l).length=l.length:=by rw[oY,Zw]
def kg{l:U au}{k:Nat}{x:au}(h:l[k]?=some x):(eH l)[k]?=some (dV x):=by rw[oY,Zm,h];rfl
def atQ{a b:U au}:eH a++eH b=eH (a++b):=by rw[oY,oY,oY,ab]
def ag5{l:U au}:∀c∈eH l,c.length=13:=by
 intro c a;rw[oY]at a;obtain⟨x,_,rfl⟩:=UZ.1 a;rfl
def aL(x:au):AV:= .agg [.d (.v (.int .i64 x.aA)),.d (.v (.string x.ar)),.d (.v (.int .i64 x.cU.xN.toInt)),.d (.v (.int .i64 x.cU.xD.toInt)),.d (.v (.int .i64 x.aw.bt)),.d (.v (.int .i64 x.aw.bW)),.d (.v (.int .i64 x.aw.bR)),.d (.v (.int .i64 x.aw.b9)),.d (.v (.int .i64 x.aw.b8)),.d (.v (.int .i64 x.aU.xK.toInt)),.d (.sl (cY x.aU.xL)),.d (.sl (cg x.xIdx)),.d (.sl (eH x.bk))]
structure aF where
 ar:ByteArray
 aw:aQ
 aJ:List cq
 bI:List cq
 cE:Int
 aX:au
def dv(x:aF):U D:=[.v (.string x.ar),.v (.int .i64 x.aw.bt),.v (.int .i64 x.aw.bW),.v (.int .i64 x.aw.bR),.v (.int .i64 x.aw.b9),.v (.int .i64 x.aw.b8),.sl (dC x.aJ),.sl (dC x.bI),.v (.int .i64 x.cE),.v (.int .i64 x.aX.aA),.v (.string x.aX.ar),.v (.int .i64 x.aX.cU.xN.toInt),.v (.int .i64 x.aX.cU.xD.toInt),.v (.int .i64 x.aX.aw.bt),.v (.int .i64 x.aX.aw.bW),.v (.int .i64 x.aX.aw.bR),.v (.int .i64 x.aX.aw.b9),.v (.int .i64 x.aX.aw.b8),.v (.int .i64 x.aX.aU.xK.toInt),.sl (cY x.aX.aU.xL),.sl (cg x.aX.xIdx),.sl (eH x.aX.bk)]
def dX(x:aF):AV:= .agg [.d (.v (.string x.ar)),.d (.v (.int .i64 x.aw.bt)),.d (.v (.int .i64 x.aw.bW)),.d (.v (.int .i64 x.aw.bR)),.d (.v (.int .i64 x.aw.b9)),.d (.v (.int .i64 x.aw.b8)),.d (.sl (dC x.aJ)),.d (.sl (dC x.bI)),.d (.v (.int .i64 x.cE)),.d (.v (.int .i64 x.aX.aA)),.d (.v (.string x.aX.ar)),.d (.v (.int .i64 x.aX.cU.xN.toInt)),.d (.v (.int .i64 x.aX.cU.xD.toInt)),.d (.v (.int .i64 x.aX.aw.bt)),.d (.v (.int .i64 x.aX.aw.bW)),.d (.v (.int .i64 x.aX.aw.bR)),.d (.v (.int .i64 x.aX.aw.b9)),.d (.v (.int .i64 x.aX.aw.b8)),.d (.v (.int .i64 x.aX.aU.xK.toInt)),.d (.sl (cY x.aX.aU.xL)),.d (.sl (cg x.aX.xIdx)),.d (.sl (eH x.aX.bk))]
def dy(l:U aF):U (U D):=l.map dv
def oc(l:U aF):dy l=l.map dv:=rfl
def kO{l:U aF}:(dy l).length=l.length:=by rw[oc,Zw]
def nI{l:U aF}{k:Nat}{x:aF}(h:l[k]?=some x):(dy l)[k]?=some (dv x):=by rw[oc,Zm,h];rfl
def ajT{a b:U aF}:dy a++dy b=dy (a++b):=by rw[oc,oc,oc,ab]
def RW{l:U aF}:∀c∈dy l,c.length=22:=by
 intro c a;rw[oc]at a;obtain⟨x,_,rfl⟩:=UZ.1 a;rfl
def aqJ{l:U aF}{k n:Nat}:((dy l).take n).drop k=dy ((l.take n).drop k):=by rw[oc,oc,List.map_drop,List.map_take]
structure aI where
 bj:List ByteArray
 cO:List cQ
 aS:List cl
 ax:List aF
 cB:List ByteArray
def alr(x:aI):U D:=[.sl (bQ x.bj),.sl (dP x.cO),.sl (dA x.aS),.sl (dy x.ax),.sl (bQ x.cB)]
def di(x:aI):AV:= .agg [.d (.sl (bQ x.bj)),.d (.sl (dP x.cO)),.d (.sl (dA x.aS)),.d (.sl (dy x.ax)),.d (.sl (bQ x.cB))]
def cd(s:so):AV:= .d (.v (.string s))
def Y(n:Int):AV:= .d (.v (.int .i64 n))
def bg(n:Int64):AV:= .d (.v (.int .i64 n.toInt))
def aG(b:Bool):AV:= .d (.v (.bool b))
abbrev aY(n:Int):Int:=IntKind.i64.wrap n
def Ed(a:Int):IntKind.i64.wrap a=a.bmod (2^64):=by
 rw[cR,Int.bmod_def];omega
def kM(a:Int):Y (aY a)=bg (Int64.ofInt a):=by
 unfold Y bg aY;rw[Ed,Int64.toInt_ofInt]
def IF(a b:Int64):Y (aY (a.toInt+b.toInt))=bg (a+b):=by
 unfold Y bg aY;rw[Ed,Int64.toInt_add]
def Av(a b:Int64):Y (aY (a.toInt-b.toInt))=bg (a-b):=by
 unfold Y bg aY;rw[Ed,Int64.toInt_sub]
def nJ(a b:Int64):Y (aY (a.toInt*b.toInt))=bg (a*b):=by
 unfold Y bg aY;rw[Ed,Int64.toInt_mul]
def Oo(a:Int64):Y (aY (0-a.toInt))=bg (-a):=by
 unfold Y bg aY;rw[Ed,Int64.toInt_neg,Int.zero_sub]
def PE{a:Int}(h:aY a=a):Y a=bg (Int64.ofInt a):=by
 rw[<-kM,h]
def akP(a:Int)(m:Nat)(h1: -9223372036854775808<=a)(g:a<9223372036854775808): -9223372036854775808<=a.fdiv (2^m)/\a.fdiv (2^m)<9223372036854775808:=by
 have d:(0:Int)<2^m:=Int.pow_pos gy;rw[Int.fdiv_eq_ediv_of_nonneg _ (Int.le_of_lt d)];generalize (2:Int)^m=p at*;by_cases h:0<=a;{have e:=Int.ediv_nonneg h (Int.le_of_lt d);have f:=Int.ediv_le_self p h;omega}
 ·have e:a / p<0:=Int.ediv_neg_of_neg_of_pos k7 d;have f:a<=a / p:=by
   refine(Int.le_ediv_iff_mul_le d).2 ?_;have:=Int.mul_le_mul_of_nonpos_left (a:=a) (b:=p) (c:=1) k7 k7;omega
  omega
def ac8(a:Int64)(m:Nat):Y (a.toInt.fdiv (2^m))=bg (Int64.ofInt (a.toInt.fdiv (2^m))):=by
 refine PE ?_;have h:=akP a.toInt m (by have:=a.le_toInt;simpa using this) (by have:=a.toInt_lt;simpa using this);unfold aY;rw[cR];omega
def adw(a:Int64)(b:Int):Y (a.toInt.tmod b)=bg (Int64.ofInt (a.toInt.tmod b)):=by
 refine PE ?_;unfold aY;rw[cR];have d:=a.le_toInt;have e:=a.toInt_lt;have c:=Int.natAbs_tmod a.toInt b;have h:(a.toInt.tmod b).natAbs<=a.toInt.natAbs:=by rw[c];exact Nat.mod_le _ _
 have i: -9223372036854775808<=a.toInt/\a.toInt<=9223372036854775807:=by omega
 clear d e c;by_cases f:0<=a.toInt;{have:=Int.tmod_nonneg b f;generalize a.toInt.tmod b=x at*;omega};{have g:=Int.tmod_nonneg b (show 0<=-a.toInt by omega);rw[Int.neg_tmod]at g;generalize a.toInt.tmod b=x at*;omega}
def ck{α:Type}{l:U α}{k:Nat}{x:α}{xs:U α}{n:Nat}(a:l.drop k=x::xs)(c:l.length=n)(d:n<=maxLen):Y (aY ((k:Int)+1))=Y ((k+1:Nat):Int):=by
 have:(l.drop k).length=(x::xs).length:=by rw[a]
 rw[ca,Zp]at this;have b:k<maxLen:=by omega
 unfold maxLen at b;have e:IntKind.i64.wrap ((k:Int)+1)=((k+1:Nat):Int):=by rw[cR];omega
 unfold Y aY;rw[e]
def bA{α:Type}{l:U α}{k:Nat}{x:α}{xs:U α}(a:l.drop k=x::xs):l[k]?=some x:=by
 have:(l.drop k)[0]?=some x:=by rw[a];rfl
 rwa [List.getElem?_drop]at this
def kG{α:Type}{l:U α}{k:Nat}{x:α}{xs:U α}(a:l.drop k=x::xs):l.drop (k+1)=xs:=by
 rw[<-List.drop_drop,a];rfl
def bZ{α:Type}{l:U α}{k:Nat}{x:α}{xs:U α}(a:l.drop k=x::xs):decide ((k:Int)<(l.length:Int))=true:=by
 have:(l.drop k).length=(x::xs).length:=by rw[a]
 rw[ca,Zp]at this;exact eD k7
def bY{α:Type}{l:U α}{k:Nat}(a:l.drop k=[]):decide ((k:Int)<(l.length:Int))=false:=by
 have:=List.drop_eq_nil_iff.1 a;exact Zn k7
def lG{n dc:Nat}(h:Nat.ble (n*dc) 140737488355328=true)(a:1<=dc):n<=maxLen/\n*dc<=140737488355328:=by
 have h:=Zh h;refine⟨?_,h⟩;unfold maxLen;have:=Nat.le_mul_of_pos_right n a;omega
def bH:prog.follows .mixedOrders=true:=by kernel_rfl
set_option maxRecDepth 100000
set_option maxHeartbeats 0
mutual
def Su:au->U au
 |⟨o,n,v,t,l,i,xs⟩=>⟨o,n,v,t,l,i,xs⟩::su xs
def su:U au->U au
 |[]=>[]
 |x::l=>Su x++su l
end
def dx(e:au):U au:=e::su e.bk
def ai3(e:au):Su e=dx e:=by cases e;simp only[Su];rfl
def Vu(x:au)(l:U au):su (x::l)=dx x++su l:=by rw[su,ai3]
def Je{P:eG}{k:Nat}:∀(l:U AV){C:Bool->U ao->Prop}{h:U ao},h.all (ao.aN h.length)=true->nf P k l C h->nf P k l (λb h1=>C b h1/\qv h h1) h
 |[],_,_,d,c=>⟨c,rfl,d⟩
 |x::l,C,h,d,c=>YS.mono c λb h1 ⟨a,e⟩=>⟨a,by
  cases b with
  |true=>exact afP l (λb j ⟨g,i,f⟩=>⟨g,by rw[i,a.1],by rw[a.1]at f;exact f⟩) (Je l (by rw[a.1];exact a.2) e)
  |false=>exact⟨e,a⟩⟩
def LX(e:au):Prop:=∀(k:Nat)(h:U ao)(C:Bool->U ao->Prop),h.all (ao.aN h.length)=true->k<h.length->nf prog k ((dx e).map aL) C h->da prog 82 [aL e,.cD k] h λr a=>∃b,r= .d (.v (.bool b))/\C b a/\qv h a
def Xk{P:eG}{fn:Func}{n:Nat}{t:U (Nat×AV)}{H h1 l:U ao}{K:AV->U ao->Prop}(c:h1.length=H.length)(a:h1.all (ao.aN H.length)=true)(d:oS P ⟨n,t,h1++l⟩ fn.results.toList λb=>((ly b).bK h1.length).aN h1.length=true/\K ((ly b).bK h1.length) h1):tC P fn H.length K ⟨n,t,h1++l⟩:=by
 rw[<-c]at a ⊢;exact amk a d
def Dv{P:eG}{fn:Func}{n:Nat}{t:U (Nat×AV)}{H h1 l:U ao}{K:AV->U ao->Prop}(b:h1.length=H.length)(c:h1.all (ao.aN H.length)=true)(d:oS P ⟨n,t,h1++l⟩ fn.results.toList λa=>((ly a).bK h1.length).aN h1.length=true/\K ((ly a).bK h1.length) h1):Oj P fn H.length K .ret ⟨n,t,h1++l⟩:=Xk b c d
def amR(e:au)(H:∀x∈e.bk,LX x):LX e:=by
 intro k h C E J F;refine we h.length func82 rfl km (Zx _) ?_
 suffices G:bM prog none h.length _ _ ⟨23,[(0,aL e),(1,.cD k)],h++[]⟩ by rw[ZW]at G;exact G
 repeat refine az ?_
 refine fq ?_;refine bX rfl ?_;refine Bq (ahS (l:=[]) (v:=aL e) rfl km) rfl rfl Jj ?_;refine bX rfl ?_;refine AS (x:= .d (.v (.bool false))) rfl rfl ?_;refine bx ?_
 repeat refine az ?_
 refine fq ?_;refine bX rfl ?_;refine AS (x:= .cD k) rfl rfl ?_;refine bX rfl ?_;refine cP (zH (i:=0) (off:=0) (l:=[]++[.cells (aL e).cells]) (x:=aL e) km rfl km) rfl rfl ?_;refine bX rfl ?_;rw[dx,ZY]at F;have K:=N9 (Je (aL e::_) E F) [.cells (aL e).cells] E km (λb w j=>j.1);refine Bi (k:=k) (x:=aL e) rfl rfl km km rfl rfl ?_;refine K.mono λb w j=> ?_;obtain⟨h1,⟨⟨f,t⟩,y⟩,rfl⟩:=j;refine bX rfl ?_;refine AS (x:= .d (.v (.bool (!b)))) rfl rfl ?_;refine bx ?_;cases b with
 |false=>
  refine BE ?_
  repeat refine az ?_
  refine fq ?_;refine bX rfl ?_;refine AS (x:= .d (.v (.bool false))) rfl rfl ?_;refine bx ?_;refine cT (dd ?_);refine Dv f t ?_;exact⟨rfl,false,rfl,y⟩
 |true=>
  refine Bo ?_;refine dn ?_;refine bx ?_;simp only[Tj]at y
  repeat refine az ?_
  refine fq ?_;refine bX rfl ?_;refine AS (x:= .ptr (h.length+0) 12) rfl rfl ?_;refine bX rfl ?_;refine cP (zH (h:=h1) (i:=0) (off:=12) (l:=[.cells (aL e).cells]) (x:= .d (.sl (eH e.bk))) (by rw[f];rfl) rfl km) rfl rfl ?_;refine bX rfl ?_;refine AS (x:= .d (.v (.int .i64 (eH e.bk).length))) rfl rfl ?_;refine bX rfl ?_;refine AS (x:= .d (.v (.int .i64 0))) rfl rfl ?_;refine bx ?_;refine rY 12 (eH e.bk) km λL=> ?_;have M:e.bk.length<=maxLen:=by rw[<-iM];exact KK L
  rw[iM]
  repeat refine az ?_
  refine ft ?_;refine NY (ι:=Nat×U au×U ao) [1,12,13,14] h.length (λi=>⟨23,[(1,.cD k),(12,.d (.sl (eH e.bk))),(13,.d (.v (.int .i64 e.bk.length))),(14,.d (.v (.int .i64 i.1)))],i.2.2⟩)
   (λi=>e.bk.drop i.1=i.2.1/\qv h i.2.2/\nf prog k ((su i.2.1).map aL) (λb a=>C b a/\qv h a) i.2.2) (λi=>i.2.1.length) (0,e.bk,h1) (Zx _) ?_ ?_ ⟨rfl,⟨f,t⟩,y⟩ ?_
  ·rw[<-f];exact BQ _ (by rw[f];exact t) (by
     show(((AV.cD k).bK h1.length).aN h1.length&&(true&&(true&&(true&&true))))=true;rw[f];simp [AV.bK,AV.aN,cF];omega)
  ·rw[<-f];exact Cu _ (by rw[f];exact t)
  rintro⟨i,rest,z⟩ ⟨m,⟨c,u⟩,n⟩;simp only at m c u n ⊢
  repeat refine az ?_
  refine fq ?_;refine bX rfl ?_;refine AS (x:= .d (.v (.bool (decide ((i:Int)<(e.bk.length:Int)))))) rfl rfl ?_;refine bx ?_;refine az ?_;cases rest with
  |nil=>
   rw[bY m];refine Bo ?_;refine mA (iK (iK (nx rfl ?_)));refine bx ?_
   repeat refine az ?_
   refine fq ?_;refine bX rfl ?_;rw[<-ZW z];refine AS (x:= .d (.v (.bool true))) rfl rfl ?_;refine bx ?_;refine cT ?_;refine Dv c u ?_;rw[su,ai]at n;exact⟨rfl,true,rfl,n⟩
  |cons x rest=>
   rw[bZ m];refine BE ?_;refine dn ?_;refine bx ?_
   repeat refine az ?_
   refine ft ?_
   repeat refine az ?_
   refine fq ?_;refine bX rfl ?_;rw[<-ZW z];refine cP (Sj (q:=i) (e:=60) (k:=13) rfl rfl km (kg (bA m)) rfl) rfl rfl ?_;refine bX rfl ?_;refine AS (x:=aL x) rfl rfl ?_;refine bX rfl ?_;refine Bq (VT (l:=[]) km) rfl rfl Jj ?_;refine bX rfl ?_;refine Qe (Wm (i:=0) (off:=0) (k:=13) (l:=[_]) (v:=aL x) (cw:=(aL x).cells) km rfl km rfl km km) rfl Vm ?_;refine bx ?_
   repeat refine az ?_
   refine fq ?_;refine bX rfl ?_;refine cP (zH (i:=0) (off:=0) (l:=[.cells (aL x).cells]) (x:=aL x) km rfl km) rfl rfl ?_;refine bX rfl ?_;refine AS (x:= .cD k) rfl rfl ?_;refine bX rfl ?_;rw[Vu,ab]at n;have N:=ad2 _ _ n;have P:=H x (ZZ (bA m)) k z _ (by rw[c];exact u) (by rw[c];exact J) N;have Xn:=akO P [.cells (aL x).cells] (by rw[c];exact u) (by
    rw[c];show((aL x).aN h.length&&((AV.cD k).aN h.length&&true))=true;rw[show(aL x).aN h.length=true by kernel_rfl];simp [AV.aN,cF];omega) (λr w j=>by
    obtain⟨b,rfl,_,q1,o⟩:=j;exact⟨q1,o,rfl⟩)
   refine Fi (g:=82) (dz:=[]) rfl rfl rfl ?_;refine Xn.mono λr w j=> ?_;obtain⟨a,⟨b,rfl,A,q1,o⟩,rfl⟩:=j;refine bX rfl ?_;refine AS (x:= .d (.v (.bool (!b)))) rfl rfl ?_;refine bx ?_;cases b with
   |false=>
    refine BE ?_
    repeat refine az ?_
    refine fq ?_;refine bX rfl ?_;refine AS (x:= .d (.v (.bool false))) rfl rfl ?_;refine bx ?_;refine cT (eI (dd (dd (eI (dd ?_)))));refine Dv (h1:=a) (by rw[q1,c]) (by rw[c]at o;exact o) ?_;exact⟨rfl,false,rfl,A⟩
   |true=>
    refine Bo ?_;refine dn ?_;refine hY ?_;refine bx ?_;simp only[Tj]at A;refine fq ?_;refine bX rfl ?_;refine cP (x:= .d (.v (.int .i64 ((i+1:Nat):Int)))) (by
     show some ((.d (.v (.int .i64 (aY ((i:Int)+1)))):AV),HD.same)=_;have:=ck m rfl M;unfold Y at this;rw[this]) rfl rfl ?_
    refine bX rfl ?_;refine AS (x:= .d (.v (.int .i64 ((i+1:Nat):Int)))) rfl rfl ?_;refine bx ?_;have p:a.length=h.length:=by rw[q1,c]
    have B:a.all (ao.aN a.length)=true:=by rw[q1];exact o
    refine⟨?_,(i+1,rest,a),?_,⟨kG m,⟨p,by rw[<-p];exact B⟩,A⟩,ZC _⟩
    ·rw[<-p];exact BQ _ B (by
       show(((AV.cD k).bK a.length).aN a.length&&(true&&(true&&(true&&true))))=true;rw[p];simp [AV.bK,AV.aN,cF];omega)
    ·rw[<-p];exact Cu _ B
mutual
def ah9:(e:au)->LX e
 |⟨_,_,_,_,_,_,xs⟩=>amR _ (aaZ xs)
def aaZ:(l:U au)->∀x∈l,LX x
 |[],_,h=>absurd h Yt
 |x::l,y,h=>(Za.1 h).elim (λe=>e▸ah9 x) (aaZ l y)
end
def P9{P:eG}{fn:Func}{n:Nat}{t:U (Nat×AV)}{H h1:U ao}{K:AV->U ao->Prop}(b:h1.length=H.length)(c:h1.all (ao.aN H.length)=true)(d:oS P ⟨n,t,h1⟩ fn.results.toList λa=>((ly a).bK h1.length).aN h1.length=true/\K ((ly a).bK h1.length) h1):Oj P fn H.length K .normal ⟨n,t,h1⟩:=by
 have:=Xk (P:=P) (fn:=fn) (n:=n) (t:=t) (l:=[]) (K:=K) b c;rw[ZW]at this;exact this d
def aeP{P:eG}{fn:Func}{n:Nat}{t:U (Nat×AV)}{H h1:U ao}{K:AV->U ao->Prop}(b:h1.length=H.length)(c:h1.all (ao.aN H.length)=true)(d:oS P ⟨n,t,h1⟩ fn.results.toList λa=>((ly a).bK h1.length).aN h1.length=true/\K ((ly a).bK h1.length) h1):Oj P fn H.length K .ret ⟨n,t,h1⟩:=P9 b c d
def Ni(e:au):Dy prog 81 [.bm [dV e] 0 0] ((dx e).map aL):=by
 intro k h C a c f;refine we h.length func81 rfl km (Zx _) ?_;show bM prog none h.length _ _ ⟨6,[(0,.cD k),(1,.bm [dV e] 0 0)],h⟩;refine fq ?_;refine bX rfl ?_;refine AS (x:=aL e) rfl rfl ?_;refine bX rfl ?_;refine AS (x:= .cD k) rfl rfl ?_;refine bX rfl ?_;refine Fi (g:=82) (dz:=[]) rfl rfl rfl ?_;refine(ah9 e k h C a c f).mono λr m i=> ?_;obtain⟨b,rfl,j,q1,l⟩:=i;refine P9 (n:=6) (t:=[(5,.d (.v (.bool b))),(4,.cD k),(3,aL e),(0,.cD k),(1,.bm [dV e] 0 0)]) q1 l ?_;exact⟨rfl,b,j⟩
def uy(x:aT):U aK:=x.aU::x.bC
def nA(e:au):U aK:=e.aU::e.xIdx.flatMap uy
def asK(e:au):Dy prog 257 [.bm [dV e] 0 0] ((nA e).map cJ):=by
 intro k h C lO z AK;have S:=Je _ lO AK;refine we h.length func257 rfl km (Zx _) ?_;show bM prog none h.length _ _ ⟨37,[(0,.cD k),(1,.bm [dV e] 0 0)],h⟩
 repeat refine az ?_
 refine fq ?_;refine bX rfl ?_;refine AS (x:= .cD k) rfl rfl ?_;refine bX rfl ?_;refine AS (x:= .bm [dV e] 0 9) rfl rfl ?_;refine bX rfl ?_;refine AS (x:=cJ e.aU) rfl rfl ?_;refine bX rfl ?_;rw[nA,ZY]at S;refine Bi (k:=k) (x:=cJ e.aU) rfl rfl km km rfl rfl ?_;refine YS.mono S λb G f=> ?_;obtain⟨⟨g,A⟩,H⟩:=f;refine bX rfl ?_;refine AS (x:= .d (.v (.bool (!b)))) rfl rfl ?_;refine bx ?_;cases b with
 |false=>
  refine BE ?_;refine cT (dd ?_);exact aeP g A ⟨rfl,false,H.1⟩
 |true=>
  refine Bo ?_;refine dn ?_;refine bx ?_;simp only[Tj]at H
  repeat refine az ?_
  refine fq ?_;refine bX rfl ?_;refine AS (x:= .bm [dV e] 0 11) rfl rfl ?_;refine bX rfl ?_;refine AS (x:= .d (.sl (cg e.xIdx))) rfl rfl ?_;refine bX rfl ?_;refine AS (x:= .d (.v (.int .i64 (cg e.xIdx).length))) rfl rfl ?_;refine bX rfl ?_;refine AS (x:= .d (.v (.int .i64 0))) rfl rfl ?_;refine bx ?_;refine rY 13 (cg e.xIdx) km λcn=> ?_;have o7:e.xIdx.length<=maxLen:=by rw[<-gv];exact KK cn
  rw[gv];refine ft ?_;refine NY (ι:=Nat×U aT×U ao) [0,13,14,15] h.length (λi=>⟨37,[(0,.cD k),(13,.d (.sl (cg e.xIdx))),(14,.d (.v (.int .i64 e.xIdx.length))),(15,.d (.v (.int .i64 i.1)))],i.2.2⟩)
    (λi=>e.xIdx.drop i.1=i.2.1/\qv h i.2.2/\nf prog k ((i.2.1.flatMap uy).map cJ) (λb a=>C b a/\qv h a) i.2.2) (λi=>i.2.1.length) (0,e.xIdx,G) (Zx _) ?_ ?_ ⟨rfl,⟨g,A⟩,H⟩ ?_
  ·rw[<-g];exact L5 _ (by rw[g];exact A) (by
     show(((AV.cD k).bK G.length).aN G.length&&(true&&(true&&(true&&true))))=true;rw[g,CA z];rfl)
  ·rw[<-g];exact Km _ (by rw[g];exact A)
  rintro⟨i,rest,J⟩ ⟨n,⟨p,K⟩,r⟩;simp only at n p K r ⊢
  repeat refine az ?_
  refine fq ?_;refine bX rfl ?_;refine AS (x:= .d (.v (.bool (decide ((i:Int)<(e.xIdx.length:Int)))))) rfl rfl ?_;refine bx ?_
  repeat refine az ?_
  cases rest with
  |nil=>
   rw[bY n];refine Bo ?_;refine mA (iK (iK (nx rfl ?_)));rw[List.flatMap_nil,ai]at r;exact P9 p K ⟨rfl,true,r.1⟩
  |cons x rest=>
   rw[bZ n];refine BE ?_;refine dn ?_;refine bx ?_
   repeat refine az ?_
   refine ft ?_
   repeat refine az ?_
   refine fq ?_;refine bX rfl ?_;rw[<-ZW J];refine cP (Sj (q:=i) (e:=93) (k:=4) rfl rfl km (j5 (bA n)) rfl) rfl rfl ?_;refine bX rfl ?_;refine AS (x:=fK x) rfl rfl ?_;refine bX rfl ?_;refine Bq (VT (l:=[]) km) rfl rfl Jj ?_;refine bX rfl ?_;refine Qe (Wm (i:=0) (off:=0) (k:=4) (l:=[_]) (v:=fK x) (cw:=(fK x).cells) km rfl km rfl km km) rfl Vm ?_;refine bx ?_
   repeat refine az ?_
   refine fq ?_;refine bX rfl ?_;refine AS (x:= .cD k) rfl rfl ?_;refine bX rfl ?_;refine AS (x:= .ptr (J.length+0) 0) rfl rfl ?_;refine bX rfl ?_;refine cP (zH (i:=0) (off:=0) (l:=[.cells (fK x).cells]) (x:=cJ x.aU) km rfl km) rfl rfl ?_;refine bX rfl ?_;rw[List.flatMap_cons,uy,List.cons_append,ZY]at r;have hy:=N9 r [.cells (fK x).cells] (by rw[p];exact K) km (λb L f=>f.1);refine Bi (k:=k) (x:=cJ x.aU) rfl rfl km km rfl rfl ?_;refine hy.mono λb L f=> ?_;obtain⟨a,⟨⟨T,W⟩,M⟩,rfl⟩:=f;refine bX rfl ?_;refine AS (x:= .d (.v (.bool (!b)))) rfl rfl ?_;refine bx ?_;have q1:a.length=h.length:=by rw[T,p]
   have B:a.all (ao.aN h.length)=true:=by rw[p]at W;exact W
   cases b with
   |false=>
    refine BE ?_;refine cT ?_
    repeat (first|(with_reducible refine dd ?_)|(with_reducible refine eI ?_))
    exact Dv q1 B ⟨rfl,false,M.1⟩
   |true=>
    refine Bo ?_;refine dn ?_;refine bx ?_;simp only[Tj]at M
    repeat refine az ?_
    refine fq ?_;refine bX rfl ?_;refine AS (x:= .ptr (J.length+0) 3) rfl rfl ?_;refine bX rfl ?_;refine cP (zH (h:=a) (i:=0) (off:=3) (l:=[.cells (fK x).cells]) (x:= .d (.sl (dF x.bC))) (by rw[T];rfl) rfl km) rfl rfl ?_;refine bX rfl ?_;refine AS (x:= .d (.v (.int .i64 (dF x.bC).length))) rfl rfl ?_;refine bX rfl ?_;refine AS (x:= .d (.v (.int .i64 0))) rfl rfl ?_;refine bx ?_;refine rY 25 (dF x.bC) km λN=> ?_;have P:x.bC.length<=maxLen:=by rw[<-fJ];exact KK N
    rw[fJ];refine ft ?_;refine NY (ι:=Nat×U aK×U ao) [0,13,14,15,25,26,27] h.length (λj=>⟨37,[(0,.cD k),(13,.d (.sl (cg e.xIdx))),(14,.d (.v (.int .i64 e.xIdx.length))),(15,.d (.v (.int .i64 i))),(25,.d (.sl (dF x.bC))),(26,.d (.v (.int .i64 x.bC.length))),(27,.d (.v (.int .i64 j.1)))],j.2.2⟩)
      (λj=>x.bC.drop j.1=j.2.1/\qv h j.2.2/\nf prog k ((j.2.1++rest.flatMap uy).map cJ) (λb a=>C b a/\qv h a) j.2.2) (λj=>j.2.1.length) (0,x.bC,a) (Zx _) ?_ ?_ ⟨rfl,⟨q1,B⟩,M⟩ ?_
    ·rw[<-q1];exact BQ _ (by rw[q1];exact B) (by
       show(((AV.cD k).bK a.length).aN a.length&&(true&&(true&&(true&&(true&&(true&&(true&&true)))))))=true;rw[q1,CA z];rfl)
    ·rw[<-q1];exact Cu _ (by rw[q1];exact B)
    rintro⟨j,Q,E⟩ ⟨o,⟨c,t⟩,u⟩;simp only at o c t u ⊢
    repeat refine az ?_
    refine fq ?_;refine bX rfl ?_;refine AS (x:= .d (.v (.bool (decide ((j:Int)<(x.bC.length:Int)))))) rfl rfl ?_;refine bx ?_
    repeat refine az ?_
    cases Q with
    |nil=>
     rw[bY o];refine Bo ?_;refine mA (iK (iK (nx rfl ?_)));refine hY ?_;refine bx ?_;rw[W5]at u;refine fq ?_;refine bX rfl ?_;refine cP (x:= .d (.v (.int .i64 ((i+1:Nat):Int)))) (by
       show some ((.d (.v (.int .i64 (aY ((i:Int)+1)))):AV),HD.same)=_;have:=ck n rfl o7;unfold Y at this;rw[this]) rfl rfl ?_
     refine bX rfl ?_;refine AS (x:= .d (.v (.int .i64 ((i+1:Nat):Int)))) rfl rfl ?_;refine bx ?_;refine⟨?_,(i+1,rest,E),?_,⟨kG n,⟨c,t⟩,u⟩,ZC _⟩
     ·rw[<-c];exact L5 _ (by rw[c];exact t) (by
        show(((AV.cD k).bK E.length).aN E.length&&(true&&(true&&(true&&true))))=true;rw[c,CA z];rfl)
     ·rw[<-c];exact Km _ (by rw[c];exact t)
    |cons y Q=>
     rw[bZ o];refine BE ?_;refine dn ?_;refine bx ?_
     repeat refine az ?_
     refine ft ?_
     repeat refine az ?_
     refine fq ?_;refine bX rfl ?_;rw[<-ZW E];refine cP (Sj (q:=j) (e:=45) (k:=2) rfl rfl km (mQ (bA o)) rfl) rfl rfl ?_;refine bX rfl ?_;refine AS (x:=cJ y) rfl rfl ?_;refine bX rfl ?_;refine Bq (VT (l:=[]) km) rfl rfl Jj ?_;refine bX rfl ?_;refine Qe (Wm (i:=0) (off:=0) (k:=2) (l:=[_]) (v:=cJ y) (cw:=(cJ y).cells) km rfl km rfl km km) rfl Vm ?_;refine bx ?_
     repeat refine az ?_
     refine fq ?_;refine bX rfl ?_;refine AS (x:= .cD k) rfl rfl ?_;refine bX rfl ?_;refine cP (zH (i:=0) (off:=0) (l:=[.cells (cJ y).cells]) (x:=cJ y) km rfl km) rfl rfl ?_;refine bX rfl ?_;rw[List.cons_append,ZY]at u;have Sm:=N9 u [.cells (cJ y).cells] (by rw[c];exact t) km (λb L f=>f.1);refine Bi (k:=k) (x:=cJ y) rfl rfl km km rfl rfl ?_;refine Sm.mono λb L f=> ?_;obtain⟨w,⟨⟨r1,r3⟩,R⟩,rfl⟩:=f;refine bX rfl ?_;refine AS (x:= .d (.v (.bool (!b)))) rfl rfl ?_;refine bx ?_;have m:w.length=h.length:=by rw[r1,c]
     have F:w.all (ao.aN h.length)=true:=by rw[c]at r3;exact r3
     cases b with
     |false=>
      refine BE ?_;refine cT ?_
      repeat (first|(with_reducible refine dd ?_)|(with_reducible refine eI ?_))
      exact Dv m F ⟨rfl,false,R.1⟩
     |true=>
      refine Bo ?_;refine dn ?_;refine hY ?_;refine bx ?_;simp only[Tj]at R;refine fq ?_;refine bX rfl ?_;refine cP (x:= .d (.v (.int .i64 ((j+1:Nat):Int)))) (by
       show some ((.d (.v (.int .i64 (aY ((j:Int)+1)))):AV),HD.same)=_;have:=ck o rfl P;unfold Y at this;rw[this]) rfl rfl ?_
      refine bX rfl ?_;refine AS (x:= .d (.v (.int .i64 ((j+1:Nat):Int)))) rfl rfl ?_;refine bx ?_;refine⟨?_,(j+1,Q,w),?_,⟨kG o,⟨m,F⟩,R⟩,ZC _⟩
      ·rw[<-m];exact BQ _ (by rw[m];exact F) (by
         show(((AV.cD k).bK w.length).aN w.length&&(true&&(true&&(true&&(true&&(true&&(true&&true)))))))=true;rw[m,CA z];rfl)
      ·rw[<-m];exact Cu _ (by rw[m];exact F)
def ann(a:au):gq prog 40 [aL a] (·= .fn 81 [.bm [dV a] 0 0]):=by
 refine Qx (r:= .fn 81 [.ptr 0 0]) (h:=[.cells (aL a).cells]) ?_ km rfl;refine sJ 1 func40 rfl km (Zh rfl) ?_;refine j0 (s':=⟨4,[(0,aL a)],[]⟩) km ?_;refine az (CM [] [(1,.ptr 0 0)] [.cells (aL a).cells] ?_);refine az (CM [] [(2,.fn 81 [.ptr 0 0])] [.cells (aL a).cells] ?_);refine cT ?_;exact jQ km
def akn(a:au):gq prog 220 [aL a] (·= .fn 257 [.bm [dV a] 0 0]):=by
 refine Qx (r:= .fn 257 [.ptr 0 0]) (h:=[.cells (aL a).cells]) ?_ km rfl;refine sJ 1 func220 rfl km (Zh rfl) ?_;refine j0 (s':=⟨4,[(0,aL a)],[]⟩) km ?_;refine az (CM [] [(1,.ptr 0 0)] [.cells (aL a).cells] ?_);refine az (CM [] [(2,.fn 257 [.ptr 0 0])] [.cells (aL a).cells] ?_);refine cT ?_;exact jQ km
open Go.RowKit Go.Shelf
def aur:Ren where
 f:=fun
  |157=>214
  |229=>248
  |199=>249
  |261=>278
  |311=>286
  |312=>287
  |n=>n
 t:=fun
  |9=>9
  |31=>22
  |3=>3
  |5=>5
  |4=>4
  |119=>299
  |0=>0
  |40=>223
  |152=>318
  |21=>21
  |154=>320
  |51=>312
  |141=>322
  |196=>334
  |193=>331
  |198=>337
  |49=>335
  |194=>332
  |201=>340
  |226=>345
  |46=>267
  |227=>346
  |n=>n
 g:=fun
  |0=>0
  |6=>2
  |n=>n
def p7:U so:=[bs [115,105,122,101],bs [119,104,101,114,101],bs [105,110],bs [100,101,102],bs [111,117,116],bs [115,117,109],bs [112,114,111,100],bs [109,105,110],bs [109,97,120],bs [115,99,97,110],bs [111,118,101,114],bs [105,102],bs [99,97,115,116],bs [102,114,97,99],bs [105,110,116],bs [102,105,120],bs [99,101,105,108],bs [102,108,111,111,114],bs [122,101,114,111],bs [101,118,101,110],bs [115,97,116],bs [119,114,97,112]]
def akv:Lays.n157 prog aur:=by
 constructor<;>first|kernel_rfl|(intro w;rfl)
def Fb:so:=⟨#[115,105,122,101,32,119,104,101,114,101,32,105,110,32,100,101,102,32,111,117,116,32,115,117,109,32,112,114,111,100,32,109,105,110,32,109,97,120,32,115,99,97,110,32,111,118,101,114,32,105,102,32,99,97,115,116,32,102,114,97,99,32,105,110,116,32,102,105,120,32,99,101,105,108,32,102,108,111,111,114,32,122,101,114,111,32,101,118,101,110,32,115,97,116,32,119,114,97,112]⟩
def ar5(w:Zy)(a:∀c:Nat,c<256->w.cell? ⟨0,c,none⟩=some (.int .u8 (if Lib.isSp (UInt8.ofNat c)then 1 else 0))):
 Calls prog 214 #[.string Fb] w λe w'=>e= .returned (.slice (some ⟨w.heap.size,0,none⟩) 22 22)/\w'=w.alloc (.cells (p7.map Value.string).toArray 9):=by
 have d:(Fb.data.toList.all λb=>decide (b.toNat<128))=true:=by kernel_rfl
 have h:=Any.strings_Fields_core akv km Fb w (Tr km) (λj b f=>Tr (Zc.1 d b (ZZ f))) a;have g:(Lib.fields Fb.data.toList).length=22:=by kernel_rfl
 have i:((Lib.fields Fb.data.toList).map λl=>Value.string ⟨l.toArray⟩)=p7.map Value.string:=by kernel_rfl
 rw[g,i]at h;exact h
def asD(w:Zy)(a:∀c:Nat,c<256->w.cell? ⟨0,c,none⟩=some (.int .u8 (if Lib.isSp (UInt8.ofNat c)then 1 else 0))):
 Calls prog 174 #[] w λe w'=>e= .returned (.slice (some ⟨w.heap.size,0,none⟩) 22 22)/\w'=w.alloc (.cells (p7.map Value.string).toArray 9):=by
 go_enter func174,ntmps174
 go_wp2_with (go_at_call 214;refine(ar5 _ a).mono ?_;rintro e w' ⟨rfl,rfl⟩)
 go_ret
 exact⟨rfl,rfl⟩
def auW:∀c:Nat,c<256->(yU Gp)[c]?=some (.int .u8 (if Lib.isSp (UInt8.ofNat c)then 1 else 0)):=λc a=>by
 rw[show yU Gp=(List.range 256).map λc=>Value.int .u8 (if Lib.isSp (UInt8.ofNat c)then 1 else 0) by kernel_rfl,Zm,List.getElem?_range a];rfl
def ata:gq prog 174 [] (·= .d (.sl (bQ p7))):=by
 refine⟨by kernel_rfl,λG w l h m z=> ?_⟩;obtain rfl:l= #[]:=Array.size_eq_zero_iff.1 m;refine(asD w λc n=> ?_).mono λe A b=> ?_
 ·exact(h.gl.1 0 (yU Gp) Zt c _ (auW c n)).2
 ·obtain⟨rfl,rfl⟩:=b;obtain⟨p,q⟩:=YN h (.cells (p7.map Value.string).toArray 9) 22;have r:Rd (G.sx w.heap.size 22).S (w.alloc (.cells (p7.map Value.string).toArray 9)) 1 (bQ p7) (p7.map Value.string):=
   ⟨rfl,λx a=>(by obtain⟨y,_,rfl⟩:=UZ.1 a;rfl),λu f=>(by obtain⟨y,_,rfl⟩:=UZ.1 f;rfl),λi j x d a k=>by
    rw[pc,Zm]at a;cases g:p7[i]? with
    |none=>rw[g]at a;cases a
    |some y=>
     rw[g]at a;cases a;cases j with
     |zero=>cases k;exact⟨.string y,by rw[Nat.mul_one,Nat.add_zero,Zm,g];rfl,.v _⟩
     |succ j=>cases k⟩
  have b:=r.JD w.heap.size 22 gy gy (λo t=>.inr ⟨rfl,t⟩) (λo u f=>by
   rw[World.cell?_alloc_new,List.getElem?_toArray];exact f)
  exact⟨_,_,_,_,rfl,p,Zx _,q,.d b,rfl,rfl⟩
set_option maxRecDepth 1000000
end Go.Proofs.YtjploedinjiflaaGreatDoor
