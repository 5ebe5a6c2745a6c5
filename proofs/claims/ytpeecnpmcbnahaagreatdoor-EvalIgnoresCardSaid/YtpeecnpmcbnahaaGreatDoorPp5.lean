/-
  Part 5 of the proof: AbsDat, IterE, KwS, AbsKern.
-/
import Derived.Test.YtpeecnpmcbnahaaGreatDoorPp4
import Derived.Test.YtpeecnpmcbnahaaGreatDoorProg
import Derived.WalkKit
import Derived.Shelf.Strings.Fields
import Derived.KernelRfl
namespace Go.Proofs.YtpeecnpmcbnahaaGreatDoor
open Go.RowKit
set_option linter.unusedVariables false
def im(x:apg):apf D:=[.v (.string x)]
def dS(l:apf apg):apf (apf D):=l.map im
theorem nj(l:apf apg):dS l=l.map im:=rfl
theorem jX{l:apf apg}:(dS l).length=l.length:=by rw[nj,aow]
theorem tg{l:apf apg}{k:Nat}{x:apg}(h:l[k]?=some x):(dS l)[k]?=some (im x):=by rw[nj,aoy,h];rfl
theorem ai8{a b:apf apg}:dS a++dS b=dS (a++b):=by rw[nj,nj,nj,List.map_append]
theorem IF{l:apf apg}:∀c∈dS l,c.length=1:=by
 intro c hc;rw[nj]at hc;obtain⟨x,_,rfl⟩:=List.mem_map.1 hc;rfl
theorem alv{l:apf apg}{k n:Nat}:((dS l).take n).drop k=dS ((l.take n).drop k):=by rw[nj,nj,List.map_drop,List.map_take]
def eF(x:Int):apf D:=[.v (.int .i64 x)]
def bw(l:apf Int):apf (apf D):=l.map eF
theorem ny(l:apf Int):bw l=l.map eF:=rfl
theorem gi{l:apf Int}:(bw l).length=l.length:=by rw[ny,aow]
theorem jN{l:apf Int}{k:Nat}{x:Int}(h:l[k]?=some x):(bw l)[k]?=some (eF x):=by rw[ny,aoy,h];rfl
theorem ajE{a b:apf Int}:bw a++bw b=bw (a++b):=by rw[ny,ny,ny,List.map_append]
theorem F4{l:apf Int}:∀c∈bw l,c.length=1:=by
 intro c hc;rw[ny]at hc;obtain⟨x,_,rfl⟩:=List.mem_map.1 hc;rfl
structure dw where
 au:ByteArray
 dM:Int64
def Cg(x:dw):apf D:=[.v (.string x.au), .v (.int .i64 x.dM.toInt)]
def tt(x:dw):AV:= .agg [.d (.v (.string x.au)), .d (.v (.int .i64 x.dM.toInt))]
structure aM where
 bk:Int
 cf:Int
 bQ:Int
 cq:Int
 ct:Int
def JD(x:aM):apf D:=[.v (.int .i64 x.bk), .v (.int .i64 x.cf), .v (.int .i64 x.bQ), .v (.int .i64 x.cq), .v (.int .i64 x.ct)]
def cx(x:aM):AV:= .agg [.d (.v (.int .i64 x.bk)), .d (.v (.int .i64 x.cf)), .d (.v (.int .i64 x.bQ)), .d (.v (.int .i64 x.cq)), .d (.v (.int .i64 x.ct))]
structure aD where
 xN:Int64
 xD:Int64
def yH(x:aD):apf D:=[.v (.int .i64 x.xN.toInt), .v (.int .i64 x.xD.toInt)]
def bu(x:aD):AV:= .agg [.d (.v (.int .i64 x.xN.toInt)), .d (.v (.int .i64 x.xD.toInt))]
structure aI where
 au:ByteArray
 de:Int64
def FV(x:aI):apf D:=[.v (.string x.au), .v (.int .i64 x.de.toInt)]
def Ir(x:aI):AV:= .agg [.d (.v (.string x.au)), .d (.v (.int .i64 x.de.toInt))]
structure eX where
 yVal:aD
 fv:aM
def dC(x:eX):AV:= .agg [.d (.v (.int .i64 x.yVal.xN.toInt)), .d (.v (.int .i64 x.yVal.xD.toInt)), .d (.v (.int .i64 x.fv.bk)), .d (.v (.int .i64 x.fv.cf)), .d (.v (.int .i64 x.fv.bQ)), .d (.v (.int .i64 x.fv.cq)), .d (.v (.int .i64 x.fv.ct))]
structure jG where
 nK:Int
 ld:Int
 kg:Int
def B4(x:jG):AV:= .agg [.d (.v (.int .u64 x.nK)), .d (.v (.int .u64 x.ld)), .d (.v (.int .u64 x.kg))]
structure dz where
 fE:Int
 fQ:Int
 gC:Int
 gy:Int
 gJ:Int
 gw:Int
def gv(l:apf dw):apf (apf D):=l.map Cg
theorem wy(l:apf dw):gv l=l.map Cg:=rfl
theorem lZ{l:apf dw}:(gv l).length=l.length:=by rw[wy,aow]
theorem sF{l:apf dw}{k:Nat}{x:dw}(h:l[k]?=some x):(gv l)[k]?=some (Cg x):=by rw[wy,aoy,h];rfl
theorem adl{a b:apf dw}:gv a++gv b=gv (a++b):=by rw[wy,wy,wy,List.map_append]
theorem TO{l:apf dw}:∀c∈gv l,c.length=2:=by
 intro c hc;rw[wy]at hc;obtain⟨x,_,rfl⟩:=List.mem_map.1 hc;rfl
def aS(l:apf aI):apf (apf D):=l.map FV
theorem xW(l:apf aI):aS l=l.map FV:=rfl
theorem pL{l:apf aI}:(aS l).length=l.length:=by rw[xW,aow]
theorem qB{l:apf aI}{k:Nat}{x:aI}(h:l[k]?=some x):(aS l)[k]?=some (FV x):=by rw[xW,aoy,h];rfl
theorem ad7{a b:apf aI}:aS a++aS b=aS (a++b):=by rw[xW,xW,xW,List.map_append]
theorem ajl{l:apf aI}:∀c∈aS l,c.length=2:=by
 intro c hc;rw[xW]at hc;obtain⟨x,_,rfl⟩:=List.mem_map.1 hc;rfl
def dK(l:apf aD):apf (apf D):=l.map yH
theorem tn(l:apf aD):dK l=l.map yH:=rfl
theorem lH{l:apf aD}:(dK l).length=l.length:=by rw[tn,aow]
theorem qz{l:apf aD}{k:Nat}{x:aD}(h:l[k]?=some x):(dK l)[k]?=some (yH x):=by rw[tn,aoy,h];rfl
theorem aeI{a b:apf aD}:dK a++dK b=dK (a++b):=by rw[tn,tn,tn,List.map_append]
theorem O4{l:apf aD}:∀c∈dK l,c.length=2:=by
 intro c hc;rw[tn]at hc;obtain⟨x,_,rfl⟩:=List.mem_map.1 hc;rfl
theorem aec{l:apf aD}{k:Nat}:(dK l).drop k=dK (l.drop k):=by rw[tn,tn,List.map_drop]
def oe(l:apf aM):apf (apf D):=l.map JD
theorem zL(l:apf aM):oe l=l.map JD:=rfl
theorem ajB{l:apf aM}:(oe l).length=l.length:=by rw[zL,aow]
theorem rP{l:apf aM}{k:Nat}{x:aM}(h:l[k]?=some x):(oe l)[k]?=some (JD x):=by rw[zL,aoy,h];rfl
theorem acT{a b:apf aM}:oe a++oe b=oe (a++b):=by rw[zL,zL,zL,List.map_append]
theorem adf{l:apf aM}:∀c∈oe l,c.length=5:=by
 intro c hc;rw[zL]at hc;obtain⟨x,_,rfl⟩:=List.mem_map.1 hc;rfl
structure bp where
 xK:Int64
 xL:List dw
def Fa(x:bp):apf D:=[.v (.int .i64 x.xK.toInt), .sl (gv x.xL)]
def dL(x:bp):AV:= .agg [.d (.v (.int .i64 x.xK.toInt)), .d (.sl (gv x.xL))]
structure gF where
 bx:bp
 FF:Bool
def CL(x:gF):apf D:=[.v (.int .i64 x.bx.xK.toInt), .sl (gv x.bx.xL), .v (.bool x.FF)]
def vX(x:gF):AV:= .agg [.d (.v (.int .i64 x.bx.xK.toInt)), .d (.sl (gv x.bx.xL)), .d (.v (.bool x.FF))]
structure dg where
 au:ByteArray
 dR:bp
def Cy(x:dg):apf D:=[.v (.string x.au), .v (.int .i64 x.dR.xK.toInt), .sl (gv x.dR.xL)]
def PV(x:dg):AV:= .agg [.d (.v (.string x.au)), .d (.v (.int .i64 x.dR.xK.toInt)), .d (.sl (gv x.dR.xL))]
structure aT where
 aB:aM
 aU:List Int
 eI:List aD
def bW(x:aT):apf D:=[.v (.int .i64 x.aB.bk), .v (.int .i64 x.aB.cf), .v (.int .i64 x.aB.bQ), .v (.int .i64 x.aB.cq), .v (.int .i64 x.aB.ct), .sl (bw x.aU), .sl (dK x.eI)]
def iz(x:aT):AV:= .agg [.d (.v (.int .i64 x.aB.bk)), .d (.v (.int .i64 x.aB.cf)), .d (.v (.int .i64 x.aB.bQ)), .d (.v (.int .i64 x.aB.cq)), .d (.v (.int .i64 x.aB.ct)), .d (.sl (bw x.aU)), .d (.sl (dK x.eI))]
structure aG where
 au:ByteArray
 fb:aT
def Fl(x:aG):apf D:=[.v (.string x.au), .v (.int .i64 x.fb.aB.bk), .v (.int .i64 x.fb.aB.cf), .v (.int .i64 x.fb.aB.bQ), .v (.int .i64 x.fb.aB.cq), .v (.int .i64 x.fb.aB.ct), .sl (bw x.fb.aU), .sl (dK x.fb.eI)]
def OG(x:aG):AV:= .agg [.d (.v (.string x.au)), .d (.v (.int .i64 x.fb.aB.bk)), .d (.v (.int .i64 x.fb.aB.cf)), .d (.v (.int .i64 x.fb.aB.bQ)), .d (.v (.int .i64 x.fb.aB.cq)), .d (.v (.int .i64 x.fb.aB.ct)), .d (.sl (bw x.fb.aU)), .d (.sl (dK x.fb.eI))]
def m7(l:apf gF):apf (apf D):=l.map CL
theorem vM(l:apf gF):m7 l=l.map CL:=rfl
theorem x7{l:apf gF}:(m7 l).length=l.length:=by rw[vM,aow]
theorem NL{l:apf gF}{k:Nat}{x:gF}(h:l[k]?=some x):(m7 l)[k]?=some (CL x):=by rw[vM,aoy,h];rfl
theorem aeF{a b:apf gF}:m7 a++m7 b=m7 (a++b):=by rw[vM,vM,vM,List.map_append]
theorem aeh{l:apf gF}:∀c∈m7 l,c.length=3:=by
 intro c hc;rw[vM]at hc;obtain⟨x,_,rfl⟩:=List.mem_map.1 hc;rfl
def fV(l:apf bp):apf (apf D):=l.map Fa
theorem x8(l:apf bp):fV l=l.map Fa:=rfl
theorem jw{l:apf bp}:(fV l).length=l.length:=by rw[x8,aow]
theorem uR{l:apf bp}{k:Nat}{x:bp}(h:l[k]?=some x):(fV l)[k]?=some (Fa x):=by rw[x8,aoy,h];rfl
theorem ahI{a b:apf bp}:fV a++fV b=fV (a++b):=by rw[x8,x8,x8,List.map_append]
theorem al8{l:apf bp}:∀c∈fV l,c.length=2:=by
 intro c hc;rw[x8]at hc;obtain⟨x,_,rfl⟩:=List.mem_map.1 hc;rfl
def hJ(l:apf dg):apf (apf D):=l.map Cy
theorem vP(l:apf dg):hJ l=l.map Cy:=rfl
theorem kf{l:apf dg}:(hJ l).length=l.length:=by rw[vP,aow]
theorem vV{l:apf dg}{k:Nat}{x:dg}(h:l[k]?=some x):(hJ l)[k]?=some (Cy x):=by rw[vP,aoy,h];rfl
theorem ad5{a b:apf dg}:hJ a++hJ b=hJ (a++b):=by rw[vP,vP,vP,List.map_append]
theorem akt{l:apf dg}:∀c∈hJ l,c.length=3:=by
 intro c hc;rw[vP]at hc;obtain⟨x,_,rfl⟩:=List.mem_map.1 hc;rfl
def aX(l:apf aG):apf (apf D):=l.map Fl
theorem sc(l:apf aG):aX l=l.map Fl:=rfl
theorem gW{l:apf aG}:(aX l).length=l.length:=by rw[sc,aow]
theorem mO{l:apf aG}{k:Nat}{x:aG}(h:l[k]?=some x):(aX l)[k]?=some (Fl x):=by rw[sc,aoy,h];rfl
theorem aaB{a b:apf aG}:aX a++aX b=aX (a++b):=by rw[sc,sc,sc,List.map_append]
theorem J9{l:apf aG}:∀c∈aX l,c.length=8:=by
 intro c hc;rw[sc]at hc;obtain⟨x,_,rfl⟩:=List.mem_map.1 hc;rfl
theorem afV{l:apf aG}{k:Nat}:(aX l).drop k=aX (l.drop k):=by rw[sc,sc,List.map_drop]
def MT(x:apf dg):apf D:=[.sl (hJ x)]
def oI(l:apf (apf dg)):apf (apf D):=l.map MT
theorem zt(l:apf (apf dg)):oI l=l.map MT:=rfl
theorem P7{l:apf (apf dg)}:(oI l).length=l.length:=by rw[zt,aow]
theorem S0{l:apf (apf dg)}{k:Nat}{x:(apf dg)}(h:l[k]?=some x):(oI l)[k]?=some (MT x):=by rw[zt,aoy,h];rfl
theorem ahF{a b:apf (apf dg)}:oI a++oI b=oI (a++b):=by rw[zt,zt,zt,List.map_append]
theorem aiv{l:apf (apf dg)}:∀c∈oI l,c.length=1:=by
 intro c hc;rw[zt]at hc;obtain⟨x,_,rfl⟩:=List.mem_map.1 hc;rfl
structure dX where
 au:ByteArray
 aB:aM
 aU:List bp
def Dl(x:dX):apf D:=[.v (.string x.au), .v (.int .i64 x.aB.bk), .v (.int .i64 x.aB.cf), .v (.int .i64 x.aB.bQ), .v (.int .i64 x.aB.cq), .v (.int .i64 x.aB.ct), .sl (fV x.aU)]
def pA(x:dX):AV:= .agg [.d (.v (.string x.au)), .d (.v (.int .i64 x.aB.bk)), .d (.v (.int .i64 x.aB.cf)), .d (.v (.int .i64 x.aB.bQ)), .d (.v (.int .i64 x.aB.cq)), .d (.v (.int .i64 x.aB.ct)), .d (.sl (fV x.aU))]
structure cJ where
 bx:bp
 cP:ByteArray
 cN:List bp
def DC(x:cJ):apf D:=[.v (.int .i64 x.bx.xK.toInt), .sl (gv x.bx.xL), .v (.string x.cP), .sl (fV x.cN)]
def hX(x:cJ):AV:= .agg [.d (.v (.int .i64 x.bx.xK.toInt)), .d (.sl (gv x.bx.xL)), .d (.v (.string x.cP)), .d (.sl (fV x.cN))]
def ko(l:apf dX):apf (apf D):=l.map Dl
theorem wE(l:apf dX):ko l=l.map Dl:=rfl
theorem pn{l:apf dX}:(ko l).length=l.length:=by rw[wE,aow]
theorem BC{l:apf dX}{k:Nat}{x:dX}(h:l[k]?=some x):(ko l)[k]?=some (Dl x):=by rw[wE,aoy,h];rfl
theorem amh{a b:apf dX}:ko a++ko b=ko (a++b):=by rw[wE,wE,wE,List.map_append]
theorem aey{l:apf dX}:∀c∈ko l,c.length=7:=by
 intro c hc;rw[wE]at hc;obtain⟨x,_,rfl⟩:=List.mem_map.1 hc;rfl
def eQ(l:apf cJ):apf (apf D):=l.map DC
theorem xd(l:apf cJ):eQ l=l.map DC:=rfl
theorem kQ{l:apf cJ}:(eQ l).length=l.length:=by rw[xd,aow]
theorem nu{l:apf cJ}{k:Nat}{x:cJ}(h:l[k]?=some x):(eQ l)[k]?=some (DC x):=by rw[xd,aoy,h];rfl
theorem ake{a b:apf cJ}:eQ a++eQ b=eQ (a++b):=by rw[xd,xd,xd,List.map_append]
theorem agS{l:apf cJ}:∀c∈eQ l,c.length=4:=by
 intro c hc;rw[xd]at hc;obtain⟨x,_,rfl⟩:=List.mem_map.1 hc;rfl
structure aw where
 az:Int
 au:ByteArray
 de:aD
 aB:aM
 bx:bp
 xIdx:List cJ
 bZ:List aw
mutual
def QE:aw->apf D
 |⟨az,au,de,aB,bx,xIdx,bZ⟩=>[.v (.int .i64 az), .v (.string au), .v (.int .i64 de.xN.toInt), .v (.int .i64 de.xD.toInt), .v (.int .i64 aB.bk), .v (.int .i64 aB.cf), .v (.int .i64 aB.bQ), .v (.int .i64 aB.cq), .v (.int .i64 aB.ct), .v (.int .i64 bx.xK.toInt), .sl (gv bx.xL), .sl (eQ xIdx), .sl (iQ bZ)]
def iQ:apf aw->apf (apf D)
 |[]=>[]
 |x::l=>QE x::iQ l
end
def eJ(x:aw):apf D:=[.v (.int .i64 x.az), .v (.string x.au), .v (.int .i64 x.de.xN.toInt), .v (.int .i64 x.de.xD.toInt), .v (.int .i64 x.aB.bk), .v (.int .i64 x.aB.cf), .v (.int .i64 x.aB.bQ), .v (.int .i64 x.aB.cq), .v (.int .i64 x.aB.ct), .v (.int .i64 x.bx.xK.toInt), .sl (gv x.bx.xL), .sl (eQ x.xIdx), .sl (iQ x.bZ)]
theorem ak4(x:aw):QE x=eJ x:=by cases x;simp only[QE];rfl
theorem pI:∀l:apf aw,iQ l=l.map eJ
 |[]=>by simp [iQ]
 |x::l=>by simp [iQ,ak4,pI l]
theorem qi{l:apf aw}:(iQ l).length=l.length:=by rw[pI,aow]
theorem mY{l:apf aw}{k:Nat}{x:aw}(h:l[k]?=some x):(iQ l)[k]?=some (eJ x):=by rw[pI,aoy,h];rfl
theorem aem{a b:apf aw}:iQ a++iQ b=iQ (a++b):=by rw[pI,pI,pI,List.map_append]
theorem af1{l:apf aw}:∀c∈iQ l,c.length=13:=by
 intro c hc;rw[pI]at hc;obtain⟨x,_,rfl⟩:=List.mem_map.1 hc;rfl
def aP(x:aw):AV:= .agg [.d (.v (.int .i64 x.az)), .d (.v (.string x.au)), .d (.v (.int .i64 x.de.xN.toInt)), .d (.v (.int .i64 x.de.xD.toInt)), .d (.v (.int .i64 x.aB.bk)), .d (.v (.int .i64 x.aB.cf)), .d (.v (.int .i64 x.aB.bQ)), .d (.v (.int .i64 x.aB.cq)), .d (.v (.int .i64 x.aB.ct)), .d (.v (.int .i64 x.bx.xK.toInt)), .d (.sl (gv x.bx.xL)), .d (.sl (eQ x.xIdx)), .d (.sl (iQ x.bZ))]
structure bD where
 au:ByteArray
 aB:aM
 aU:List dg
 bY:List dg
 dm:Int
 bV:aw
def Gn(x:bD):apf D:=[.v (.string x.au), .v (.int .i64 x.aB.bk), .v (.int .i64 x.aB.cf), .v (.int .i64 x.aB.bQ), .v (.int .i64 x.aB.cq), .v (.int .i64 x.aB.ct), .sl (hJ x.aU), .sl (hJ x.bY), .v (.int .i64 x.dm), .v (.int .i64 x.bV.az), .v (.string x.bV.au), .v (.int .i64 x.bV.de.xN.toInt), .v (.int .i64 x.bV.de.xD.toInt), .v (.int .i64 x.bV.aB.bk), .v (.int .i64 x.bV.aB.cf), .v (.int .i64 x.bV.aB.bQ), .v (.int .i64 x.bV.aB.cq), .v (.int .i64 x.bV.aB.ct), .v (.int .i64 x.bV.bx.xK.toInt), .sl (gv x.bV.bx.xL), .sl (eQ x.bV.xIdx), .sl (iQ x.bV.bZ)]
def fF(x:bD):AV:= .agg [.d (.v (.string x.au)), .d (.v (.int .i64 x.aB.bk)), .d (.v (.int .i64 x.aB.cf)), .d (.v (.int .i64 x.aB.bQ)), .d (.v (.int .i64 x.aB.cq)), .d (.v (.int .i64 x.aB.ct)), .d (.sl (hJ x.aU)), .d (.sl (hJ x.bY)), .d (.v (.int .i64 x.dm)), .d (.v (.int .i64 x.bV.az)), .d (.v (.string x.bV.au)), .d (.v (.int .i64 x.bV.de.xN.toInt)), .d (.v (.int .i64 x.bV.de.xD.toInt)), .d (.v (.int .i64 x.bV.aB.bk)), .d (.v (.int .i64 x.bV.aB.cf)), .d (.v (.int .i64 x.bV.aB.bQ)), .d (.v (.int .i64 x.bV.aB.cq)), .d (.v (.int .i64 x.bV.aB.ct)), .d (.v (.int .i64 x.bV.bx.xK.toInt)), .d (.sl (gv x.bV.bx.xL)), .d (.sl (eQ x.bV.xIdx)), .d (.sl (iQ x.bV.bZ))]
def iH(l:apf bD):apf (apf D):=l.map Gn
theorem tq(l:apf bD):iH l=l.map Gn:=rfl
theorem nw{l:apf bD}:(iH l).length=l.length:=by rw[tq,aow]
theorem sQ{l:apf bD}{k:Nat}{x:bD}(h:l[k]?=some x):(iH l)[k]?=some (Gn x):=by rw[tq,aoy,h];rfl
theorem anI{a b:apf bD}:iH a++iH b=iH (a++b):=by rw[tq,tq,tq,List.map_append]
theorem VR{l:apf bD}:∀c∈iH l,c.length=22:=by
 intro c hc;rw[tq]at hc;obtain⟨x,_,rfl⟩:=List.mem_map.1 hc;rfl
theorem aiV{l:apf bD}{k n:Nat}:((iH l).take n).drop k=iH ((l.take n).drop k):=by rw[tq,tq,List.map_drop,List.map_take]
structure aV where
 bm:List ByteArray
 dF:List gF
 aY:List dX
 aO:List bD
 di:List ByteArray
def ajc(x:aV):apf D:=[.sl (dS x.bm), .sl (m7 x.dF), .sl (ko x.aY), .sl (iH x.aO), .sl (dS x.di)]
def dU(x:aV):AV:= .agg [.d (.sl (dS x.bm)), .d (.sl (m7 x.dF)), .d (.sl (ko x.aY)), .d (.sl (iH x.aO)), .d (.sl (dS x.di))]
def dq(s:apg):AV:= .d (.v (.string s))
def ar(n:Int):AV:= .d (.v (.int .i64 n))
def bC(n:Int64):AV:= .d (.v (.int .i64 n.toInt))
def aL(b:Bool):AV:= .d (.v (.bool b))
abbrev aQ(n:Int):Int:=IntKind.i64.wrap n
theorem AQ(a:Int):IntKind.i64.wrap a=a.bmod (2^64):=by
 rw[IntKind.wrap_i64,Int.bmod_def];omega
theorem ky(a:Int):ar (aQ a)=bC (Int64.ofInt a):=by
 unfold ar bC aQ;rw[AQ,Int64.toInt_ofInt]
theorem C3(a b:Int64):ar (aQ (a.toInt+b.toInt))=bC (a+b):=by
 unfold ar bC aQ;rw[AQ,Int64.toInt_add]
theorem xE(a b:Int64):ar (aQ (a.toInt-b.toInt))=bC (a-b):=by
 unfold ar bC aQ;rw[AQ,Int64.toInt_sub]
theorem lu(a b:Int64):ar (aQ (a.toInt*b.toInt))=bC (a*b):=by
 unfold ar bC aQ;rw[AQ,Int64.toInt_mul]
theorem GZ(a:Int64):ar (aQ (0-a.toInt))=bC (-a):=by
 unfold ar bC aQ;rw[AQ,Int64.toInt_neg,Int.zero_sub]
theorem Jy{a:Int}(h:aQ a=a):ar a=bC (Int64.ofInt a):=by
 rw[<-ky,h]
theorem aiE(a:Int)(m:Nat)(J: -9223372036854775808<=a)(h2:a<9223372036854775808): -9223372036854775808<=a.fdiv (2^m)/\a.fdiv (2^m)<9223372036854775808:=by
 have hp:(0:Int)<2^m:=Int.pow_pos (by decide);rw[Int.fdiv_eq_ediv_of_nonneg _ (Int.le_of_lt hp)];generalize (2:Int)^m=p at*;by_cases h:0<=a
 ·have h3:=Int.ediv_nonneg h (Int.le_of_lt hp);have h4:=Int.ediv_le_self p h;omega
 ·have h3:a / p<0:=Int.ediv_neg_of_neg_of_pos (by omega) hp;have h4:a<=a / p:=by
   refine(Int.le_ediv_iff_mul_le hp).2 ?_;have:=Int.mul_le_mul_of_nonpos_left (a:=a) (b:=p) (c:=1) (by omega) (by omega);omega
  omega
theorem WH(a:Int64)(m:Nat):ar (a.toInt.fdiv (2^m))=bC (Int64.ofInt (a.toInt.fdiv (2^m))):=by
 refine Jy ?_;have h:=aiE a.toInt m (by have:=a.le_toInt;simpa using this) (by have:=a.toInt_lt;simpa using this);unfold aQ;rw[IntKind.wrap_i64];omega
theorem Ys(a:Int64)(b:Int):ar (a.toInt.tmod b)=bC (Int64.ofInt (a.toInt.tmod b)):=by
 refine Jy ?_;unfold aQ;rw[IntKind.wrap_i64];have J:=a.le_toInt;have h2:=a.toInt_lt;have h3:=Int.natAbs_tmod a.toInt b;have h4:(a.toInt.tmod b).natAbs<=a.toInt.natAbs:=by rw[h3];exact Nat.mod_le _ _
 have h7: -9223372036854775808<=a.toInt/\a.toInt<=9223372036854775807:=by omega
 clear J h2 h3;by_cases h5:0<=a.toInt
 ·have:=Int.tmod_nonneg b h5;generalize a.toInt.tmod b=x at*;omega
 ·have h6:=Int.tmod_nonneg b (show 0<=-a.toInt by omega);rw[Int.neg_tmod]at h6;generalize a.toInt.tmod b=x at*;omega
theorem cF{α:Type}{l:apf α}{k:Nat}{x:α}{xs:apf α}{n:Nat}(hd:l.drop k=x::xs)(hn:l.length=n)(hl:n<=maxLen):ar (aQ ((k:Int)+1))=ar ((k+1:Nat):Int):=by
 have:(l.drop k).length=(x::xs).length:=by rw[hd]
 rw[List.length_drop,aou]at this;have J:k<maxLen:=by omega
 unfold maxLen at J;have e:IntKind.i64.wrap ((k:Int)+1)=((k+1:Nat):Int):=by rw[IntKind.wrap_i64];omega
 unfold ar aQ;rw[e]
theorem bI{α:Type}{l:apf α}{k:Nat}{x:α}{xs:apf α}(hd:l.drop k=x::xs):l[k]?=some x:=by
 have:(l.drop k)[0]?=some x:=by rw[hd];rfl
 rwa [List.getElem?_drop]at this
theorem ma{α:Type}{l:apf α}{k:Nat}{x:α}{xs:apf α}(hd:l.drop k=x::xs):l.drop (k+1)=xs:=by
 rw[<-List.drop_drop,hd];rfl
theorem cz{α:Type}{l:apf α}{k:Nat}{x:α}{xs:apf α}(hd:l.drop k=x::xs):decide ((k:Int)<(l.length:Int))=true:=by
 have:(l.drop k).length=(x::xs).length:=by rw[hd]
 rw[List.length_drop,aou]at this;exact ao8 (by omega)
theorem cy{α:Type}{l:apf α}{k:Nat}(hd:l.drop k=[]):decide ((k:Int)<(l.length:Int))=false:=by
 have:=List.drop_eq_nil_iff.1 hd;exact ao9 (by omega)
theorem lW{n cW:Nat}(h:Nat.ble (n*cW) 140737488355328=true)(hb:1<=cW):n<=maxLen/\n*cW<=140737488355328:=by
 have h:=aoz h;refine⟨?_,h⟩;unfold maxLen;have:=Nat.le_mul_of_pos_right n hb;omega
theorem ck:Tryz.prog.follows .mixedOrders=true:=by kernel_rfl
set_option maxRecDepth 100000
set_option maxHeartbeats 0
def vZ(a b:Int64):Int64:=if b.toInt>a.toInt then b else a
def DT(a b:Int64):Int64:=if b.toInt<a.toInt then b else a
theorem Zs(a b:Int64):(if b.toInt>a.toInt then b.toInt else a.toInt)=(vZ a b).toInt:=by unfold vZ;split<;>rfl
theorem aj3(a b:Int64):(if b.toInt<a.toInt then b.toInt else a.toInt)=(DT a b).toInt:=by unfold DT;split<;>rfl
theorem ahO(a b:Int64):AV.d (.v (.int .i64 (if b.toInt>a.toInt then b.toInt else a.toInt)))=bC (vZ a b):=by rw[Zs];rfl
theorem acL(a b:Int64):AV.d (.v (.int .i64 (if b.toInt<a.toInt then b.toInt else a.toInt)))=bC (DT a b):=by rw[aj3];rfl
mutual
def Pf:aw->apf aw
 |⟨o,n,v,t,l,i,xs⟩=>⟨o,n,v,t,l,i,xs⟩::mK xs
def mK:apf aw->apf aw
 |[]=>[]
 |x::l=>Pf x++mK l
end
def dE(e:aw):apf aw:=e::mK e.bZ
theorem aeV(e:aw):Pf e=dE e:=by cases e;simp only[Pf];rfl
theorem Dt(x:aw)(l:apf aw):mK (x::l)=dE x++mK l:=by rw[mK,aeV]
theorem FY{P:api}{k:Nat}:∀(l:apf AV){C:Bool->apf aq->Prop}{h:apf aq},h.all (aq.aE h.length)=true->lX P k l C h->lX P k l (λb J=>C b J/\ov h J) h
 |[],_,_,hl,hs=>⟨hs,rfl,hl⟩
 |x::l,C,h,hl,hs=>YS.mono hs λb J ⟨h2,h3⟩=>⟨h2,by
  cases b with
  |true=>exact Vf l (λb h4 ⟨h5,h6,h7⟩=>⟨h5,by rw[h6,h2.1],by rw[h2.1]at h7;exact h7⟩) (FY l (by rw[h2.1];exact h2.2) h3)
  |false=>exact⟨h3,h2⟩⟩
def G7(e:aw):Prop:=∀(k:Nat)(h:apf aq)(C:Bool->apf aq->Prop),h.all (aq.aE h.length)=true->k<h.length->lX Tryz.prog k ((dE e).map aP) C h->cO Tryz.prog 102 [aP e, .cn k] h λr J=>∃b,r= .d (.v (.bool b))/\C b J/\ov h J
theorem Q7{P:api}{fn:Func}{n:Nat}{t:apf (Nat×AV)}{H J l:apf aq}{K:AV->apf aq->Prop}(k1:J.length=H.length)(k2:J.all (aq.aE H.length)=true)(hr:mV P ⟨n,t,J++l⟩ fn.results.toList λrs=>((jY rs).bo J.length).aE J.length=true/\K ((jY rs).bo J.length) J):rC P fn H.length K ⟨n,t,J++l⟩:=by
 rw[<-k1]at k2 ⊢;exact amJ k2 hr
theorem Bm{P:api}{fn:Func}{n:Nat}{t:apf (Nat×AV)}{H J l:apf aq}{K:AV->apf aq->Prop}(k1:J.length=H.length)(k2:J.all (aq.aE H.length)=true)(hr:mV P ⟨n,t,J++l⟩ fn.results.toList λrs=>((jY rs).bo J.length).aE J.length=true/\K ((jY rs).bo J.length) J):LI P fn H.length K .ret ⟨n,t,J++l⟩:=Q7 k1 k2 hr
theorem anN(e:aw)(sG:∀x∈e.bZ,G7 x):G7 e:=by
 intro k h C kA hk hs;refine uA h.length Tryz.func102 rfl (by kernel_rfl) (aoC _) ?_
 suffices hA:bA Tryz.prog none h.length _ _ ⟨23,[(0,aP e),(1, .cn k)],h++[]⟩ by rw[aoM]at hA;exact hA
 repeat refine aA ?_
 refine e7 ?_;refine bJ rfl ?_;refine yG (Tm (l:=[]) (v:=aP e) rfl (by kernel_rfl)) rfl rfl Ck ?_;refine bJ rfl ?_;refine cD (x:= .d (.v (.bool false))) (by kernel_rfl) rfl rfl ?_;refine bE ?_
 repeat refine aA ?_
 refine e7 ?_;refine bJ rfl ?_;refine cD (x:= .cn k) (by kernel_rfl) rfl rfl ?_;refine bJ rfl ?_;refine cD (xy (i:=0) (off:=0) (l:=[]++[.cells (aP e).cells]) (x:=aP e) (by kernel_rfl) rfl (by kernel_rfl)) rfl rfl ?_;refine bJ rfl ?_;rw[dE,aoQ]at hs;have hy:=HR (FY (aP e::_) kA hs) [.cells (aP e).cells] kA (by kernel_rfl) (λb h' hh=>hh.1);refine zk (k:=k) (x:=aP e) rfl rfl (by kernel_rfl) (by kernel_rfl) rfl rfl ?_;refine hy.mono λb h' hh=> ?_;obtain⟨J,⟨⟨k1,k2⟩,k3⟩,rfl⟩:=hh;refine bJ rfl ?_;refine cD (x:= .d (.v (.bool (!b)))) (by kernel_rfl) rfl rfl ?_;refine bE ?_;cases b with
 |false=>
  refine lC (by kernel_rfl) ?_
  repeat refine aA ?_
  refine e7 ?_;refine bJ rfl ?_;refine cD (x:= .d (.v (.bool false))) (by kernel_rfl) rfl rfl ?_;refine bE ?_;refine cY (c9 ?_);refine Bm k1 k2 ?_;exact⟨rfl,false,rfl,k3⟩
 |true=>
  refine lP (by kernel_rfl) ?_;refine dy ?_;refine bE ?_;simp only[cond_true]at k3
  repeat refine aA ?_
  refine e7 ?_;refine bJ rfl ?_;refine cD (x:= .ptr (h.length+0) 12) (by kernel_rfl) rfl rfl ?_;refine bJ rfl ?_;refine cD (xy (h:=J) (i:=0) (off:=12) (l:=[.cells (aP e).cells]) (x:= .d (.sl (iQ e.bZ))) (by rw[k1];rfl) rfl (by kernel_rfl)) rfl rfl ?_;refine bJ rfl ?_;refine cD (x:= .d (.v (.int .i64 (iQ e.bZ).length))) (by kernel_rfl) rfl rfl ?_;refine bJ rfl ?_;refine cD (x:= .d (.v (.int .i64 0))) (by kernel_rfl) rfl rfl ?_;refine bE ?_;refine vH 12 (iQ e.bZ) (by kernel_rfl) λbS=> ?_;have pG:e.bZ.length<=maxLen:=by rw[<-qi];exact Mj bS
  rw[qi]
  repeat refine aA ?_
  refine gp ?_;refine Ij (ι:=Nat×apf aw×apf aq) [1,12,13,14] h.length (λi=>⟨23,[(1, .cn k),(12, .d (.sl (iQ e.bZ))),(13, .d (.v (.int .i64 e.bZ.length))),(14, .d (.v (.int .i64 i.1)))],i.2.2⟩)
   (λi=>e.bZ.drop i.1=i.2.1/\ov h i.2.2/\lX Tryz.prog k ((mK i.2.1).map aP) (λb h2=>C b h2/\ov h h2) i.2.2) (λi=>i.2.1.length) (0,e.bZ,J) (aoC _) ?_ ?_ ⟨rfl,⟨k1,k2⟩,k3⟩ ?_
  ·rw[<-k1];exact zJ _ (by rw[k1];exact k2) (by
     show(((AV.cn k).bo J.length).aE J.length&&(true&&(true&&(true&&true))))=true;rw[k1];simp [AV.bo,AV.aE,cm];omega)
  ·rw[<-k1];exact AG _ (by rw[k1];exact k2)
  rintro⟨i,rest,hc⟩ ⟨hd,⟨c1,c2⟩,iZ⟩;simp only at hd c1 c2 iZ ⊢
  repeat refine aA ?_
  refine e7 ?_;refine bJ rfl ?_;refine cD (x:= .d (.v (.bool (decide ((i:Int)<(e.bZ.length:Int)))))) (by kernel_rfl) rfl rfl ?_;refine bE ?_;refine aA ?_;cases rest with
  |nil=>
   rw[cy hd];refine lP (by kernel_rfl) ?_;refine o7 (kW (kW (rE rfl ?_)));refine bE ?_
   repeat refine aA ?_
   refine e7 ?_;refine bJ rfl ?_;rw[<-aoM hc];refine cD (x:= .d (.v (.bool true))) (by kernel_rfl) rfl rfl ?_;refine bE ?_;refine cY ?_;refine Bm c1 c2 ?_;rw[mK,List.map_nil]at iZ;exact⟨rfl,true,rfl,iZ⟩
  |cons x rest=>
   rw[cz hd];refine lC (by kernel_rfl) ?_;refine dy ?_;refine bE ?_
   repeat refine aA ?_
   refine gp ?_
   repeat refine aA ?_
   refine e7 ?_;refine bJ rfl ?_;rw[<-aoM hc];refine cD (Ni (q:=i) (e:=61) (k:=13) rfl rfl (by kernel_rfl) (mY (bI hd)) rfl) rfl rfl ?_;refine bJ rfl ?_;refine cD (x:=aP x) (by kernel_rfl) rfl rfl ?_;refine bJ rfl ?_;refine yG (RJ (l:=[]) (by kernel_rfl)) rfl rfl Ck ?_;refine bJ rfl ?_;refine M3 (Q6 (i:=0) (off:=0) (k:=13) (l:=[_]) (v:=aP x) (cB:=(aP x).cells) (by kernel_rfl) rfl (by kernel_rfl) rfl (by kernel_rfl) (by kernel_rfl)) rfl PS ?_;refine bE ?_
   repeat refine aA ?_
   refine e7 ?_;refine bJ rfl ?_;refine cD (xy (i:=0) (off:=0) (l:=[.cells (aP x).cells]) (x:=aP x) (by kernel_rfl) rfl (by kernel_rfl)) rfl rfl ?_;refine bJ rfl ?_;refine cD (x:= .cn k) (by kernel_rfl) rfl rfl ?_;refine bJ rfl ?_;rw[Dt,List.map_append]at iZ;have wH:=aaX _ _ iZ;have hw:=sG x (aoE (bI hd)) k hc _ (by rw[c1];exact c2) (by rw[c1];exact hk) wH;have Ql:=agp hw [.cells (aP x).cells] (by rw[c1];exact c2) (by
    rw[c1];show((aP x).aE h.length&&((AV.cn k).aE h.length&&true))=true;rw[show(aP x).aE h.length=true by kernel_rfl];simp [AV.aE,cm];omega) (λr h' hh=>by
    obtain⟨b,rfl,_,q1,q2⟩:=hh;exact⟨q1,q2,rfl⟩)
   refine Eb (g:=102) (cZ:=[]) rfl rfl rfl ?_;refine Ql.mono λr h' hh=> ?_;obtain⟨h2,⟨b,rfl,q0,q1,q2⟩,rfl⟩:=hh;refine bJ rfl ?_;refine cD (x:= .d (.v (.bool (!b)))) (by kernel_rfl) rfl rfl ?_;refine bE ?_;cases b with
   |false=>
    refine lC (by kernel_rfl) ?_
    repeat refine aA ?_
    refine e7 ?_;refine bJ rfl ?_;refine cD (x:= .d (.v (.bool false))) (by kernel_rfl) rfl rfl ?_;refine bE ?_;refine cY (fa (c9 (c9 (fa (c9 ?_)))));refine Bm (J:=h2) (by rw[q1,c1]) (by rw[c1]at q2;exact q2) ?_;exact⟨rfl,false,rfl,q0⟩
   |true=>
    refine lP (by kernel_rfl) ?_;refine dy ?_;refine iK ?_;refine bE ?_;simp only[cond_true]at q0;refine e7 ?_;refine bJ rfl ?_;refine cD (x:= .d (.v (.int .i64 ((i+1:Nat):Int)))) (by
     show some ((.d (.v (.int .i64 (aQ ((i:Int)+1)))):AV),HD.same)=_;have:=cF hd rfl pG;unfold ar at this;rw[this]) rfl rfl ?_
    refine bJ rfl ?_;refine cD (x:= .d (.v (.int .i64 ((i+1:Nat):Int)))) (by kernel_rfl) rfl rfl ?_;refine bE ?_;have e1:h2.length=h.length:=by rw[q1,c1]
    have e2:h2.all (aq.aE h2.length)=true:=by rw[q1];exact q2
    refine⟨?_,(i+1,rest,h2),?_,⟨ma hd,⟨e1,by rw[<-e1];exact e2⟩,q0⟩,apd _⟩
    ·rw[<-e1];exact zJ _ e2 (by
       show(((AV.cn k).bo h2.length).aE h2.length&&(true&&(true&&(true&&true))))=true;rw[e1];simp [AV.bo,AV.aE,cm];omega)
    ·rw[<-e1];exact AG _ e2
mutual
theorem XP:(e:aw)->G7 e
 |⟨_,_,_,_,_,_,xs⟩=>anN _ (S3 xs)
theorem S3:(l:apf aw)->∀x∈l,G7 x
 |[],_,h=>absurd h ao7
 |x::l,y,h=>(aoV.1 h).elim (λe=>e▸XP x) (S3 l y)
end
theorem JU{P:api}{fn:Func}{n:Nat}{t:apf (Nat×AV)}{H J:apf aq}{K:AV->apf aq->Prop}(k1:J.length=H.length)(k2:J.all (aq.aE H.length)=true)(hr:mV P ⟨n,t,J⟩ fn.results.toList λrs=>((jY rs).bo J.length).aE J.length=true/\K ((jY rs).bo J.length) J):LI P fn H.length K .normal ⟨n,t,J⟩:=by
 have:=Q7 (P:=P) (fn:=fn) (n:=n) (t:=t) (l:=[]) (K:=K) k1 k2;rw[aoM]at this;exact this hr
theorem Up{P:api}{fn:Func}{n:Nat}{t:apf (Nat×AV)}{H J:apf aq}{K:AV->apf aq->Prop}(k1:J.length=H.length)(k2:J.all (aq.aE H.length)=true)(hr:mV P ⟨n,t,J⟩ fn.results.toList λrs=>((jY rs).bo J.length).aE J.length=true/\K ((jY rs).bo J.length) J):LI P fn H.length K .ret ⟨n,t,J⟩:=JU k1 k2 hr
theorem OE(e:aw):ze Tryz.prog 101 [.bj [eJ e] 0 0] ((dE e).map aP):=by
 intro k h C kA hk hs;refine uA h.length Tryz.func101 rfl (by kernel_rfl) (aoC _) ?_;show bA Tryz.prog none h.length _ _ ⟨6,[(0, .cn k),(1, .bj [eJ e] 0 0)],h⟩;refine e7 ?_;refine bJ rfl ?_;refine cD (x:=aP e) (by kernel_rfl) rfl rfl ?_;refine bJ rfl ?_;refine cD (x:= .cn k) (by kernel_rfl) rfl rfl ?_;refine bJ rfl ?_;refine Eb (g:=102) (cZ:=[]) rfl rfl rfl ?_;refine(XP e k h C kA hk hs).mono λr h' hh=> ?_;obtain⟨b,rfl,q0,q1,q2⟩:=hh;refine JU (n:=6) (t:=[(5, .d (.v (.bool b))),(4, .cn k),(3,aP e),(0, .cn k),(1, .bj [eJ e] 0 0)]) q1 q2 ?_;exact⟨rfl,b,q0⟩
def xm(x:cJ):apf bp:=x.bx::x.cN
def oO(e:aw):apf bp:=e.bx::e.xIdx.flatMap xm
theorem ahY(e:aw):ze Tryz.prog 168 [.bj [eJ e] 0 0] ((oO e).map dL):=by
 intro k h C kA hk qW;have hs:=FY _ kA qW;refine uA h.length Tryz.func168 rfl (by kernel_rfl) (aoC _) ?_;show bA Tryz.prog none h.length _ _ ⟨37,[(0, .cn k),(1, .bj [eJ e] 0 0)],h⟩
 repeat refine aA ?_
 refine e7 ?_;refine bJ rfl ?_;refine cD (x:= .cn k) (by kernel_rfl) rfl rfl ?_;refine bJ rfl ?_;refine cD (x:= .bj [eJ e] 0 9) (by kernel_rfl) rfl rfl ?_;refine bJ rfl ?_;refine cD (x:=dL e.bx) (by kernel_rfl) rfl rfl ?_;refine bJ rfl ?_;rw[oO,aoQ]at hs;refine zk (k:=k) (x:=dL e.bx) rfl rfl (by kernel_rfl) (by kernel_rfl) rfl rfl ?_;refine YS.mono hs λb J hh=> ?_;obtain⟨⟨k1,k2⟩,k3⟩:=hh;refine bJ rfl ?_;refine cD (x:= .d (.v (.bool (!b)))) (by kernel_rfl) rfl rfl ?_;refine bE ?_;cases b with
 |false=>
  refine lC (by kernel_rfl) ?_;refine cY (c9 ?_);exact Up k1 k2 ⟨rfl,false,k3.1⟩
 |true=>
  refine lP (by kernel_rfl) ?_;refine dy ?_;refine bE ?_;simp only[cond_true]at k3
  repeat refine aA ?_
  refine e7 ?_;refine bJ rfl ?_;refine cD (x:= .bj [eJ e] 0 11) (by kernel_rfl) rfl rfl ?_;refine bJ rfl ?_;refine cD (x:= .d (.sl (eQ e.xIdx))) (by kernel_rfl) rfl rfl ?_;refine bJ rfl ?_;refine cD (x:= .d (.v (.int .i64 (eQ e.xIdx).length))) (by kernel_rfl) rfl rfl ?_;refine bJ rfl ?_;refine cD (x:= .d (.v (.int .i64 0))) (by kernel_rfl) rfl rfl ?_;refine bE ?_;refine vH 13 (eQ e.xIdx) (by kernel_rfl) λbS=> ?_;have pG:e.xIdx.length<=maxLen:=by rw[<-kQ];exact Mj bS
  rw[kQ];refine gp ?_;refine Ij (ι:=Nat×apf cJ×apf aq) [0,13,14,15] h.length (λi=>⟨37,[(0, .cn k),(13, .d (.sl (eQ e.xIdx))),(14, .d (.v (.int .i64 e.xIdx.length))),(15, .d (.v (.int .i64 i.1)))],i.2.2⟩)
    (λi=>e.xIdx.drop i.1=i.2.1/\ov h i.2.2/\lX Tryz.prog k ((i.2.1.flatMap xm).map dL) (λb h2=>C b h2/\ov h h2) i.2.2) (λi=>i.2.1.length) (0,e.xIdx,J) (aoC _) ?_ ?_ ⟨rfl,⟨k1,k2⟩,k3⟩ ?_
  ·rw[<-k1];exact GC _ (by rw[k1];exact k2) (by
     show(((AV.cn k).bo J.length).aE J.length&&(true&&(true&&(true&&true))))=true;rw[k1,Bx hk];rfl)
  ·rw[<-k1];exact Iw _ (by rw[k1];exact k2)
  rintro⟨i,rest,hc⟩ ⟨hd,⟨c1,c2⟩,iZ⟩;simp only at hd c1 c2 iZ ⊢
  repeat refine aA ?_
  refine e7 ?_;refine bJ rfl ?_;refine cD (x:= .d (.v (.bool (decide ((i:Int)<(e.xIdx.length:Int)))))) (by kernel_rfl) rfl rfl ?_;refine bE ?_
  repeat refine aA ?_
  cases rest with
  |nil=>
   rw[cy hd];refine lP (by kernel_rfl) ?_;refine o7 (kW (kW (rE rfl ?_)));rw[List.flatMap_nil,List.map_nil]at iZ;exact JU c1 c2 ⟨rfl,true,iZ.1⟩
  |cons x rest=>
   rw[cz hd];refine lC (by kernel_rfl) ?_;refine dy ?_;refine bE ?_
   repeat refine aA ?_
   refine gp ?_
   repeat refine aA ?_
   refine e7 ?_;refine bJ rfl ?_;rw[<-aoM hc];refine cD (Ni (q:=i) (e:=55) (k:=4) rfl rfl (by kernel_rfl) (nu (bI hd)) rfl) rfl rfl ?_;refine bJ rfl ?_;refine cD (x:=hX x) (by kernel_rfl) rfl rfl ?_;refine bJ rfl ?_;refine yG (RJ (l:=[]) (by kernel_rfl)) rfl rfl Ck ?_;refine bJ rfl ?_;refine M3 (Q6 (i:=0) (off:=0) (k:=4) (l:=[_]) (v:=hX x) (cB:=(hX x).cells) (by kernel_rfl) rfl (by kernel_rfl) rfl (by kernel_rfl) (by kernel_rfl)) rfl PS ?_;refine bE ?_
   repeat refine aA ?_
   refine e7 ?_;refine bJ rfl ?_;refine cD (x:= .cn k) (by kernel_rfl) rfl rfl ?_;refine bJ rfl ?_;refine cD (x:= .ptr (hc.length+0) 0) (by kernel_rfl) rfl rfl ?_;refine bJ rfl ?_;refine cD (xy (i:=0) (off:=0) (l:=[.cells (hX x).cells]) (x:=dL x.bx) (by kernel_rfl) rfl (by kernel_rfl)) rfl rfl ?_;refine bJ rfl ?_;rw[List.flatMap_cons,xm,List.cons_append,aoQ]at iZ;have hy:=HR iZ [.cells (hX x).cells] (by rw[c1];exact c2) (by kernel_rfl) (λb h' hh=>hh.1);refine zk (k:=k) (x:=dL x.bx) rfl rfl (by kernel_rfl) (by kernel_rfl) rfl rfl ?_;refine hy.mono λb h' hh=> ?_;obtain⟨h2,⟨⟨p1,p2⟩,p3⟩,rfl⟩:=hh;refine bJ rfl ?_;refine cD (x:= .d (.v (.bool (!b)))) (by kernel_rfl) rfl rfl ?_;refine bE ?_;have q1:h2.length=h.length:=by rw[p1,c1]
   have q2:h2.all (aq.aE h.length)=true:=by rw[c1]at p2;exact p2
   cases b with
   |false=>
    refine lC (by kernel_rfl) ?_;refine cY ?_
    repeat (first|(with_reducible refine c9 ?_)|(with_reducible refine fa ?_))
    exact Bm q1 q2 ⟨rfl,false,p3.1⟩
   |true=>
    refine lP (by kernel_rfl) ?_;refine dy ?_;refine bE ?_;simp only[cond_true]at p3
    repeat refine aA ?_
    refine e7 ?_;refine bJ rfl ?_;refine cD (x:= .ptr (hc.length+0) 3) (by kernel_rfl) rfl rfl ?_;refine bJ rfl ?_;refine cD (xy (h:=h2) (i:=0) (off:=3) (l:=[.cells (hX x).cells]) (x:= .d (.sl (fV x.cN))) (by rw[p1];rfl) rfl (by kernel_rfl)) rfl rfl ?_;refine bJ rfl ?_;refine cD (x:= .d (.v (.int .i64 (fV x.cN).length))) (by kernel_rfl) rfl rfl ?_;refine bJ rfl ?_;refine cD (x:= .d (.v (.int .i64 0))) (by kernel_rfl) rfl rfl ?_;refine bE ?_;refine vH 25 (fV x.cN) (by kernel_rfl) λajx=> ?_;have alT:x.cN.length<=maxLen:=by rw[<-jw];exact Mj ajx
    rw[jw];refine gp ?_;refine Ij (ι:=Nat×apf bp×apf aq) [0,13,14,15,25,26,27] h.length (λj=>⟨37,[(0, .cn k),(13, .d (.sl (eQ e.xIdx))),(14, .d (.v (.int .i64 e.xIdx.length))),(15, .d (.v (.int .i64 i))),(25, .d (.sl (fV x.cN))),(26, .d (.v (.int .i64 x.cN.length))),(27, .d (.v (.int .i64 j.1)))],j.2.2⟩)
      (λj=>x.cN.drop j.1=j.2.1/\ov h j.2.2/\lX Tryz.prog k ((j.2.1++rest.flatMap xm).map dL) (λb h2=>C b h2/\ov h h2) j.2.2) (λj=>j.2.1.length) (0,x.cN,h2) (aoC _) ?_ ?_ ⟨rfl,⟨q1,q2⟩,p3⟩ ?_
    ·rw[<-q1];exact zJ _ (by rw[q1];exact q2) (by
       show(((AV.cn k).bo h2.length).aE h2.length&&(true&&(true&&(true&&(true&&(true&&(true&&true)))))))=true;rw[q1,Bx hk];rfl)
    ·rw[<-q1];exact AG _ (by rw[q1];exact q2)
    rintro⟨j,r2,hb⟩ ⟨nB,⟨b1,b2⟩,wH⟩;simp only at nB b1 b2 wH ⊢
    repeat refine aA ?_
    refine e7 ?_;refine bJ rfl ?_;refine cD (x:= .d (.v (.bool (decide ((j:Int)<(x.cN.length:Int)))))) (by kernel_rfl) rfl rfl ?_;refine bE ?_
    repeat refine aA ?_
    cases r2 with
    |nil=>
     rw[cy nB];refine lP (by kernel_rfl) ?_;refine o7 (kW (kW (rE rfl ?_)));refine iK ?_;refine bE ?_;rw[List.nil_append]at wH;refine e7 ?_;refine bJ rfl ?_;refine cD (x:= .d (.v (.int .i64 ((i+1:Nat):Int)))) (by
       show some ((.d (.v (.int .i64 (aQ ((i:Int)+1)))):AV),HD.same)=_;have:=cF hd rfl pG;unfold ar at this;rw[this]) rfl rfl ?_
     refine bJ rfl ?_;refine cD (x:= .d (.v (.int .i64 ((i+1:Nat):Int)))) (by kernel_rfl) rfl rfl ?_;refine bE ?_;refine⟨?_,(i+1,rest,hb),?_,⟨ma hd,⟨b1,b2⟩,wH⟩,apd _⟩
     ·rw[<-b1];exact GC _ (by rw[b1];exact b2) (by
        show(((AV.cn k).bo hb.length).aE hb.length&&(true&&(true&&(true&&true))))=true;rw[b1,Bx hk];rfl)
     ·rw[<-b1];exact Iw _ (by rw[b1];exact b2)
    |cons y r2=>
     rw[cz nB];refine lC (by kernel_rfl) ?_;refine dy ?_;refine bE ?_
     repeat refine aA ?_
     refine gp ?_
     repeat refine aA ?_
     refine e7 ?_;refine bJ rfl ?_;rw[<-aoM hb];refine cD (Ni (q:=j) (e:=53) (k:=2) rfl rfl (by kernel_rfl) (uR (bI nB)) rfl) rfl rfl ?_;refine bJ rfl ?_;refine cD (x:=dL y) (by kernel_rfl) rfl rfl ?_;refine bJ rfl ?_;refine yG (RJ (l:=[]) (by kernel_rfl)) rfl rfl Ck ?_;refine bJ rfl ?_;refine M3 (Q6 (i:=0) (off:=0) (k:=2) (l:=[_]) (v:=dL y) (cB:=(dL y).cells) (by kernel_rfl) rfl (by kernel_rfl) rfl (by kernel_rfl) (by kernel_rfl)) rfl PS ?_;refine bE ?_
     repeat refine aA ?_
     refine e7 ?_;refine bJ rfl ?_;refine cD (x:= .cn k) (by kernel_rfl) rfl rfl ?_;refine bJ rfl ?_;refine cD (xy (i:=0) (off:=0) (l:=[.cells (dL y).cells]) (x:=dL y) (by kernel_rfl) rfl (by kernel_rfl)) rfl rfl ?_;refine bJ rfl ?_;rw[List.cons_append,aoQ]at wH;have Nf:=HR wH [.cells (dL y).cells] (by rw[b1];exact b2) (by kernel_rfl) (λb h' hh=>hh.1);refine zk (k:=k) (x:=dL y) rfl rfl (by kernel_rfl) (by kernel_rfl) rfl rfl ?_;refine Nf.mono λb h' hh=> ?_;obtain⟨h3,⟨⟨r1,r3⟩,r4⟩,rfl⟩:=hh;refine bJ rfl ?_;refine cD (x:= .d (.v (.bool (!b)))) (by kernel_rfl) rfl rfl ?_;refine bE ?_;have u1:h3.length=h.length:=by rw[r1,b1]
     have u2:h3.all (aq.aE h.length)=true:=by rw[b1]at r3;exact r3
     cases b with
     |false=>
      refine lC (by kernel_rfl) ?_;refine cY ?_
      repeat (first|(with_reducible refine c9 ?_)|(with_reducible refine fa ?_))
      exact Bm u1 u2 ⟨rfl,false,r4.1⟩
     |true=>
      refine lP (by kernel_rfl) ?_;refine dy ?_;refine iK ?_;refine bE ?_;simp only[cond_true]at r4;refine e7 ?_;refine bJ rfl ?_;refine cD (x:= .d (.v (.int .i64 ((j+1:Nat):Int)))) (by
       show some ((.d (.v (.int .i64 (aQ ((j:Int)+1)))):AV),HD.same)=_;have:=cF nB rfl alT;unfold ar at this;rw[this]) rfl rfl ?_
      refine bJ rfl ?_;refine cD (x:= .d (.v (.int .i64 ((j+1:Nat):Int)))) (by kernel_rfl) rfl rfl ?_;refine bE ?_;refine⟨?_,(j+1,r2,h3),?_,⟨ma nB,⟨u1,u2⟩,r4⟩,apd _⟩
      ·rw[<-u1];exact zJ _ (by rw[u1];exact u2) (by
         show(((AV.cn k).bo h3.length).aE h3.length&&(true&&(true&&(true&&(true&&(true&&(true&&true)))))))=true;rw[u1,Bx hk];rfl)
      ·rw[<-u1];exact AG _ (by rw[u1];exact u2)
theorem ane(v1:aw):ga Tryz.prog 61 [(aP v1)] (·= .fn 101 [.bj [eJ v1] 0 0]):=by
 refine SI (r:= .fn 101 [(.ptr 0 0)]) (h:=[.cells (aP v1).cells]) ?_ (by kernel_rfl) rfl;refine qU 1 Tryz.func61 rfl (by kernel_rfl) (aoz rfl) ?_;refine l6 (s':=⟨4,[(0,(aP v1))],[]⟩) (by kernel_rfl) ?_;refine aA ?_;refine rg [] [(1,(.ptr 0 0))] [.cells (aP v1).cells] (by kernel_rfl) ?_;refine aA ?_;refine rg [] [(2,(.fn 101 [(.ptr 0 0)]))] [.cells (aP v1).cells] (by kernel_rfl) ?_;refine cY ?_;exact jt (by kernel_rfl)
theorem ai0(v1:aw):ga Tryz.prog 108 [(aP v1)] (·= .fn 168 [.bj [eJ v1] 0 0]):=by
 refine SI (r:= .fn 168 [(.ptr 0 0)]) (h:=[.cells (aP v1).cells]) ?_ (by kernel_rfl) rfl;refine qU 1 Tryz.func108 rfl (by kernel_rfl) (aoz rfl) ?_;refine l6 (s':=⟨4,[(0,(aP v1))],[]⟩) (by kernel_rfl) ?_;refine aA ?_;refine rg [] [(1,(.ptr 0 0))] [.cells (aP v1).cells] (by kernel_rfl) ?_;refine aA ?_;refine rg [] [(2,(.fn 168 [(.ptr 0 0)]))] [.cells (aP v1).cells] (by kernel_rfl) ?_;refine cY ?_;exact jt (by kernel_rfl)
end Go.Proofs.YtpeecnpmcbnahaaGreatDoor
namespace Go.Proofs.YtpeecnpmcbnahaaGreatDoor
open Go.RowKit Go.Shelf
set_option maxRecDepth 100000
def ant:Ren where
 f:=fun
  |157=>290
  |229=>313
  |199=>314
  |261=>323
  |311=>325
  |312=>326
  |n=>n
 t:=fun
  |9=>9
  |31=>22
  |3=>3
  |5=>5
  |4=>4
  |119=>301
  |0=>0
  |40=>247
  |152=>310
  |21=>21
  |154=>312
  |51=>299
  |141=>314
  |196=>321
  |193=>318
  |198=>324
  |49=>322
  |194=>319
  |201=>327
  |226=>329
  |46=>255
  |227=>330
  |n=>n
 g:=fun
  |0=>0
  |6=>1
  |n=>n
def nA:apf apg:=[bs [115,105,122,101],bs [119,104,101,114,101],bs [105,110],bs [100,101,102],bs [111,117,116],bs [115,117,109],bs [112,114,111,100],bs [109,105,110],bs [109,97,120],bs [115,99,97,110],bs [111,118,101,114],bs [105,102],bs [99,97,115,116],bs [102,114,97,99],bs [105,110,116],bs [102,105,120],bs [99,101,105,108],bs [102,108,111,111,114],bs [122,101,114,111],bs [101,118,101,110],bs [115,97,116],bs [119,114,97,112]]
theorem adQ:Lays.n157 Tryz.prog ant:=by
 constructor<;>first|kernel_rfl|(intro w;rfl)
def Du:apg:=⟨#[115,105,122,101,32,119,104,101,114,101,32,105,110,32,100,101,102,32,111,117,116,32,115,117,109,32,112,114,111,100,32,109,105,110,32,109,97,120,32,115,99,97,110,32,111,118,101,114,32,105,102,32,99,97,115,116,32,102,114,97,99,32,105,110,116,32,102,105,120,32,99,101,105,108,32,102,108,111,111,114,32,122,101,114,111,32,101,118,101,110,32,115,97,116,32,119,114,97,112]⟩
theorem ak7(w:apk)(hT:∀c:Nat,c<256->w.cell? ⟨0,c,none⟩=some (.int .u8 (if Lib.isSp (UInt8.ofNat c)then 1 else 0))):
 Calls Tryz.prog 290 #[.string Du] w λe w'=>e= .returned (.slice (some ⟨w.heap.size,0,none⟩) 22 22)/\w'=w.alloc (.cells (nA.map Value.string).toArray 9):=by
 have ha:(Du.data.toList.all λb=>decide (b.toNat<128))=true:=by kernel_rfl
 have h:=Any.strings_Fields_core adQ (by kernel_rfl) Du w (of_decide_eq_true (by kernel_rfl)) (λj b hb=>of_decide_eq_true (aoR.1 ha b (aoE hb))) hT;have e1:(Lib.fields Du.data.toList).length=22:=by kernel_rfl
 have e2:((Lib.fields Du.data.toList).map λl=>Value.string ⟨l.toArray⟩)=nA.map Value.string:=by kernel_rfl
 rw[e1,e2]at h;exact h
theorem aiM(w:apk)(hT:∀c:Nat,c<256->w.cell? ⟨0,c,none⟩=some (.int .u8 (if Lib.isSp (UInt8.ofNat c)then 1 else 0))):
 Calls Tryz.prog 261 #[] w λe w'=>e= .returned (.slice (some ⟨w.heap.size,0,none⟩) 22 22)/\w'=w.alloc (.cells (nA.map Value.string).toArray 9):=by
 go_enter Tryz.func261,Tryz.ntmps261
 go_wp2_with (go_at_call 290;refine(ak7 _ hT).mono ?_;rintro e w' ⟨rfl,rfl⟩)
 go_ret
 exact⟨rfl,rfl⟩
theorem aeG:∀c:Nat,c<256->(w7 Gr)[c]?=some (.int .u8 (if Lib.isSp (UInt8.ofNat c)then 1 else 0)):=λc hc=>by
 rw[show w7 Gr=(List.range 256).map λc=>Value.int .u8 (if Lib.isSp (UInt8.ofNat c)then 1 else 0) by kernel_rfl,aoy,List.getElem?_range hc];rfl
theorem ai3:ga Tryz.prog 261 [] (·= .d (.sl (dS nA))):=by
 refine⟨by kernel_rfl,λG w vs hi hl hr=> ?_⟩;obtain rfl:vs= #[]:=Array.size_eq_zero_iff.1 hl;refine(aiM w λc hc=> ?_).mono λe w' hp=> ?_
 ·exact(hi.gl.1 0 (w7 Gr) aox c _ (aeG c hc)).2
 ·obtain⟨rfl,rfl⟩:=hp;obtain⟨i1,i2⟩:=XB hi (.cells (nA.map Value.string).toArray 9) 22;have xr:Rd (G.qf w.heap.size 22).S (w.alloc (.cells (nA.map Value.string).toArray 9)) 1 (dS nA) (nA.map Value.string):=
   ⟨rfl,λx hx=>(by obtain⟨y,_,rfl⟩:=List.mem_map.1 hx;rfl),λu hu=>(by obtain⟨y,_,rfl⟩:=List.mem_map.1 hu;rfl),λi j x d hx hd=>by
    rw[nj,aoy]at hx;cases hk:nA[i]? with
    |none=>rw[hk]at hx;cases hx
    |some y=>
     rw[hk]at hx;cases hx;cases j with
     |zero=>cases hd;exact⟨.string y,by rw[Nat.mul_one,Nat.add_zero,aoy,hk];rfl, .v _⟩
     |succ j=>cases hd⟩
  have hp:=xr.CT w.heap.size 22 (by decide) (by decide) (λo ho=> .inr ⟨rfl,ho⟩) (λo u hu=>by
   rw[World.cell?_alloc_new,List.getElem?_toArray];exact hu)
  exact⟨_,_,_,_,rfl,i1,aoC _,i2, .d hp,rfl,rfl⟩
end Go.Proofs.YtpeecnpmcbnahaaGreatDoor
namespace Go.Proofs.YtpeecnpmcbnahaaGreatDoor
open Go.RowKit
set_option maxRecDepth 1000000
end Go.Proofs.YtpeecnpmcbnahaaGreatDoor
