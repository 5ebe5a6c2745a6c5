/-
  Part 5 of the proof: AbsDat, IterE, KwS, AbsKern.
-/
import Derived.Test.YtnnapanbbbcalaaGreatDoorPp4
import Derived.Test.YtnnapanbbbcalaaGreatDoorProg
import Derived.WalkKit
import Derived.Shelf.Strings.Fields
import Derived.KernelRfl
namespace Go.Proofs.YtnnapanbbbcalaaGreatDoor
open Go.RowKit
set_option linter.unusedVariables false
def ir(x:amU):amT D:=[.v (.string x)]
def ee(l:amT amU):amT (amT D):=l.map ir
theorem nt(l:amT amU):ee l=l.map ir:=rfl
theorem jY{l:amT amU}:(ee l).length=l.length:=by rw[nt,ama]
theorem qt{l:amT amU}{k:Nat}{x:amU}(h:l[k]?=some x):(ee l)[k]?=some (ir x):=by rw[nt,amc,h];rfl
theorem aaM{a b:amT amU}:ee a++ee b=ee (a++b):=by rw[nt,nt,nt,List.map_append]
theorem Hi{l:amT amU}:∀c∈ee l,c.length=1:=by
 intro c hc;rw[nt]at hc;obtain⟨x,_,rfl⟩:=List.mem_map.1 hc;rfl
theorem ajm{l:amT amU}{k n:Nat}:((ee l).take n).drop k=ee ((l.take n).drop k):=by rw[nt,nt,List.map_drop,List.map_take]
def eE(x:Int):amT D:=[.v (.int .i64 x)]
def bA(l:amT Int):amT (amT D):=l.map eE
theorem nB(l:amT Int):bA l=l.map eE:=rfl
theorem fy{l:amT Int}:(bA l).length=l.length:=by rw[nB,ama]
theorem gZ{l:amT Int}{k:Nat}{x:Int}(h:l[k]?=some x):(bA l)[k]?=some (eE x):=by rw[nB,amc,h];rfl
theorem ad0{a b:amT Int}:bA a++bA b=bA (a++b):=by rw[nB,nB,nB,List.map_append]
theorem Ee{l:amT Int}:∀c∈bA l,c.length=1:=by
 intro c hc;rw[nB]at hc;obtain⟨x,_,rfl⟩:=List.mem_map.1 hc;rfl
structure dP where
 bo:ByteArray
 eQ:Int64
def Fi(x:dP):amT D:=[.v (.string x.bo), .v (.int .i64 x.eQ.toInt)]
def rL(x:dP):AV:= .agg [.d (.v (.string x.bo)), .d (.v (.int .i64 x.eQ.toInt))]
structure aP where
 bu:Int
 bG:Int
 ck:Int
 cx:Int
 cG:Int
def Iz(x:aP):amT D:=[.v (.int .i64 x.bu), .v (.int .i64 x.bG), .v (.int .i64 x.ck), .v (.int .i64 x.cx), .v (.int .i64 x.cG)]
def bE(x:aP):AV:= .agg [.d (.v (.int .i64 x.bu)), .d (.v (.int .i64 x.bG)), .d (.v (.int .i64 x.ck)), .d (.v (.int .i64 x.cx)), .d (.v (.int .i64 x.cG))]
structure aB where
 xN:Int64
 xD:Int64
def Ak(x:aB):amT D:=[.v (.int .i64 x.xN.toInt), .v (.int .i64 x.xD.toInt)]
def aT(x:aB):AV:= .agg [.d (.v (.int .i64 x.xN.toInt)), .d (.v (.int .i64 x.xD.toInt))]
structure aV where
 bo:ByteArray
 dR:Int64
def Df(x:aV):amT D:=[.v (.string x.bo), .v (.int .i64 x.dR.toInt)]
def Iv(x:aV):AV:= .agg [.d (.v (.string x.bo)), .d (.v (.int .i64 x.dR.toInt))]
structure eZ where
 yVal:aB
 fu:aP
def dM(x:eZ):AV:= .agg [.d (.v (.int .i64 x.yVal.xN.toInt)), .d (.v (.int .i64 x.yVal.xD.toInt)), .d (.v (.int .i64 x.fu.bu)), .d (.v (.int .i64 x.fu.bG)), .d (.v (.int .i64 x.fu.ck)), .d (.v (.int .i64 x.fu.cx)), .d (.v (.int .i64 x.fu.cG))]
structure iD where
 xV:aB
 xT:aP
 xE:Int
def tQ(x:iD):AV:= .agg [.d (.v (.int .i64 x.xV.xN.toInt)), .d (.v (.int .i64 x.xV.xD.toInt)), .d (.v (.int .i64 x.xT.bu)), .d (.v (.int .i64 x.xT.bG)), .d (.v (.int .i64 x.xT.ck)), .d (.v (.int .i64 x.xT.cx)), .d (.v (.int .i64 x.xT.cG)), .d (.v (.int .i64 x.xE))]
structure jF where
 nC:Int
 lv:Int
 kx:Int
def Bx(x:jF):AV:= .agg [.d (.v (.int .u64 x.nC)), .d (.v (.int .u64 x.lv)), .d (.v (.int .u64 x.kx))]
structure cl where
 cr:Int
 cE:Int
 cX:Int
 cV:Int
 cP:Int
 cJ:Int
def eC(x:cl):AV:= .agg [.d (.v (.int .u64 x.cr)), .d (.v (.int .u64 x.cE)), .d (.v (.int .u64 x.cX)), .d (.v (.int .u64 x.cV)), .d (.v (.int .u64 x.cP)), .d (.v (.int .u64 x.cJ))]
def gq(l:amT dP):amT (amT D):=l.map Fi
theorem xA(l:amT dP):gq l=l.map Fi:=rfl
theorem lq{l:amT dP}:(gq l).length=l.length:=by rw[xA,ama]
theorem nK{l:amT dP}{k:Nat}{x:dP}(h:l[k]?=some x):(gq l)[k]?=some (Fi x):=by rw[xA,amc,h];rfl
theorem afm{a b:amT dP}:gq a++gq b=gq (a++b):=by rw[xA,xA,xA,List.map_append]
theorem TA{l:amT dP}:∀c∈gq l,c.length=2:=by
 intro c hc;rw[xA]at hc;obtain⟨x,_,rfl⟩:=List.mem_map.1 hc;rfl
def aS(l:amT aV):amT (amT D):=l.map Df
theorem xH(l:amT aV):aS l=l.map Df:=rfl
theorem rX{l:amT aV}:(aS l).length=l.length:=by rw[xH,ama]
theorem uP{l:amT aV}{k:Nat}{x:aV}(h:l[k]?=some x):(aS l)[k]?=some (Df x):=by rw[xH,amc,h];rfl
theorem agF{a b:amT aV}:aS a++aS b=aS (a++b):=by rw[xH,xH,xH,List.map_append]
theorem abN{l:amT aV}:∀c∈aS l,c.length=2:=by
 intro c hc;rw[xH]at hc;obtain⟨x,_,rfl⟩:=List.mem_map.1 hc;rfl
def dO(l:amT aB):amT (amT D):=l.map Ak
theorem rP(l:amT aB):dO l=l.map Ak:=rfl
theorem kp{l:amT aB}:(dO l).length=l.length:=by rw[rP,ama]
theorem nm{l:amT aB}{k:Nat}{x:aB}(h:l[k]?=some x):(dO l)[k]?=some (Ak x):=by rw[rP,amc,h];rfl
theorem aij{a b:amT aB}:dO a++dO b=dO (a++b):=by rw[rP,rP,rP,List.map_append]
theorem Lu{l:amT aB}:∀c∈dO l,c.length=2:=by
 intro c hc;rw[rP]at hc;obtain⟨x,_,rfl⟩:=List.mem_map.1 hc;rfl
theorem ajA{l:amT aB}{k:Nat}:(dO l).drop k=dO (l.drop k):=by rw[rP,rP,List.map_drop]
def oD(l:amT aP):amT (amT D):=l.map Iz
theorem AT(l:amT aP):oD l=l.map Iz:=rfl
theorem aka{l:amT aP}:(oD l).length=l.length:=by rw[AT,ama]
theorem sJ{l:amT aP}{k:Nat}{x:aP}(h:l[k]?=some x):(oD l)[k]?=some (Iz x):=by rw[AT,amc,h];rfl
theorem ajw{a b:amT aP}:oD a++oD b=oD (a++b):=by rw[AT,AT,AT,List.map_append]
theorem aiN{l:amT aP}:∀c∈oD l,c.length=5:=by
 intro c hc;rw[AT]at hc;obtain⟨x,_,rfl⟩:=List.mem_map.1 hc;rfl
structure cn where
 xK:Int64
 xL:List dP
def DD(x:cn):amT D:=[.v (.int .i64 x.xK.toInt), .sl (gq x.xL)]
def dT(x:cn):AV:= .agg [.d (.v (.int .i64 x.xK.toInt)), .d (.sl (gq x.xL))]
structure l7 where
 cm:cn
 Lr:Bool
def Nk(x:l7):amT D:=[.v (.int .i64 x.cm.xK.toInt), .sl (gq x.cm.xL), .v (.bool x.Lr)]
def w6(x:l7):AV:= .agg [.d (.v (.int .i64 x.cm.xK.toInt)), .d (.sl (gq x.cm.xL)), .d (.v (.bool x.Lr))]
structure fj where
 bo:ByteArray
 qU:cn
def LW(x:fj):amT D:=[.v (.string x.bo), .v (.int .i64 x.qU.xK.toInt), .sl (gq x.qU.xL)]
def XL(x:fj):AV:= .agg [.d (.v (.string x.bo)), .d (.v (.int .i64 x.qU.xK.toInt)), .d (.sl (gq x.qU.xL))]
structure aU where
 aK:aP
 bS:List Int
 dI:List aB
def bQ(x:aU):amT D:=[.v (.int .i64 x.aK.bu), .v (.int .i64 x.aK.bG), .v (.int .i64 x.aK.ck), .v (.int .i64 x.aK.cx), .v (.int .i64 x.aK.cG), .sl (bA x.bS), .sl (dO x.dI)]
def gJ(x:aU):AV:= .agg [.d (.v (.int .i64 x.aK.bu)), .d (.v (.int .i64 x.aK.bG)), .d (.v (.int .i64 x.aK.ck)), .d (.v (.int .i64 x.aK.cx)), .d (.v (.int .i64 x.aK.cG)), .d (.sl (bA x.bS)), .d (.sl (dO x.dI))]
structure aO where
 bo:ByteArray
 gM:aU
def Ew(x:aO):amT D:=[.v (.string x.bo), .v (.int .i64 x.gM.aK.bu), .v (.int .i64 x.gM.aK.bG), .v (.int .i64 x.gM.aK.ck), .v (.int .i64 x.gM.aK.cx), .v (.int .i64 x.gM.aK.cG), .sl (bA x.gM.bS), .sl (dO x.gM.dI)]
def Tf(x:aO):AV:= .agg [.d (.v (.string x.bo)), .d (.v (.int .i64 x.gM.aK.bu)), .d (.v (.int .i64 x.gM.aK.bG)), .d (.v (.int .i64 x.gM.aK.ck)), .d (.v (.int .i64 x.gM.aK.cx)), .d (.v (.int .i64 x.gM.aK.cG)), .d (.sl (bA x.gM.bS)), .d (.sl (dO x.gM.dI))]
def oH(l:amT l7):amT (amT D):=l.map Nk
theorem yf(l:amT l7):oH l=l.map Nk:=rfl
theorem Ke{l:amT l7}:(oH l).length=l.length:=by rw[yf,ama]
theorem Zi{l:amT l7}{k:Nat}{x:l7}(h:l[k]?=some x):(oH l)[k]?=some (Nk x):=by rw[yf,amc,h];rfl
theorem aco{a b:amT l7}:oH a++oH b=oH (a++b):=by rw[yf,yf,yf,List.map_append]
theorem ad9{l:amT l7}:∀c∈oH l,c.length=3:=by
 intro c hc;rw[yf]at hc;obtain⟨x,_,rfl⟩:=List.mem_map.1 hc;rfl
def gg(l:amT cn):amT (amT D):=l.map DD
theorem vt(l:amT cn):gg l=l.map DD:=rfl
theorem hJ{l:amT cn}:(gg l).length=l.length:=by rw[vt,ama]
theorem sr{l:amT cn}{k:Nat}{x:cn}(h:l[k]?=some x):(gg l)[k]?=some (DD x):=by rw[vt,amc,h];rfl
theorem alb{a b:amT cn}:gg a++gg b=gg (a++b):=by rw[vt,vt,vt,List.map_append]
theorem akm{l:amT cn}:∀c∈gg l,c.length=2:=by
 intro c hc;rw[vt]at hc;obtain⟨x,_,rfl⟩:=List.mem_map.1 hc;rfl
def iO(l:amT fj):amT (amT D):=l.map LW
theorem yy(l:amT fj):iO l=l.map LW:=rfl
theorem nh{l:amT fj}:(iO l).length=l.length:=by rw[yy,ama]
theorem D0{l:amT fj}{k:Nat}{x:fj}(h:l[k]?=some x):(iO l)[k]?=some (LW x):=by rw[yy,amc,h];rfl
theorem agw{a b:amT fj}:iO a++iO b=iO (a++b):=by rw[yy,yy,yy,List.map_append]
theorem ala{l:amT fj}:∀c∈iO l,c.length=3:=by
 intro c hc;rw[yy]at hc;obtain⟨x,_,rfl⟩:=List.mem_map.1 hc;rfl
def aX(l:amT aO):amT (amT D):=l.map Ew
theorem xh(l:amT aO):aX l=l.map Ew:=rfl
theorem ub{l:amT aO}:(aX l).length=l.length:=by rw[xh,ama]
theorem uD{l:amT aO}{k:Nat}{x:aO}(h:l[k]?=some x):(aX l)[k]?=some (Ew x):=by rw[xh,amc,h];rfl
theorem aks{a b:amT aO}:aX a++aX b=aX (a++b):=by rw[xh,xh,xh,List.map_append]
theorem adb{l:amT aO}:∀c∈aX l,c.length=8:=by
 intro c hc;rw[xh]at hc;obtain⟨x,_,rfl⟩:=List.mem_map.1 hc;rfl
def NM(x:amT fj):amT D:=[.sl (iO x)]
def oG(l:amT (amT fj)):amT (amT D):=l.map NM
theorem zA(l:amT (amT fj)):oG l=l.map NM:=rfl
theorem Pd{l:amT (amT fj)}:(oG l).length=l.length:=by rw[zA,ama]
theorem YL{l:amT (amT fj)}{k:Nat}{x:(amT fj)}(h:l[k]?=some x):(oG l)[k]?=some (NM x):=by rw[zA,amc,h];rfl
theorem aap{a b:amT (amT fj)}:oG a++oG b=oG (a++b):=by rw[zA,zA,zA,List.map_append]
theorem ajL{l:amT (amT fj)}:∀c∈oG l,c.length=1:=by
 intro c hc;rw[zA]at hc;obtain⟨x,_,rfl⟩:=List.mem_map.1 hc;rfl
structure ju where
 bo:ByteArray
 aK:aP
 bS:List cn
def P7(x:ju):amT D:=[.v (.string x.bo), .v (.int .i64 x.aK.bu), .v (.int .i64 x.aK.bG), .v (.int .i64 x.aK.ck), .v (.int .i64 x.aK.cx), .v (.int .i64 x.aK.cG), .sl (gg x.bS)]
def pD(x:ju):AV:= .agg [.d (.v (.string x.bo)), .d (.v (.int .i64 x.aK.bu)), .d (.v (.int .i64 x.aK.bG)), .d (.v (.int .i64 x.aK.ck)), .d (.v (.int .i64 x.aK.cx)), .d (.v (.int .i64 x.aK.cG)), .d (.sl (gg x.bS))]
structure cY where
 cm:cn
 dA:ByteArray
 cO:List cn
def EH(x:cY):amT D:=[.v (.int .i64 x.cm.xK.toInt), .sl (gq x.cm.xL), .v (.string x.dA), .sl (gg x.cO)]
def gy(x:cY):AV:= .agg [.d (.v (.int .i64 x.cm.xK.toInt)), .d (.sl (gq x.cm.xL)), .d (.v (.string x.dA)), .d (.sl (gg x.cO))]
def kT(l:amT ju):amT (amT D):=l.map P7
theorem zp(l:amT ju):kT l=l.map P7:=rfl
theorem As{l:amT ju}:(kT l).length=l.length:=by rw[zp,ama]
theorem Ms{l:amT ju}{k:Nat}{x:ju}(h:l[k]?=some x):(kT l)[k]?=some (P7 x):=by rw[zp,amc,h];rfl
theorem ae2{a b:amT ju}:kT a++kT b=kT (a++b):=by rw[zp,zp,zp,List.map_append]
theorem aj9{l:amT ju}:∀c∈kT l,c.length=7:=by
 intro c hc;rw[zp]at hc;obtain⟨x,_,rfl⟩:=List.mem_map.1 hc;rfl
def eB(l:amT cY):amT (amT D):=l.map EH
theorem vn(l:amT cY):eB l=l.map EH:=rfl
theorem fF{l:amT cY}:(eB l).length=l.length:=by rw[vn,ama]
theorem iB{l:amT cY}{k:Nat}{x:cY}(h:l[k]?=some x):(eB l)[k]?=some (EH x):=by rw[vn,amc,h];rfl
theorem aiH{a b:amT cY}:eB a++eB b=eB (a++b):=by rw[vn,vn,vn,List.map_append]
theorem aaV{l:amT cY}:∀c∈eB l,c.length=4:=by
 intro c hc;rw[vn]at hc;obtain⟨x,_,rfl⟩:=List.mem_map.1 hc;rfl
structure ay where
 aC:Int
 bo:ByteArray
 dR:aB
 aK:aP
 cm:cn
 xIdx:List cY
 bD:List ay
mutual
def LZ:ay->amT D
 |⟨aC,bo,dR,aK,cm,xIdx,bD⟩=>[.v (.int .i64 aC), .v (.string bo), .v (.int .i64 dR.xN.toInt), .v (.int .i64 dR.xD.toInt), .v (.int .i64 aK.bu), .v (.int .i64 aK.bG), .v (.int .i64 aK.ck), .v (.int .i64 aK.cx), .v (.int .i64 aK.cG), .v (.int .i64 cm.xK.toInt), .sl (gq cm.xL), .sl (eB xIdx), .sl (iG bD)]
def iG:amT ay->amT (amT D)
 |[]=>[]
 |x::l=>LZ x::iG l
end
def eH(x:ay):amT D:=[.v (.int .i64 x.aC), .v (.string x.bo), .v (.int .i64 x.dR.xN.toInt), .v (.int .i64 x.dR.xD.toInt), .v (.int .i64 x.aK.bu), .v (.int .i64 x.aK.bG), .v (.int .i64 x.aK.ck), .v (.int .i64 x.aK.cx), .v (.int .i64 x.aK.cG), .v (.int .i64 x.cm.xK.toInt), .sl (gq x.cm.xL), .sl (eB x.xIdx), .sl (iG x.bD)]
theorem ajo(x:ay):LZ x=eH x:=by cases x;simp only[LZ];rfl
theorem pC:∀l:amT ay,iG l=l.map eH
 |[]=>by simp [iG]
 |x::l=>by simp [iG,ajo,pC l]
theorem jr{l:amT ay}:(iG l).length=l.length:=by rw[pC,ama]
theorem gY{l:amT ay}{k:Nat}{x:ay}(h:l[k]?=some x):(iG l)[k]?=some (eH x):=by rw[pC,amc,h];rfl
theorem aiK{a b:amT ay}:iG a++iG b=iG (a++b):=by rw[pC,pC,pC,List.map_append]
theorem Z1{l:amT ay}:∀c∈iG l,c.length=13:=by
 intro c hc;rw[pC]at hc;obtain⟨x,_,rfl⟩:=List.mem_map.1 hc;rfl
def aD(x:ay):AV:= .agg [.d (.v (.int .i64 x.aC)), .d (.v (.string x.bo)), .d (.v (.int .i64 x.dR.xN.toInt)), .d (.v (.int .i64 x.dR.xD.toInt)), .d (.v (.int .i64 x.aK.bu)), .d (.v (.int .i64 x.aK.bG)), .d (.v (.int .i64 x.aK.ck)), .d (.v (.int .i64 x.aK.cx)), .d (.v (.int .i64 x.aK.cG)), .d (.v (.int .i64 x.cm.xK.toInt)), .d (.sl (gq x.cm.xL)), .d (.sl (eB x.xIdx)), .d (.sl (iG x.bD))]
structure et where
 bo:ByteArray
 aK:aP
 bS:List fj
 m6:List fj
 jq:Int
 dF:ay
def LX(x:et):amT D:=[.v (.string x.bo), .v (.int .i64 x.aK.bu), .v (.int .i64 x.aK.bG), .v (.int .i64 x.aK.ck), .v (.int .i64 x.aK.cx), .v (.int .i64 x.aK.cG), .sl (iO x.bS), .sl (iO x.m6), .v (.int .i64 x.jq), .v (.int .i64 x.dF.aC), .v (.string x.dF.bo), .v (.int .i64 x.dF.dR.xN.toInt), .v (.int .i64 x.dF.dR.xD.toInt), .v (.int .i64 x.dF.aK.bu), .v (.int .i64 x.dF.aK.bG), .v (.int .i64 x.dF.aK.ck), .v (.int .i64 x.dF.aK.cx), .v (.int .i64 x.dF.aK.cG), .v (.int .i64 x.dF.cm.xK.toInt), .sl (gq x.dF.cm.xL), .sl (eB x.dF.xIdx), .sl (iG x.dF.bD)]
def gj(x:et):AV:= .agg [.d (.v (.string x.bo)), .d (.v (.int .i64 x.aK.bu)), .d (.v (.int .i64 x.aK.bG)), .d (.v (.int .i64 x.aK.ck)), .d (.v (.int .i64 x.aK.cx)), .d (.v (.int .i64 x.aK.cG)), .d (.sl (iO x.bS)), .d (.sl (iO x.m6)), .d (.v (.int .i64 x.jq)), .d (.v (.int .i64 x.dF.aC)), .d (.v (.string x.dF.bo)), .d (.v (.int .i64 x.dF.dR.xN.toInt)), .d (.v (.int .i64 x.dF.dR.xD.toInt)), .d (.v (.int .i64 x.dF.aK.bu)), .d (.v (.int .i64 x.dF.aK.bG)), .d (.v (.int .i64 x.dF.aK.ck)), .d (.v (.int .i64 x.dF.aK.cx)), .d (.v (.int .i64 x.dF.aK.cG)), .d (.v (.int .i64 x.dF.cm.xK.toInt)), .d (.sl (gq x.dF.cm.xL)), .d (.sl (eB x.dF.xIdx)), .d (.sl (iG x.dF.bD))]
def jd(l:amT et):amT (amT D):=l.map LX
theorem tV(l:amT et):jd l=l.map LX:=rfl
theorem xx{l:amT et}:(jd l).length=l.length:=by rw[tV,ama]
theorem Ae{l:amT et}{k:Nat}{x:et}(h:l[k]?=some x):(jd l)[k]?=some (LX x):=by rw[tV,amc,h];rfl
theorem ahI{a b:amT et}:jd a++jd b=jd (a++b):=by rw[tV,tV,tV,List.map_append]
theorem Yq{l:amT et}:∀c∈jd l,c.length=22:=by
 intro c hc;rw[tV]at hc;obtain⟨x,_,rfl⟩:=List.mem_map.1 hc;rfl
theorem akS{l:amT et}{k n:Nat}:((jd l).take n).drop k=jd ((l.take n).drop k):=by rw[tV,tV,List.map_drop,List.map_take]
structure dh where
 gN:List ByteArray
 mF:List l7
 fz:List ju
 gz:List et
 kh:List ByteArray
def fg(x:dh):AV:= .agg [.d (.sl (ee x.gN)), .d (.sl (oH x.mF)), .d (.sl (kT x.fz)), .d (.sl (jd x.gz)), .d (.sl (ee x.kh))]
def di(s:amU):AV:= .d (.v (.string s))
def ar(n:Int):AV:= .d (.v (.int .i64 n))
def bk(n:Int64):AV:= .d (.v (.int .i64 n.toInt))
def az(b:Bool):AV:= .d (.v (.bool b))
abbrev aE(n:Int):Int:=IntKind.i64.wrap n
theorem A1(a:Int):IntKind.i64.wrap a=a.bmod (2^64):=by
 rw[IntKind.wrap_i64,Int.bmod_def];omega
theorem gP(a:Int):ar (aE a)=bk (Int64.ofInt a):=by
 unfold ar bk aE;rw[A1,Int64.toInt_ofInt]
theorem nr(a b:Int64):ar (aE (a.toInt+b.toInt))=bk (a+b):=by
 unfold ar bk aE;rw[A1,Int64.toInt_add]
theorem kV(a b:Int64):ar (aE (a.toInt-b.toInt))=bk (a-b):=by
 unfold ar bk aE;rw[A1,Int64.toInt_sub]
theorem fA(a b:Int64):ar (aE (a.toInt*b.toInt))=bk (a*b):=by
 unfold ar bk aE;rw[A1,Int64.toInt_mul]
theorem kG(a:Int64):ar (aE (0-a.toInt))=bk (-a):=by
 unfold ar bk aE;rw[A1,Int64.toInt_neg,Int.zero_sub]
theorem En{a:Int}(h:aE a=a):ar a=bk (Int64.ofInt a):=by
 rw[<-gP,h]
theorem aj4(a:Int)(m:Nat)(h1: -9223372036854775808<=a)(h2:a<9223372036854775808): -9223372036854775808<=a.fdiv (2^m)/\a.fdiv (2^m)<9223372036854775808:=by
 have hp:(0:Int)<2^m:=Int.pow_pos (by decide);rw[Int.fdiv_eq_ediv_of_nonneg _ (Int.le_of_lt hp)];generalize (2:Int)^m=p at*;by_cases h:0<=a
 ·have h3:=Int.ediv_nonneg h (Int.le_of_lt hp);have h4:=Int.ediv_le_self p h;omega
 ·have h3:a / p<0:=Int.ediv_neg_of_neg_of_pos (by omega) hp;have h4:a<=a / p:=by
   refine(Int.le_ediv_iff_mul_le hp).2 ?_;have:=Int.mul_le_mul_of_nonpos_left (a:=a) (b:=p) (c:=1) (by omega) (by omega);omega
  omega
theorem UH(a:Int64)(m:Nat):ar (a.toInt.fdiv (2^m))=bk (Int64.ofInt (a.toInt.fdiv (2^m))):=by
 refine En ?_;have h:=aj4 a.toInt m (by have:=a.le_toInt;simpa using this) (by have:=a.toInt_lt;simpa using this);unfold aE;rw[IntKind.wrap_i64];omega
theorem IL(a:Int64)(b:Int):ar (a.toInt.tmod b)=bk (Int64.ofInt (a.toInt.tmod b)):=by
 refine En ?_;unfold aE;rw[IntKind.wrap_i64];have h1:=a.le_toInt;have h2:=a.toInt_lt;have h3:=Int.natAbs_tmod a.toInt b;have h4:(a.toInt.tmod b).natAbs<=a.toInt.natAbs:=by rw[h3];exact Nat.mod_le _ _
 have h7: -9223372036854775808<=a.toInt/\a.toInt<=9223372036854775807:=by omega
 clear h1 h2 h3;by_cases h5:0<=a.toInt
 ·have:=Int.tmod_nonneg b h5;generalize a.toInt.tmod b=x at*;omega
 ·have h6:=Int.tmod_nonneg b (show 0<=-a.toInt by omega);rw[Int.neg_tmod]at h6;generalize a.toInt.tmod b=x at*;omega
theorem cC{α:Type}{l:amT α}{k:Nat}{x:α}{xs:amT α}{n:Nat}(hd:l.drop k=x::xs)(hn:l.length=n)(hl:n<=maxLen):ar (aE ((k:Int)+1))=ar ((k+1:Nat):Int):=by
 have:(l.drop k).length=(x::xs).length:=by rw[hd]
 rw[List.length_drop,al8]at this;have h1:k<maxLen:=by omega
 unfold maxLen at h1;have e:IntKind.i64.wrap ((k:Int)+1)=((k+1:Nat):Int):=by rw[IntKind.wrap_i64];omega
 unfold ar aE;rw[e]
theorem bM{α:Type}{l:amT α}{k:Nat}{x:α}{xs:amT α}(hd:l.drop k=x::xs):l[k]?=some x:=by
 have:(l.drop k)[0]?=some x:=by rw[hd];rfl
 rwa [List.getElem?_drop]at this
theorem jR{α:Type}{l:amT α}{k:Nat}{x:α}{xs:amT α}(hd:l.drop k=x::xs):l.drop (k+1)=xs:=by
 rw[<-List.drop_drop,hd];rfl
theorem bZ{α:Type}{l:amT α}{k:Nat}{x:α}{xs:amT α}(hd:l.drop k=x::xs):decide ((k:Int)<(l.length:Int))=true:=by
 have:(l.drop k).length=(x::xs).length:=by rw[hd]
 rw[List.length_drop,al8]at this;exact amM (by omega)
theorem cf{α:Type}{l:amT α}{k:Nat}(hd:l.drop k=[]):decide ((k:Int)<(l.length:Int))=false:=by
 have:=List.drop_eq_nil_iff.1 hd;exact amN (by omega)
theorem mJ{n dd:Nat}(h:Nat.ble (n*dd) 140737488355328=true)(hb:1<=dd):n<=maxLen/\n*dd<=140737488355328:=by
 have h:=amd h;refine⟨?_,h⟩;unfold maxLen;have:=Nat.le_mul_of_pos_right n hb;omega
theorem bw:Tryz.prog.follows .mixedOrders=true:=by kernel_rfl
set_option maxRecDepth 100000
set_option maxHeartbeats 0
def qo(a b:Int64):Int64:=if b.toInt>a.toInt then b else a
def uY(a b:Int64):Int64:=if b.toInt<a.toInt then b else a
theorem SF(a b:Int64):(if b.toInt>a.toInt then b.toInt else a.toInt)=(qo a b).toInt:=by unfold qo;split<;>rfl
theorem alK(a b:Int64):(if b.toInt<a.toInt then b.toInt else a.toInt)=(uY a b).toInt:=by unfold uY;split<;>rfl
theorem YZ(a b:Int64):AV.d (.v (.int .i64 (if b.toInt>a.toInt then b.toInt else a.toInt)))=bk (qo a b):=by rw[SF];rfl
theorem ab4(a b:Int64):AV.d (.v (.int .i64 (if b.toInt<a.toInt then b.toInt else a.toInt)))=bk (uY a b):=by rw[alK];rfl
mutual
def LK:ay->amT ay
 |⟨o,n,v,t,l,i,xs⟩=>⟨o,n,v,t,l,i,xs⟩::lV xs
def lV:amT ay->amT ay
 |[]=>[]
 |x::l=>LK x++lV l
end
def eO(e:ay):amT ay:=e::lV e.bD
theorem acR(e:ay):LK e=eO e:=by cases e;simp only[LK];rfl
theorem DM(x:ay)(l:amT ay):lV (x::l)=eO x++lV l:=by rw[lV,acR]
theorem Du{P:amW}{k:Nat}:∀(l:amT AV){C:Bool->amT aq->Prop}{h:amT aq},h.all (aq.aG h.length)=true->lG P k l C h->lG P k l (λb h1=>C b h1/\ot h h1) h
 |[],_,_,hl,hs=>⟨hs,rfl,hl⟩
 |x::l,C,h,hl,hs=>YS.mono hs λb h1 ⟨h2,h3⟩=>⟨h2,by
  cases b with
  |true=>exact RS l (λb h4 ⟨h5,h6,h7⟩=>⟨h5,by rw[h6,h2.1],by rw[h2.1]at h7;exact h7⟩) (Du l (by rw[h2.1];exact h2.2) h3)
  |false=>exact⟨h3,h2⟩⟩
def GX(e:ay):Prop:=∀(k:Nat)(h:amT aq)(C:Bool->amT aq->Prop),h.all (aq.aG h.length)=true->k<h.length->lG Tryz.prog k ((eO e).map aD) C h->cZ Tryz.prog 150 [aD e, .cp k] h λr h1=>∃b,r= .d (.v (.bool b))/\C b h1/\ot h h1
theorem MM{P:amW}{fn:Func}{n:Nat}{t:amT (Nat×AV)}{H h1 l:amT aq}{K:AV->amT aq->Prop}(k1:h1.length=H.length)(k2:h1.all (aq.aG H.length)=true)(hr:mU P ⟨n,t,h1++l⟩ fn.results.toList λrs=>((jO rs).bz h1.length).aG h1.length=true/\K ((jO rs).bz h1.length) h1):qe P fn H.length K ⟨n,t,h1++l⟩:=by
 rw[<-k1]at k2 ⊢;exact air k2 hr
theorem zl{P:amW}{fn:Func}{n:Nat}{t:amT (Nat×AV)}{H h1 l:amT aq}{K:AV->amT aq->Prop}(k1:h1.length=H.length)(k2:h1.all (aq.aG H.length)=true)(hr:mU P ⟨n,t,h1++l⟩ fn.results.toList λrs=>((jO rs).bz h1.length).aG h1.length=true/\K ((jO rs).bz h1.length) h1):Jp P fn H.length K .ret ⟨n,t,h1++l⟩:=MM k1 k2 hr
theorem aaL(e:ay)(rl:∀x∈e.bD,GX x):GX e:=by
 intro k h C j5 hk hs;refine tD h.length Tryz.func150 rfl (by kernel_rfl) (amg _) ?_
 suffices hA:bB Tryz.prog none h.length _ _ ⟨23,[(0,aD e),(1, .cp k)],h++[]⟩ by rw[amq]at hA;exact hA
 repeat refine au ?_
 refine e9 ?_;refine bO rfl ?_;refine Aa (QU (l:=[]) (v:=aD e) rfl (by kernel_rfl)) rfl rfl CF ?_;refine bO rfl ?_;refine cN (x:= .d (.v (.bool false))) (by kernel_rfl) rfl rfl ?_;refine aM ?_
 repeat refine au ?_
 refine e9 ?_;refine bO rfl ?_;refine cN (x:= .cp k) (by kernel_rfl) rfl rfl ?_;refine bO rfl ?_;refine cN (wN (i:=0) (off:=0) (l:=[]++[.cells (aD e).cells]) (x:=aD e) (by kernel_rfl) rfl (by kernel_rfl)) rfl rfl ?_;refine bO rfl ?_;rw[eO,amu]at hs;have hy:=I3 (Du (aD e::_) j5 hs) [.cells (aD e).cells] j5 (by kernel_rfl) (λb h' hh=>hh.1);refine xS (k:=k) (x:=aD e) rfl rfl (by kernel_rfl) (by kernel_rfl) rfl rfl ?_;refine hy.mono λb h' hh=> ?_;obtain⟨h1,⟨⟨k1,k2⟩,k3⟩,rfl⟩:=hh;refine bO rfl ?_;refine cN (x:= .d (.v (.bool (!b)))) (by kernel_rfl) rfl rfl ?_;refine aM ?_;cases b with
 |false=>
  refine lS (by kernel_rfl) ?_
  repeat refine au ?_
  refine e9 ?_;refine bO rfl ?_;refine cN (x:= .d (.v (.bool false))) (by kernel_rfl) rfl rfl ?_;refine aM ?_;refine cU (cT ?_);refine zl k1 k2 ?_;exact⟨rfl,false,rfl,k3⟩
 |true=>
  refine lL (by kernel_rfl) ?_;refine ct ?_;refine aM ?_;simp only[cond_true]at k3
  repeat refine au ?_
  refine e9 ?_;refine bO rfl ?_;refine cN (x:= .ptr (h.length+0) 12) (by kernel_rfl) rfl rfl ?_;refine bO rfl ?_;refine cN (wN (h:=h1) (i:=0) (off:=12) (l:=[.cells (aD e).cells]) (x:= .d (.sl (iG e.bD))) (by rw[k1];rfl) rfl (by kernel_rfl)) rfl rfl ?_;refine bO rfl ?_;refine cN (x:= .d (.v (.int .i64 (iG e.bD).length))) (by kernel_rfl) rfl rfl ?_;refine bO rfl ?_;refine cN (x:= .d (.v (.int .i64 0))) (by kernel_rfl) rfl rfl ?_;refine aM ?_;refine wI 12 (iG e.bD) (by kernel_rfl) λbW=> ?_;have py:e.bD.length<=maxLen:=by rw[<-jr];exact HR bW
  rw[jr]
  repeat refine au ?_
  refine dn ?_;refine GJ (ι:=Nat×amT ay×amT aq) [1,12,13,14] h.length (λi=>⟨23,[(1, .cp k),(12, .d (.sl (iG e.bD))),(13, .d (.v (.int .i64 e.bD.length))),(14, .d (.v (.int .i64 i.1)))],i.2.2⟩)
   (λi=>e.bD.drop i.1=i.2.1/\ot h i.2.2/\lG Tryz.prog k ((lV i.2.1).map aD) (λb h2=>C b h2/\ot h h2) i.2.2) (λi=>i.2.1.length) (0,e.bD,h1) (amg _) ?_ ?_ ⟨rfl,⟨k1,k2⟩,k3⟩ ?_
  ·rw[<-k1];exact zd _ (by rw[k1];exact k2) (by
     show(((AV.cp k).bz h1.length).aG h1.length&&(true&&(true&&(true&&true))))=true;rw[k1];simp [AV.bz,AV.aG,cq];omega)
  ·rw[<-k1];exact yn _ (by rw[k1];exact k2)
  rintro⟨i,rest,hc⟩ ⟨hd,⟨c1,c2⟩,iZ⟩;simp only at hd c1 c2 iZ ⊢
  repeat refine au ?_
  refine e9 ?_;refine bO rfl ?_;refine cN (x:= .d (.v (.bool (decide ((i:Int)<(e.bD.length:Int)))))) (by kernel_rfl) rfl rfl ?_;refine aM ?_;refine au ?_;cases rest with
  |nil=>
   rw[cf hd];refine lL (by kernel_rfl) ?_;refine kW (at_e (at_e (l4 rfl ?_)));refine aM ?_
   repeat refine au ?_
   refine e9 ?_;refine bO rfl ?_;rw[<-amq hc];refine cN (x:= .d (.v (.bool true))) (by kernel_rfl) rfl rfl ?_;refine aM ?_;refine cU ?_;refine zl c1 c2 ?_;rw[lV,List.map_nil]at iZ;exact⟨rfl,true,rfl,iZ⟩
  |cons x rest=>
   rw[bZ hd];refine lS (by kernel_rfl) ?_;refine ct ?_;refine aM ?_
   repeat refine au ?_
   refine dn ?_
   repeat refine au ?_
   refine e9 ?_;refine bO rfl ?_;rw[<-amq hc];refine cN (Me (q:=i) (e:=52) (k:=13) rfl rfl (by kernel_rfl) (gY (bM hd)) rfl) rfl rfl ?_;refine bO rfl ?_;refine cN (x:=aD x) (by kernel_rfl) rfl rfl ?_;refine bO rfl ?_;refine Aa (M9 (l:=[]) (by kernel_rfl)) rfl rfl CF ?_;refine bO rfl ?_;refine NA (LI (i:=0) (off:=0) (k:=13) (l:=[_]) (v:=aD x) (cD:=(aD x).cells) (by kernel_rfl) rfl (by kernel_rfl) rfl (by kernel_rfl) (by kernel_rfl)) rfl OE ?_;refine aM ?_
   repeat refine au ?_
   refine e9 ?_;refine bO rfl ?_;refine cN (wN (i:=0) (off:=0) (l:=[.cells (aD x).cells]) (x:=aD x) (by kernel_rfl) rfl (by kernel_rfl)) rfl rfl ?_;refine bO rfl ?_;refine cN (x:= .cp k) (by kernel_rfl) rfl rfl ?_;refine bO rfl ?_;rw[DM,List.map_append]at iZ;have wY:=RW _ _ iZ;have hw:=rl x (ami (bM hd)) k hc _ (by rw[c1];exact c2) (by rw[c1];exact hk) wY;have Lo:=akU hw [.cells (aD x).cells] (by rw[c1];exact c2) (by
    rw[c1];show((aD x).aG h.length&&((AV.cp k).aG h.length&&true))=true;rw[show(aD x).aG h.length=true by kernel_rfl];simp [AV.aG,cq];omega) (λr h' hh=>by
    obtain⟨b,rfl,_,q1,q2⟩:=hh;exact⟨q1,q2,rfl⟩)
   refine EU (g:=150) (dg:=[]) rfl rfl rfl ?_;refine Lo.mono λr h' hh=> ?_;obtain⟨h2,⟨b,rfl,q0,q1,q2⟩,rfl⟩:=hh;refine bO rfl ?_;refine cN (x:= .d (.v (.bool (!b)))) (by kernel_rfl) rfl rfl ?_;refine aM ?_;cases b with
   |false=>
    refine lS (by kernel_rfl) ?_
    repeat refine au ?_
    refine e9 ?_;refine bO rfl ?_;refine cN (x:= .d (.v (.bool false))) (by kernel_rfl) rfl rfl ?_;refine aM ?_;refine cU (dS (cT (cT (dS (cT ?_)))));refine zl (h1:=h2) (by rw[q1,c1]) (by rw[c1]at q2;exact q2) ?_;exact⟨rfl,false,rfl,q0⟩
   |true=>
    refine lL (by kernel_rfl) ?_;refine ct ?_;refine dU ?_;refine aM ?_;simp only[cond_true]at q0;refine e9 ?_;refine bO rfl ?_;refine cN (x:= .d (.v (.int .i64 ((i+1:Nat):Int)))) (by
     show some ((.d (.v (.int .i64 (aE ((i:Int)+1)))):AV),HD.same)=_;have:=cC hd rfl py;unfold ar at this;rw[this]) rfl rfl ?_
    refine bO rfl ?_;refine cN (x:= .d (.v (.int .i64 ((i+1:Nat):Int)))) (by kernel_rfl) rfl rfl ?_;refine aM ?_;have e1:h2.length=h.length:=by rw[q1,c1]
    have e2:h2.all (aq.aG h2.length)=true:=by rw[q1];exact q2
    refine⟨?_,(i+1,rest,h2),?_,⟨jR hd,⟨e1,by rw[<-e1];exact e2⟩,q0⟩,amR _⟩
    ·rw[<-e1];exact zd _ e2 (by
       show(((AV.cp k).bz h2.length).aG h2.length&&(true&&(true&&(true&&true))))=true;rw[e1];simp [AV.bz,AV.aG,cq];omega)
    ·rw[<-e1];exact yn _ e2
mutual
theorem Yw:(e:ay)->GX e
 |⟨_,_,_,_,_,_,xs⟩=>aaL _ (V3 xs)
theorem V3:(l:amT ay)->∀x∈l,GX x
 |[],_,h=>absurd h amL
 |x::l,y,h=>(amz.1 h).elim (λe=>e▸Yw x) (V3 l y)
end
theorem HZ{P:amW}{fn:Func}{n:Nat}{t:amT (Nat×AV)}{H h1:amT aq}{K:AV->amT aq->Prop}(k1:h1.length=H.length)(k2:h1.all (aq.aG H.length)=true)(hr:mU P ⟨n,t,h1⟩ fn.results.toList λrs=>((jO rs).bz h1.length).aG h1.length=true/\K ((jO rs).bz h1.length) h1):Jp P fn H.length K .normal ⟨n,t,h1⟩:=by
 have:=MM (P:=P) (fn:=fn) (n:=n) (t:=t) (l:=[]) (K:=K) k1 k2;rw[amq]at this;exact this hr
theorem Ra{P:amW}{fn:Func}{n:Nat}{t:amT (Nat×AV)}{H h1:amT aq}{K:AV->amT aq->Prop}(k1:h1.length=H.length)(k2:h1.all (aq.aG H.length)=true)(hr:mU P ⟨n,t,h1⟩ fn.results.toList λrs=>((jO rs).bz h1.length).aG h1.length=true/\K ((jO rs).bz h1.length) h1):Jp P fn H.length K .ret ⟨n,t,h1⟩:=HZ k1 k2 hr
theorem Lk(e:ay):yK Tryz.prog 149 [.bp [eH e] 0 0] ((eO e).map aD):=by
 intro k h C j5 hk hs;refine tD h.length Tryz.func149 rfl (by kernel_rfl) (amg _) ?_;show bB Tryz.prog none h.length _ _ ⟨6,[(0, .cp k),(1, .bp [eH e] 0 0)],h⟩;refine e9 ?_;refine bO rfl ?_;refine cN (x:=aD e) (by kernel_rfl) rfl rfl ?_;refine bO rfl ?_;refine cN (x:= .cp k) (by kernel_rfl) rfl rfl ?_;refine bO rfl ?_;refine EU (g:=150) (dg:=[]) rfl rfl rfl ?_;refine(Yw e k h C j5 hk hs).mono λr h' hh=> ?_;obtain⟨b,rfl,q0,q1,q2⟩:=hh;refine HZ (n:=6) (t:=[(5, .d (.v (.bool b))),(4, .cp k),(3,aD e),(0, .cp k),(1, .bp [eH e] 0 0)]) q1 q2 ?_;exact⟨rfl,b,q0⟩
def wU(x:cY):amT cn:=x.cm::x.cO
def od(e:ay):amT cn:=e.cm::e.xIdx.flatMap wU
theorem aa6(e:ay):yK Tryz.prog 235 [.bp [eH e] 0 0] ((od e).map dT):=by
 intro k h C j5 hk oh;have hs:=Du _ j5 oh;refine tD h.length Tryz.func235 rfl (by kernel_rfl) (amg _) ?_;show bB Tryz.prog none h.length _ _ ⟨37,[(0, .cp k),(1, .bp [eH e] 0 0)],h⟩
 repeat refine au ?_
 refine e9 ?_;refine bO rfl ?_;refine cN (x:= .cp k) (by kernel_rfl) rfl rfl ?_;refine bO rfl ?_;refine cN (x:= .bp [eH e] 0 9) (by kernel_rfl) rfl rfl ?_;refine bO rfl ?_;refine cN (x:=dT e.cm) (by kernel_rfl) rfl rfl ?_;refine bO rfl ?_;rw[od,amu]at hs;refine xS (k:=k) (x:=dT e.cm) rfl rfl (by kernel_rfl) (by kernel_rfl) rfl rfl ?_;refine YS.mono hs λb h1 hh=> ?_;obtain⟨⟨k1,k2⟩,k3⟩:=hh;refine bO rfl ?_;refine cN (x:= .d (.v (.bool (!b)))) (by kernel_rfl) rfl rfl ?_;refine aM ?_;cases b with
 |false=>
  refine lS (by kernel_rfl) ?_;refine cU (cT ?_);exact Ra k1 k2 ⟨rfl,false,k3.1⟩
 |true=>
  refine lL (by kernel_rfl) ?_;refine ct ?_;refine aM ?_;simp only[cond_true]at k3
  repeat refine au ?_
  refine e9 ?_;refine bO rfl ?_;refine cN (x:= .bp [eH e] 0 11) (by kernel_rfl) rfl rfl ?_;refine bO rfl ?_;refine cN (x:= .d (.sl (eB e.xIdx))) (by kernel_rfl) rfl rfl ?_;refine bO rfl ?_;refine cN (x:= .d (.v (.int .i64 (eB e.xIdx).length))) (by kernel_rfl) rfl rfl ?_;refine bO rfl ?_;refine cN (x:= .d (.v (.int .i64 0))) (by kernel_rfl) rfl rfl ?_;refine aM ?_;refine wI 13 (eB e.xIdx) (by kernel_rfl) λbW=> ?_;have py:e.xIdx.length<=maxLen:=by rw[<-fF];exact HR bW
  rw[fF];refine dn ?_;refine GJ (ι:=Nat×amT cY×amT aq) [0,13,14,15] h.length (λi=>⟨37,[(0, .cp k),(13, .d (.sl (eB e.xIdx))),(14, .d (.v (.int .i64 e.xIdx.length))),(15, .d (.v (.int .i64 i.1)))],i.2.2⟩)
    (λi=>e.xIdx.drop i.1=i.2.1/\ot h i.2.2/\lG Tryz.prog k ((i.2.1.flatMap wU).map dT) (λb h2=>C b h2/\ot h h2) i.2.2) (λi=>i.2.1.length) (0,e.xIdx,h1) (amg _) ?_ ?_ ⟨rfl,⟨k1,k2⟩,k3⟩ ?_
  ·rw[<-k1];exact Ih _ (by rw[k1];exact k2) (by
     show(((AV.cp k).bz h1.length).aG h1.length&&(true&&(true&&(true&&true))))=true;rw[k1,AY hk];rfl)
  ·rw[<-k1];exact Fv _ (by rw[k1];exact k2)
  rintro⟨i,rest,hc⟩ ⟨hd,⟨c1,c2⟩,iZ⟩;simp only at hd c1 c2 iZ ⊢
  repeat refine au ?_
  refine e9 ?_;refine bO rfl ?_;refine cN (x:= .d (.v (.bool (decide ((i:Int)<(e.xIdx.length:Int)))))) (by kernel_rfl) rfl rfl ?_;refine aM ?_
  repeat refine au ?_
  cases rest with
  |nil=>
   rw[cf hd];refine lL (by kernel_rfl) ?_;refine kW (at_e (at_e (l4 rfl ?_)));rw[List.flatMap_nil,List.map_nil]at iZ;exact HZ c1 c2 ⟨rfl,true,iZ.1⟩
  |cons x rest=>
   rw[bZ hd];refine lS (by kernel_rfl) ?_;refine ct ?_;refine aM ?_
   repeat refine au ?_
   refine dn ?_
   repeat refine au ?_
   refine e9 ?_;refine bO rfl ?_;rw[<-amq hc];refine cN (Me (q:=i) (e:=83) (k:=4) rfl rfl (by kernel_rfl) (iB (bM hd)) rfl) rfl rfl ?_;refine bO rfl ?_;refine cN (x:=gy x) (by kernel_rfl) rfl rfl ?_;refine bO rfl ?_;refine Aa (M9 (l:=[]) (by kernel_rfl)) rfl rfl CF ?_;refine bO rfl ?_;refine NA (LI (i:=0) (off:=0) (k:=4) (l:=[_]) (v:=gy x) (cD:=(gy x).cells) (by kernel_rfl) rfl (by kernel_rfl) rfl (by kernel_rfl) (by kernel_rfl)) rfl OE ?_;refine aM ?_
   repeat refine au ?_
   refine e9 ?_;refine bO rfl ?_;refine cN (x:= .cp k) (by kernel_rfl) rfl rfl ?_;refine bO rfl ?_;refine cN (x:= .ptr (hc.length+0) 0) (by kernel_rfl) rfl rfl ?_;refine bO rfl ?_;refine cN (wN (i:=0) (off:=0) (l:=[.cells (gy x).cells]) (x:=dT x.cm) (by kernel_rfl) rfl (by kernel_rfl)) rfl rfl ?_;refine bO rfl ?_;rw[List.flatMap_cons,wU,List.cons_append,amu]at iZ;have hy:=I3 iZ [.cells (gy x).cells] (by rw[c1];exact c2) (by kernel_rfl) (λb h' hh=>hh.1);refine xS (k:=k) (x:=dT x.cm) rfl rfl (by kernel_rfl) (by kernel_rfl) rfl rfl ?_;refine hy.mono λb h' hh=> ?_;obtain⟨h2,⟨⟨p1,p2⟩,p3⟩,rfl⟩:=hh;refine bO rfl ?_;refine cN (x:= .d (.v (.bool (!b)))) (by kernel_rfl) rfl rfl ?_;refine aM ?_;have q1:h2.length=h.length:=by rw[p1,c1]
   have q2:h2.all (aq.aG h.length)=true:=by rw[c1]at p2;exact p2
   cases b with
   |false=>
    refine lS (by kernel_rfl) ?_;refine cU ?_
    repeat (first|(with_reducible refine cT ?_)|(with_reducible refine dS ?_))
    exact zl q1 q2 ⟨rfl,false,p3.1⟩
   |true=>
    refine lL (by kernel_rfl) ?_;refine ct ?_;refine aM ?_;simp only[cond_true]at p3
    repeat refine au ?_
    refine e9 ?_;refine bO rfl ?_;refine cN (x:= .ptr (hc.length+0) 3) (by kernel_rfl) rfl rfl ?_;refine bO rfl ?_;refine cN (wN (h:=h2) (i:=0) (off:=3) (l:=[.cells (gy x).cells]) (x:= .d (.sl (gg x.cO))) (by rw[p1];rfl) rfl (by kernel_rfl)) rfl rfl ?_;refine bO rfl ?_;refine cN (x:= .d (.v (.int .i64 (gg x.cO).length))) (by kernel_rfl) rfl rfl ?_;refine bO rfl ?_;refine cN (x:= .d (.v (.int .i64 0))) (by kernel_rfl) rfl rfl ?_;refine aM ?_;refine wI 25 (gg x.cO) (by kernel_rfl) λafu=> ?_;have ahM:x.cO.length<=maxLen:=by rw[<-hJ];exact HR afu
    rw[hJ];refine dn ?_;refine GJ (ι:=Nat×amT cn×amT aq) [0,13,14,15,25,26,27] h.length (λj=>⟨37,[(0, .cp k),(13, .d (.sl (eB e.xIdx))),(14, .d (.v (.int .i64 e.xIdx.length))),(15, .d (.v (.int .i64 i))),(25, .d (.sl (gg x.cO))),(26, .d (.v (.int .i64 x.cO.length))),(27, .d (.v (.int .i64 j.1)))],j.2.2⟩)
      (λj=>x.cO.drop j.1=j.2.1/\ot h j.2.2/\lG Tryz.prog k ((j.2.1++rest.flatMap wU).map dT) (λb h2=>C b h2/\ot h h2) j.2.2) (λj=>j.2.1.length) (0,x.cO,h2) (amg _) ?_ ?_ ⟨rfl,⟨q1,q2⟩,p3⟩ ?_
    ·rw[<-q1];exact zd _ (by rw[q1];exact q2) (by
       show(((AV.cp k).bz h2.length).aG h2.length&&(true&&(true&&(true&&(true&&(true&&(true&&true)))))))=true;rw[q1,AY hk];rfl)
    ·rw[<-q1];exact yn _ (by rw[q1];exact q2)
    rintro⟨j,r2,hb⟩ ⟨nv,⟨b1,b2⟩,wY⟩;simp only at nv b1 b2 wY ⊢
    repeat refine au ?_
    refine e9 ?_;refine bO rfl ?_;refine cN (x:= .d (.v (.bool (decide ((j:Int)<(x.cO.length:Int)))))) (by kernel_rfl) rfl rfl ?_;refine aM ?_
    repeat refine au ?_
    cases r2 with
    |nil=>
     rw[cf nv];refine lL (by kernel_rfl) ?_;refine kW (at_e (at_e (l4 rfl ?_)));refine dU ?_;refine aM ?_;rw[List.nil_append]at wY;refine e9 ?_;refine bO rfl ?_;refine cN (x:= .d (.v (.int .i64 ((i+1:Nat):Int)))) (by
       show some ((.d (.v (.int .i64 (aE ((i:Int)+1)))):AV),HD.same)=_;have:=cC hd rfl py;unfold ar at this;rw[this]) rfl rfl ?_
     refine bO rfl ?_;refine cN (x:= .d (.v (.int .i64 ((i+1:Nat):Int)))) (by kernel_rfl) rfl rfl ?_;refine aM ?_;refine⟨?_,(i+1,rest,hb),?_,⟨jR hd,⟨b1,b2⟩,wY⟩,amR _⟩
     ·rw[<-b1];exact Ih _ (by rw[b1];exact b2) (by
        show(((AV.cp k).bz hb.length).aG hb.length&&(true&&(true&&(true&&true))))=true;rw[b1,AY hk];rfl)
     ·rw[<-b1];exact Fv _ (by rw[b1];exact b2)
    |cons y r2=>
     rw[bZ nv];refine lS (by kernel_rfl) ?_;refine ct ?_;refine aM ?_
     repeat refine au ?_
     refine dn ?_
     repeat refine au ?_
     refine e9 ?_;refine bO rfl ?_;rw[<-amq hb];refine cN (Me (q:=j) (e:=48) (k:=2) rfl rfl (by kernel_rfl) (sr (bM nv)) rfl) rfl rfl ?_;refine bO rfl ?_;refine cN (x:=dT y) (by kernel_rfl) rfl rfl ?_;refine bO rfl ?_;refine Aa (M9 (l:=[]) (by kernel_rfl)) rfl rfl CF ?_;refine bO rfl ?_;refine NA (LI (i:=0) (off:=0) (k:=2) (l:=[_]) (v:=dT y) (cD:=(dT y).cells) (by kernel_rfl) rfl (by kernel_rfl) rfl (by kernel_rfl) (by kernel_rfl)) rfl OE ?_;refine aM ?_
     repeat refine au ?_
     refine e9 ?_;refine bO rfl ?_;refine cN (x:= .cp k) (by kernel_rfl) rfl rfl ?_;refine bO rfl ?_;refine cN (wN (i:=0) (off:=0) (l:=[.cells (dT y).cells]) (x:=dT y) (by kernel_rfl) rfl (by kernel_rfl)) rfl rfl ?_;refine bO rfl ?_;rw[List.cons_append,amu]at wY;have QA:=I3 wY [.cells (dT y).cells] (by rw[b1];exact b2) (by kernel_rfl) (λb h' hh=>hh.1);refine xS (k:=k) (x:=dT y) rfl rfl (by kernel_rfl) (by kernel_rfl) rfl rfl ?_;refine QA.mono λb h' hh=> ?_;obtain⟨h3,⟨⟨r1,r3⟩,r4⟩,rfl⟩:=hh;refine bO rfl ?_;refine cN (x:= .d (.v (.bool (!b)))) (by kernel_rfl) rfl rfl ?_;refine aM ?_;have u1:h3.length=h.length:=by rw[r1,b1]
     have u2:h3.all (aq.aG h.length)=true:=by rw[b1]at r3;exact r3
     cases b with
     |false=>
      refine lS (by kernel_rfl) ?_;refine cU ?_
      repeat (first|(with_reducible refine cT ?_)|(with_reducible refine dS ?_))
      exact zl u1 u2 ⟨rfl,false,r4.1⟩
     |true=>
      refine lL (by kernel_rfl) ?_;refine ct ?_;refine dU ?_;refine aM ?_;simp only[cond_true]at r4;refine e9 ?_;refine bO rfl ?_;refine cN (x:= .d (.v (.int .i64 ((j+1:Nat):Int)))) (by
       show some ((.d (.v (.int .i64 (aE ((j:Int)+1)))):AV),HD.same)=_;have:=cC nv rfl ahM;unfold ar at this;rw[this]) rfl rfl ?_
      refine bO rfl ?_;refine cN (x:= .d (.v (.int .i64 ((j+1:Nat):Int)))) (by kernel_rfl) rfl rfl ?_;refine aM ?_;refine⟨?_,(j+1,r2,h3),?_,⟨jR nv,⟨u1,u2⟩,r4⟩,amR _⟩
      ·rw[<-u1];exact zd _ (by rw[u1];exact u2) (by
         show(((AV.cp k).bz h3.length).aG h3.length&&(true&&(true&&(true&&(true&&(true&&(true&&true)))))))=true;rw[u1,AY hk];rfl)
      ·rw[<-u1];exact yn _ (by rw[u1];exact u2)
theorem afx(v1:ay):ga Tryz.prog 89 [(aD v1)] (·= .fn 149 [.bp [eH v1] 0 0]):=by
 refine K5 (r:= .fn 149 [(.ptr 0 0)]) (h:=[.cells (aD v1).cells]) ?_ (by kernel_rfl) rfl;refine qn 1 Tryz.func89 rfl (by kernel_rfl) (amd rfl) ?_;refine mq (s':=⟨4,[(0,(aD v1))],[]⟩) (by kernel_rfl) ?_;refine au ?_;refine rg [] [(1,(.ptr 0 0))] [.cells (aD v1).cells] (by kernel_rfl) ?_;refine au ?_;refine rg [] [(2,(.fn 149 [(.ptr 0 0)]))] [.cells (aD v1).cells] (by kernel_rfl) ?_;refine cU ?_;exact jj (by kernel_rfl)
theorem aa1(v1:ay):ga Tryz.prog 155 [(aD v1)] (·= .fn 235 [.bp [eH v1] 0 0]):=by
 refine K5 (r:= .fn 235 [(.ptr 0 0)]) (h:=[.cells (aD v1).cells]) ?_ (by kernel_rfl) rfl;refine qn 1 Tryz.func155 rfl (by kernel_rfl) (amd rfl) ?_;refine mq (s':=⟨4,[(0,(aD v1))],[]⟩) (by kernel_rfl) ?_;refine au ?_;refine rg [] [(1,(.ptr 0 0))] [.cells (aD v1).cells] (by kernel_rfl) ?_;refine au ?_;refine rg [] [(2,(.fn 235 [(.ptr 0 0)]))] [.cells (aD v1).cells] (by kernel_rfl) ?_;refine cU ?_;exact jj (by kernel_rfl)
end Go.Proofs.YtnnapanbbbcalaaGreatDoor
namespace Go.Proofs.YtnnapanbbbcalaaGreatDoor
open Go.RowKit Go.Shelf
set_option maxRecDepth 100000
def alw:Ren where
 f:=fun
  |157=>307
  |229=>322
  |199=>323
  |261=>330
  |311=>332
  |312=>333
  |n=>n
 t:=fun
  |9=>9
  |31=>22
  |3=>3
  |5=>5
  |4=>4
  |119=>303
  |0=>0
  |40=>260
  |152=>312
  |21=>21
  |154=>314
  |51=>300
  |141=>316
  |196=>323
  |193=>320
  |198=>326
  |49=>324
  |194=>321
  |201=>329
  |226=>331
  |46=>250
  |227=>332
  |n=>n
 g:=fun
  |0=>0
  |6=>1
  |n=>n
def ng:amT amU:=[bs [115,105,122,101],bs [119,104,101,114,101],bs [105,110],bs [100,101,102],bs [111,117,116],bs [115,117,109],bs [112,114,111,100],bs [109,105,110],bs [109,97,120],bs [115,99,97,110],bs [111,118,101,114],bs [105,102],bs [99,97,115,116],bs [102,114,97,99],bs [105,110,116],bs [102,105,120],bs [99,101,105,108],bs [102,108,111,111,114],bs [122,101,114,111],bs [101,118,101,110],bs [115,97,116],bs [119,114,97,112]]
theorem aan:Lays.n157 Tryz.prog alw:=by
 constructor<;>first|kernel_rfl|(intro w;rfl)
def EE:amU:=⟨#[115,105,122,101,32,119,104,101,114,101,32,105,110,32,100,101,102,32,111,117,116,32,115,117,109,32,112,114,111,100,32,109,105,110,32,109,97,120,32,115,99,97,110,32,111,118,101,114,32,105,102,32,99,97,115,116,32,102,114,97,99,32,105,110,116,32,102,105,120,32,99,101,105,108,32,102,108,111,111,114,32,122,101,114,111,32,101,118,101,110,32,115,97,116,32,119,114,97,112]⟩
theorem abF(w:amY)(hT:∀c:Nat,c<256->w.cell? ⟨0,c,none⟩=some (.int .u8 (if Lib.isSp (UInt8.ofNat c)then 1 else 0))):
 Calls Tryz.prog 307 #[.string EE] w λe w'=>e= .returned (.slice (some ⟨w.heap.size,0,none⟩) 22 22)/\w'=w.alloc (.cells (ng.map Value.string).toArray 9):=by
 have ha:(EE.data.toList.all λb=>decide (b.toNat<128))=true:=by kernel_rfl
 have h:=Any.strings_Fields_core aan (by kernel_rfl) EE w (of_decide_eq_true (by kernel_rfl)) (λj b hb=>of_decide_eq_true (amv.1 ha b (ami hb))) hT;have e1:(Lib.fields EE.data.toList).length=22:=by kernel_rfl
 have e2:((Lib.fields EE.data.toList).map λl=>Value.string ⟨l.toArray⟩)=ng.map Value.string:=by kernel_rfl
 rw[e1,e2]at h;exact h
theorem aiO(w:amY)(hT:∀c:Nat,c<256->w.cell? ⟨0,c,none⟩=some (.int .u8 (if Lib.isSp (UInt8.ofNat c)then 1 else 0))):
 Calls Tryz.prog 285 #[] w λe w'=>e= .returned (.slice (some ⟨w.heap.size,0,none⟩) 22 22)/\w'=w.alloc (.cells (ng.map Value.string).toArray 9):=by
 go_enter Tryz.func285,Tryz.ntmps285
 go_wp2_with (go_at_call 307;refine(abF _ hT).mono ?_;rintro e w' ⟨rfl,rfl⟩)
 go_ret
 exact⟨rfl,rfl⟩
theorem ai8:∀c:Nat,c<256->(ve DE)[c]?=some (.int .u8 (if Lib.isSp (UInt8.ofNat c)then 1 else 0)):=λc hc=>by
 rw[show ve DE=(List.range 256).map λc=>Value.int .u8 (if Lib.isSp (UInt8.ofNat c)then 1 else 0) by kernel_rfl,amc,List.getElem?_range hc];rfl
theorem ajT:ga Tryz.prog 285 [] (·= .d (.sl (ee ng))):=by
 refine⟨by kernel_rfl,λG w vs hi hl hr=> ?_⟩;obtain rfl:vs= #[]:=Array.size_eq_zero_iff.1 hl;refine(aiO w λc hc=> ?_).mono λe w' hp=> ?_
 ·exact(hi.gl.1 0 (ve DE) amb c _ (ai8 c hc)).2
 ·obtain⟨rfl,rfl⟩:=hp;obtain⟨i1,i2⟩:=QK hi (.cells (ng.map Value.string).toArray 9) 22;have vi:Rd (G.uw w.heap.size 22).S (w.alloc (.cells (ng.map Value.string).toArray 9)) 1 (ee ng) (ng.map Value.string):=
   ⟨rfl,λx hx=>(by obtain⟨y,_,rfl⟩:=List.mem_map.1 hx;rfl),λu hu=>(by obtain⟨y,_,rfl⟩:=List.mem_map.1 hu;rfl),λi j x d hx hd=>by
    rw[nt,amc]at hx;cases hk:ng[i]? with
    |none=>rw[hk]at hx;cases hx
    |some y=>
     rw[hk]at hx;cases hx;cases j with
     |zero=>cases hd;exact⟨.string y,by rw[Nat.mul_one,Nat.add_zero,amc,hk];rfl, .v _⟩
     |succ j=>cases hd⟩
  have hp:=vi.Bz w.heap.size 22 (by decide) (by decide) (λo ho=> .inr ⟨rfl,ho⟩) (λo u hu=>by
   rw[World.cell?_alloc_new,List.getElem?_toArray];exact hu)
  exact⟨_,_,_,_,rfl,i1,amg _,i2, .d hp,rfl,rfl⟩
end Go.Proofs.YtnnapanbbbcalaaGreatDoor
namespace Go.Proofs.YtnnapanbbbcalaaGreatDoor
open Go.RowKit
set_option maxRecDepth 1000000
end Go.Proofs.YtnnapanbbbcalaaGreatDoor
