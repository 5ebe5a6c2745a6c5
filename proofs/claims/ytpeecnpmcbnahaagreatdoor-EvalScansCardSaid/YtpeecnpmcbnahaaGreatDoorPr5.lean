/-
  Part 5 of the proof: AbsDat, IterE, KwS, AbsKern.
-/
import Derived.Test.YtpeecnpmcbnahaaGreatDoorPr4
import Derived.Test.YtpeecnpmcbnahaaGreatDoorProg
import Derived.WalkKit
import Derived.Shelf.Strings.Fields
import Derived.KernelRfl
namespace Go.Proofs.YtpeecnpmcbnahaaGreatDoor
open Go.RowKit
set_option linter.unusedVariables false
def iv(x:an4):an3 D:=[.v (.string x)]
def dQ(l:an3 an4):an3 (an3 D):=l.map iv
theorem nC(l:an3 an4):dQ l=l.map iv:=rfl
theorem kR{l:an3 an4}:(dQ l).length=l.length:=by rw[nC,anj]
theorem su{l:an3 an4}{k:Nat}{x:an4}(h:l[k]?=some x):(dQ l)[k]?=some (iv x):=by rw[nC,anl,h];rfl
theorem aib{a b:an3 an4}:dQ a++dQ b=dQ (a++b):=by rw[nC,nC,nC,List.map_append]
theorem Ik{l:an3 an4}:∀c∈dQ l,c.length=1:=by
 intro c hc;rw[nC]at hc;obtain⟨x,_,rfl⟩:=List.mem_map.1 hc;rfl
theorem aid{l:an3 an4}{k n:Nat}:((dQ l).take n).drop k=dQ ((l.take n).drop k):=by rw[nC,nC,List.map_drop,List.map_take]
def eu(x:Int):an3 D:=[.v (.int .i64 x)]
def bu(l:an3 Int):an3 (an3 D):=l.map eu
theorem od(l:an3 Int):bu l=l.map eu:=rfl
theorem dInts_len{l:an3 Int}:(bu l).length=l.length:=by rw[od,anj]
theorem ko{l:an3 Int}{k:Nat}{x:Int}(h:l[k]?=some x):(bu l)[k]?=some (eu x):=by rw[od,anl,h];rfl
theorem afq{a b:an3 Int}:bu a++bu b=bu (a++b):=by rw[od,od,od,List.map_append]
theorem Cs{l:an3 Int}:∀c∈bu l,c.length=1:=by
 intro c hc;rw[od]at hc;obtain⟨x,_,rfl⟩:=List.mem_map.1 hc;rfl
structure c8 where
 au:ByteArray
 eF:Int64
def Nn(x:c8):an3 D:=[.v (.string x.au), .v (.int .i64 x.eF.toInt)]
def rQ(x:c8):AV:= .agg [.d (.v (.string x.au)), .d (.v (.int .i64 x.eF.toInt))]
structure aF where
 bk:Int
 bX:Int
 bS:Int
 ct:Int
 cu:Int
def M4(x:aF):an3 D:=[.v (.int .i64 x.bk), .v (.int .i64 x.bX), .v (.int .i64 x.bS), .v (.int .i64 x.ct), .v (.int .i64 x.cu)]
def cr(x:aF):AV:= .agg [.d (.v (.int .i64 x.bk)), .d (.v (.int .i64 x.bX)), .d (.v (.int .i64 x.bS)), .d (.v (.int .i64 x.ct)), .d (.v (.int .i64 x.cu))]
structure ax where
 xN:Int64
 xD:Int64
def AQ(x:ax):an3 D:=[.v (.int .i64 x.xN.toInt), .v (.int .i64 x.xD.toInt)]
def bp(x:ax):AV:= .agg [.d (.v (.int .i64 x.xN.toInt)), .d (.v (.int .i64 x.xD.toInt))]
structure aL where
 au:ByteArray
 dF:Int64
def LC(x:aL):an3 D:=[.v (.string x.au), .v (.int .i64 x.dF.toInt)]
def JF(x:aL):AV:= .agg [.d (.v (.string x.au)), .d (.v (.int .i64 x.dF.toInt))]
structure eV where
 gW:ax
 fv:aF
def dA(x:eV):AV:= .agg [.d (.v (.int .i64 x.gW.xN.toInt)), .d (.v (.int .i64 x.gW.xD.toInt)), .d (.v (.int .i64 x.fv.bk)), .d (.v (.int .i64 x.fv.bX)), .d (.v (.int .i64 x.fv.bS)), .d (.v (.int .i64 x.fv.ct)), .d (.v (.int .i64 x.fv.cu))]
structure jL where
 nF:Int
 ln:Int
 j6:Int
def Ej(x:jL):AV:= .agg [.d (.v (.int .u64 x.nF)), .d (.v (.int .u64 x.ln)), .d (.v (.int .u64 x.j6))]
structure dw where
 fx:Int
 fM:Int
 gi:Int
 gj:Int
 gn:Int
 gp:Int
def gr(l:an3 c8):an3 (an3 D):=l.map Nn
theorem zy(l:an3 c8):gr l=l.map Nn:=rfl
theorem uU{l:an3 c8}:(gr l).length=l.length:=by rw[zy,anj]
theorem Ed{l:an3 c8}{k:Nat}{x:c8}(h:l[k]?=some x):(gr l)[k]?=some (Nn x):=by rw[zy,anl,h];rfl
theorem akg{a b:an3 c8}:gr a++gr b=gr (a++b):=by rw[zy,zy,zy,List.map_append]
theorem Yq{l:an3 c8}:∀c∈gr l,c.length=2:=by
 intro c hc;rw[zy]at hc;obtain⟨x,_,rfl⟩:=List.mem_map.1 hc;rfl
def aT(l:an3 aL):an3 (an3 D):=l.map LC
theorem BA(l:an3 aL):aT l=l.map LC:=rfl
theorem GK{l:an3 aL}:(aT l).length=l.length:=by rw[BA,anj]
theorem FE{l:an3 aL}{k:Nat}{x:aL}(h:l[k]?=some x):(aT l)[k]?=some (LC x):=by rw[BA,anl,h];rfl
theorem akj{a b:an3 aL}:aT a++aT b=aT (a++b):=by rw[BA,BA,BA,List.map_append]
theorem alA{l:an3 aL}:∀c∈aT l,c.length=2:=by
 intro c hc;rw[BA]at hc;obtain⟨x,_,rfl⟩:=List.mem_map.1 hc;rfl
def dy(l:an3 ax):an3 (an3 D):=l.map AQ
theorem sR(l:an3 ax):dy l=l.map AQ:=rfl
theorem iD{l:an3 ax}:(dy l).length=l.length:=by rw[sR,anj]
theorem mP{l:an3 ax}{k:Nat}{x:ax}(h:l[k]?=some x):(dy l)[k]?=some (AQ x):=by rw[sR,anl,h];rfl
theorem afi{a b:an3 ax}:dy a++dy b=dy (a++b):=by rw[sR,sR,sR,List.map_append]
theorem Mf{l:an3 ax}:∀c∈dy l,c.length=2:=by
 intro c hc;rw[sR]at hc;obtain⟨x,_,rfl⟩:=List.mem_map.1 hc;rfl
theorem aj0{l:an3 ax}{k:Nat}:(dy l).drop k=dy (l.drop k):=by rw[sR,sR,List.map_drop]
def ou(l:an3 aF):an3 (an3 D):=l.map M4
theorem AA(l:an3 aF):ou l=l.map M4:=rfl
theorem ami{l:an3 aF}:(ou l).length=l.length:=by rw[AA,anj]
theorem rS{l:an3 aF}{k:Nat}{x:aF}(h:l[k]?=some x):(ou l)[k]?=some (M4 x):=by rw[AA,anl,h];rfl
theorem akm{a b:an3 aF}:ou a++ou b=ou (a++b):=by rw[AA,AA,AA,List.map_append]
theorem aju{l:an3 aF}:∀c∈ou l,c.length=5:=by
 intro c hc;rw[AA]at hc;obtain⟨x,_,rfl⟩:=List.mem_map.1 hc;rfl
structure bj where
 xK:Int64
 xL:List c8
def O3(x:bj):an3 D:=[.v (.int .i64 x.xK.toInt), .sl (gr x.xL)]
def dZ(x:bj):AV:= .agg [.d (.v (.int .i64 x.xK.toInt)), .d (.sl (gr x.xL))]
structure gL where
 bq:bj
 DW:Bool
def P2(x:gL):an3 D:=[.v (.int .i64 x.bq.xK.toInt), .sl (gr x.bq.xL), .v (.bool x.DW)]
def vu(x:gL):AV:= .agg [.d (.v (.int .i64 x.bq.xK.toInt)), .d (.sl (gr x.bq.xL)), .d (.v (.bool x.DW))]
structure dh where
 au:ByteArray
 dH:bj
def MQ(x:dh):an3 D:=[.v (.string x.au), .v (.int .i64 x.dH.xK.toInt), .sl (gr x.dH.xL)]
def aab(x:dh):AV:= .agg [.d (.v (.string x.au)), .d (.v (.int .i64 x.dH.xK.toInt)), .d (.sl (gr x.dH.xL))]
structure aR where
 aB:aF
 aU:List Int
 dJ:List ax
def bR(x:aR):an3 D:=[.v (.int .i64 x.aB.bk), .v (.int .i64 x.aB.bX), .v (.int .i64 x.aB.bS), .v (.int .i64 x.aB.ct), .v (.int .i64 x.aB.cu), .sl (bu x.aU), .sl (dy x.dJ)]
def jF(x:aR):AV:= .agg [.d (.v (.int .i64 x.aB.bk)), .d (.v (.int .i64 x.aB.bX)), .d (.v (.int .i64 x.aB.bS)), .d (.v (.int .i64 x.aB.ct)), .d (.v (.int .i64 x.aB.cu)), .d (.sl (bu x.aU)), .d (.sl (dy x.dJ))]
structure aJ where
 au:ByteArray
 dY:aR
def OZ(x:aJ):an3 D:=[.v (.string x.au), .v (.int .i64 x.dY.aB.bk), .v (.int .i64 x.dY.aB.bX), .v (.int .i64 x.dY.aB.bS), .v (.int .i64 x.dY.aB.ct), .v (.int .i64 x.dY.aB.cu), .sl (bu x.dY.aU), .sl (dy x.dY.dJ)]
def VV(x:aJ):AV:= .agg [.d (.v (.string x.au)), .d (.v (.int .i64 x.dY.aB.bk)), .d (.v (.int .i64 x.dY.aB.bX)), .d (.v (.int .i64 x.dY.aB.bS)), .d (.v (.int .i64 x.dY.aB.ct)), .d (.v (.int .i64 x.dY.aB.cu)), .d (.sl (bu x.dY.aU)), .d (.sl (dy x.dY.dJ))]
def oe(l:an3 gL):an3 (an3 D):=l.map P2
theorem zM(l:an3 gL):oe l=l.map P2:=rfl
theorem Jp{l:an3 gL}:(oe l).length=l.length:=by rw[zM,anj]
theorem Zt{l:an3 gL}{k:Nat}{x:gL}(h:l[k]?=some x):(oe l)[k]?=some (P2 x):=by rw[zM,anl,h];rfl
theorem aeQ{a b:an3 gL}:oe a++oe b=oe (a++b):=by rw[zM,zM,zM,List.map_append]
theorem amR{l:an3 gL}:∀c∈oe l,c.length=3:=by
 intro c hc;rw[zM]at hc;obtain⟨x,_,rfl⟩:=List.mem_map.1 hc;rfl
def gC(l:an3 bj):an3 (an3 D):=l.map O3
theorem zl(l:an3 bj):gC l=l.map O3:=rfl
theorem lY{l:an3 bj}:(gC l).length=l.length:=by rw[zl,anj]
theorem yd{l:an3 bj}{k:Nat}{x:bj}(h:l[k]?=some x):(gC l)[k]?=some (O3 x):=by rw[zl,anl,h];rfl
theorem adr{a b:an3 bj}:gC a++gC b=gC (a++b):=by rw[zl,zl,zl,List.map_append]
theorem acL{l:an3 bj}:∀c∈gC l,c.length=2:=by
 intro c hc;rw[zl]at hc;obtain⟨x,_,rfl⟩:=List.mem_map.1 hc;rfl
def iV(l:an3 dh):an3 (an3 D):=l.map MQ
theorem AD(l:an3 dh):iV l=l.map MQ:=rfl
theorem nB{l:an3 dh}:(iV l).length=l.length:=by rw[AD,anj]
theorem EO{l:an3 dh}{k:Nat}{x:dh}(h:l[k]?=some x):(iV l)[k]?=some (MQ x):=by rw[AD,anl,h];rfl
theorem ae9{a b:an3 dh}:iV a++iV b=iV (a++b):=by rw[AD,AD,AD,List.map_append]
theorem ae6{l:an3 dh}:∀c∈iV l,c.length=3:=by
 intro c hc;rw[AD]at hc;obtain⟨x,_,rfl⟩:=List.mem_map.1 hc;rfl
def aY(l:an3 aJ):an3 (an3 D):=l.map OZ
theorem BB(l:an3 aJ):aY l=l.map OZ:=rfl
theorem FG{l:an3 aJ}:(aY l).length=l.length:=by rw[BB,anj]
theorem wB{l:an3 aJ}{k:Nat}{x:aJ}(h:l[k]?=some x):(aY l)[k]?=some (OZ x):=by rw[BB,anl,h];rfl
theorem ag1{a b:an3 aJ}:aY a++aY b=aY (a++b):=by rw[BB,BB,BB,List.map_append]
theorem ag5{l:an3 aJ}:∀c∈aY l,c.length=8:=by
 intro c hc;rw[BB]at hc;obtain⟨x,_,rfl⟩:=List.mem_map.1 hc;rfl
def N1(x:an3 dh):an3 D:=[.sl (iV x)]
def oB(l:an3 (an3 dh)):an3 (an3 D):=l.map N1
theorem yu(l:an3 (an3 dh)):oB l=l.map N1:=rfl
theorem Re{l:an3 (an3 dh)}:(oB l).length=l.length:=by rw[yu,anj]
theorem Ya{l:an3 (an3 dh)}{k:Nat}{x:(an3 dh)}(h:l[k]?=some x):(oB l)[k]?=some (N1 x):=by rw[yu,anl,h];rfl
theorem alN{a b:an3 (an3 dh)}:oB a++oB b=oB (a++b):=by rw[yu,yu,yu,List.map_append]
theorem alJ{l:an3 (an3 dh)}:∀c∈oB l,c.length=1:=by
 intro c hc;rw[yu]at hc;obtain⟨x,_,rfl⟩:=List.mem_map.1 hc;rfl
structure eH where
 au:ByteArray
 aB:aF
 aU:List bj
def RE(x:eH):an3 D:=[.v (.string x.au), .v (.int .i64 x.aB.bk), .v (.int .i64 x.aB.bX), .v (.int .i64 x.aB.bS), .v (.int .i64 x.aB.ct), .v (.int .i64 x.aB.cu), .sl (gC x.aU)]
def pJ(x:eH):AV:= .agg [.d (.v (.string x.au)), .d (.v (.int .i64 x.aB.bk)), .d (.v (.int .i64 x.aB.bX)), .d (.v (.int .i64 x.aB.bS)), .d (.v (.int .i64 x.aB.ct)), .d (.v (.int .i64 x.aB.cu)), .d (.sl (gC x.aU))]
structure cC where
 bq:bj
 cG:ByteArray
 cM:List bj
def QQ(x:cC):an3 D:=[.v (.int .i64 x.bq.xK.toInt), .sl (gr x.bq.xL), .v (.string x.cG), .sl (gC x.cM)]
def aIndex(x:cC):AV:= .agg [.d (.v (.int .i64 x.bq.xK.toInt)), .d (.sl (gr x.bq.xL)), .d (.v (.string x.cG)), .d (.sl (gC x.cM))]
def kG(l:an3 eH):an3 (an3 D):=l.map RE
theorem yM(l:an3 eH):kG l=l.map RE:=rfl
theorem Aa{l:an3 eH}:(kG l).length=l.length:=by rw[yM,anj]
theorem Qw{l:an3 eH}{k:Nat}{x:eH}(h:l[k]?=some x):(kG l)[k]?=some (RE x):=by rw[yM,anl,h];rfl
theorem al8{a b:an3 eH}:kG a++kG b=kG (a++b):=by rw[yM,yM,yM,List.map_append]
theorem akU{l:an3 eH}:∀c∈kG l,c.length=7:=by
 intro c hc;rw[yM]at hc;obtain⟨x,_,rfl⟩:=List.mem_map.1 hc;rfl
def eO(l:an3 cC):an3 (an3 D):=l.map QQ
theorem AO(l:an3 cC):eO l=l.map QQ:=rfl
theorem lZ{l:an3 cC}:(eO l).length=l.length:=by rw[AO,anj]
theorem vw{l:an3 cC}{k:Nat}{x:cC}(h:l[k]?=some x):(eO l)[k]?=some (QQ x):=by rw[AO,anl,h];rfl
theorem afL{a b:an3 cC}:eO a++eO b=eO (a++b):=by rw[AO,AO,AO,List.map_append]
theorem adf{l:an3 cC}:∀c∈eO l,c.length=4:=by
 intro c hc;rw[AO]at hc;obtain⟨x,_,rfl⟩:=List.mem_map.1 hc;rfl
structure ar where
 ay:Int
 au:ByteArray
 dF:ax
 aB:aF
 bq:bj
 xIdx:List cC
 bM:List ar
mutual
def NU:ar->an3 D
 |⟨ay,au,dF,aB,bq,xIdx,bM⟩=>[.v (.int .i64 ay), .v (.string au), .v (.int .i64 dF.xN.toInt), .v (.int .i64 dF.xD.toInt), .v (.int .i64 aB.bk), .v (.int .i64 aB.bX), .v (.int .i64 aB.bS), .v (.int .i64 aB.ct), .v (.int .i64 aB.cu), .v (.int .i64 bq.xK.toInt), .sl (gr bq.xL), .sl (eO xIdx), .sl (iO bM)]
def iO:an3 ar->an3 (an3 D)
 |[]=>[]
 |x::l=>NU x::iO l
end
def fc(x:ar):an3 D:=[.v (.int .i64 x.ay), .v (.string x.au), .v (.int .i64 x.dF.xN.toInt), .v (.int .i64 x.dF.xD.toInt), .v (.int .i64 x.aB.bk), .v (.int .i64 x.aB.bX), .v (.int .i64 x.aB.bS), .v (.int .i64 x.aB.ct), .v (.int .i64 x.aB.cu), .v (.int .i64 x.bq.xK.toInt), .sl (gr x.bq.xL), .sl (eO x.xIdx), .sl (iO x.bM)]
theorem agH(x:ar):NU x=fc x:=by cases x;simp only[NU];rfl
theorem qI:∀l:an3 ar,iO l=l.map fc
 |[]=>by simp [iO]
 |x::l=>by simp [iO,agH,qI l]
theorem vY{l:an3 ar}:(iO l).length=l.length:=by rw[qI,anj]
theorem n6{l:an3 ar}{k:Nat}{x:ar}(h:l[k]?=some x):(iO l)[k]?=some (fc x):=by rw[qI,anl,h];rfl
theorem alH{a b:an3 ar}:iO a++iO b=iO (a++b):=by rw[qI,qI,qI,List.map_append]
theorem acn{l:an3 ar}:∀c∈iO l,c.length=13:=by
 intro c hc;rw[qI]at hc;obtain⟨x,_,rfl⟩:=List.mem_map.1 hc;rfl
def aM(x:ar):AV:= .agg [.d (.v (.int .i64 x.ay)), .d (.v (.string x.au)), .d (.v (.int .i64 x.dF.xN.toInt)), .d (.v (.int .i64 x.dF.xD.toInt)), .d (.v (.int .i64 x.aB.bk)), .d (.v (.int .i64 x.aB.bX)), .d (.v (.int .i64 x.aB.bS)), .d (.v (.int .i64 x.aB.ct)), .d (.v (.int .i64 x.aB.cu)), .d (.v (.int .i64 x.bq.xK.toInt)), .d (.sl (gr x.bq.xL)), .d (.sl (eO x.xIdx)), .d (.sl (iO x.bM))]
structure bx where
 au:ByteArray
 aB:aF
 aU:List dh
 bV:List dh
 c9:Int
 bO:ar
def Qd(x:bx):an3 D:=[.v (.string x.au), .v (.int .i64 x.aB.bk), .v (.int .i64 x.aB.bX), .v (.int .i64 x.aB.bS), .v (.int .i64 x.aB.ct), .v (.int .i64 x.aB.cu), .sl (iV x.aU), .sl (iV x.bV), .v (.int .i64 x.c9), .v (.int .i64 x.bO.ay), .v (.string x.bO.au), .v (.int .i64 x.bO.dF.xN.toInt), .v (.int .i64 x.bO.dF.xD.toInt), .v (.int .i64 x.bO.aB.bk), .v (.int .i64 x.bO.aB.bX), .v (.int .i64 x.bO.aB.bS), .v (.int .i64 x.bO.aB.ct), .v (.int .i64 x.bO.aB.cu), .v (.int .i64 x.bO.bq.xK.toInt), .sl (gr x.bO.bq.xL), .sl (eO x.bO.xIdx), .sl (iO x.bO.bM)]
def gg(x:bx):AV:= .agg [.d (.v (.string x.au)), .d (.v (.int .i64 x.aB.bk)), .d (.v (.int .i64 x.aB.bX)), .d (.v (.int .i64 x.aB.bS)), .d (.v (.int .i64 x.aB.ct)), .d (.v (.int .i64 x.aB.cu)), .d (.sl (iV x.aU)), .d (.sl (iV x.bV)), .d (.v (.int .i64 x.c9)), .d (.v (.int .i64 x.bO.ay)), .d (.v (.string x.bO.au)), .d (.v (.int .i64 x.bO.dF.xN.toInt)), .d (.v (.int .i64 x.bO.dF.xD.toInt)), .d (.v (.int .i64 x.bO.aB.bk)), .d (.v (.int .i64 x.bO.aB.bX)), .d (.v (.int .i64 x.bO.aB.bS)), .d (.v (.int .i64 x.bO.aB.ct)), .d (.v (.int .i64 x.bO.aB.cu)), .d (.v (.int .i64 x.bO.bq.xK.toInt)), .d (.sl (gr x.bO.bq.xL)), .d (.sl (eO x.bO.xIdx)), .d (.sl (iO x.bO.bM))]
def jc(l:an3 bx):an3 (an3 D):=l.map Qd
theorem uO(l:an3 bx):jc l=l.map Qd:=rfl
theorem xq{l:an3 bx}:(jc l).length=l.length:=by rw[uO,anj]
theorem Bf{l:an3 bx}{k:Nat}{x:bx}(h:l[k]?=some x):(jc l)[k]?=some (Qd x):=by rw[uO,anl,h];rfl
theorem aiL{a b:an3 bx}:jc a++jc b=jc (a++b):=by rw[uO,uO,uO,List.map_append]
theorem Ze{l:an3 bx}:∀c∈jc l,c.length=22:=by
 intro c hc;rw[uO]at hc;obtain⟨x,_,rfl⟩:=List.mem_map.1 hc;rfl
theorem al4{l:an3 bx}{k n:Nat}:((jc l).take n).drop k=jc ((l.take n).drop k):=by rw[uO,uO,List.map_drop,List.map_take]
structure aV where
 bn:List ByteArray
 dS:List gL
 aW:List eH
 aN:List bx
 du:List ByteArray
def fg(x:aV):AV:= .agg [.d (.sl (dQ x.bn)), .d (.sl (oe x.dS)), .d (.sl (kG x.aW)), .d (.sl (jc x.aN)), .d (.sl (dQ x.du))]
def dk(s:an4):AV:= .d (.v (.string s))
def aq(n:Int):AV:= .d (.v (.int .i64 n))
def bz(n:Int64):AV:= .d (.v (.int .i64 n.toInt))
def aK(b:Bool):AV:= .d (.v (.bool b))
abbrev aP(n:Int):Int:=IntKind.i64.wrap n
theorem Ap(a:Int):IntKind.i64.wrap a=a.bmod (2^64):=by
 rw[IntKind.wrap_i64,Int.bmod_def];omega
theorem kC(a:Int):aq (aP a)=bz (Int64.ofInt a):=by
 unfold aq bz aP;rw[Ap,Int64.toInt_ofInt]
theorem HQ(a b:Int64):aq (aP (a.toInt+b.toInt))=bz (a+b):=by
 unfold aq bz aP;rw[Ap,Int64.toInt_add]
theorem xx(a b:Int64):aq (aP (a.toInt-b.toInt))=bz (a-b):=by
 unfold aq bz aP;rw[Ap,Int64.toInt_sub]
theorem mi(a b:Int64):aq (aP (a.toInt*b.toInt))=bz (a*b):=by
 unfold aq bz aP;rw[Ap,Int64.toInt_mul]
theorem Hn(a:Int64):aq (aP (0-a.toInt))=bz (-a):=by
 unfold aq bz aP;rw[Ap,Int64.toInt_neg,Int.zero_sub]
theorem EN{a:Int}(h:aP a=a):aq a=bz (Int64.ofInt a):=by
 rw[<-kC,h]
theorem amG(a:Int)(m:Nat)(J: -9223372036854775808<=a)(h2:a<9223372036854775808): -9223372036854775808<=a.fdiv (2^m)/\a.fdiv (2^m)<9223372036854775808:=by
 have hp:(0:Int)<2^m:=Int.pow_pos (by decide);rw[Int.fdiv_eq_ediv_of_nonneg _ (Int.le_of_lt hp)];generalize (2:Int)^m=p at*;by_cases h:0<=a
 ·have h3:=Int.ediv_nonneg h (Int.le_of_lt hp);have h4:=Int.ediv_le_self p h;omega
 ·have h3:a / p<0:=Int.ediv_neg_of_neg_of_pos (by omega) hp;have h4:a<=a / p:=by
   refine(Int.le_ediv_iff_mul_le hp).2 ?_;have:=Int.mul_le_mul_of_nonpos_left (a:=a) (b:=p) (c:=1) (by omega) (by omega);omega
  omega
theorem Xd(a:Int64)(m:Nat):aq (a.toInt.fdiv (2^m))=bz (Int64.ofInt (a.toInt.fdiv (2^m))):=by
 refine EN ?_;have h:=amG a.toInt m (by have:=a.le_toInt;simpa using this) (by have:=a.toInt_lt;simpa using this);unfold aP;rw[IntKind.wrap_i64];omega
theorem aae(a:Int64)(b:Int):aq (a.toInt.tmod b)=bz (Int64.ofInt (a.toInt.tmod b)):=by
 refine EN ?_;unfold aP;rw[IntKind.wrap_i64];have J:=a.le_toInt;have h2:=a.toInt_lt;have h3:=Int.natAbs_tmod a.toInt b;have h4:(a.toInt.tmod b).natAbs<=a.toInt.natAbs:=by rw[h3];exact Nat.mod_le _ _
 have h7: -9223372036854775808<=a.toInt/\a.toInt<=9223372036854775807:=by omega
 clear J h2 h3;by_cases h5:0<=a.toInt
 ·have:=Int.tmod_nonneg b h5;generalize a.toInt.tmod b=x at*;omega
 ·have h6:=Int.tmod_nonneg b (show 0<=-a.toInt by omega);rw[Int.neg_tmod]at h6;generalize a.toInt.tmod b=x at*;omega
theorem cY{α:Type}{l:an3 α}{k:Nat}{x:α}{xs:an3 α}{n:Nat}(hd:l.drop k=x::xs)(hn:l.length=n)(hl:n<=maxLen):aq (aP ((k:Int)+1))=aq ((k+1:Nat):Int):=by
 have:(l.drop k).length=(x::xs).length:=by rw[hd]
 rw[List.length_drop,anh]at this;have J:k<maxLen:=by omega
 unfold maxLen at J;have e:IntKind.i64.wrap ((k:Int)+1)=((k+1:Nat):Int):=by rw[IntKind.wrap_i64];omega
 unfold aq aP;rw[e]
theorem cE{α:Type}{l:an3 α}{k:Nat}{x:α}{xs:an3 α}(hd:l.drop k=x::xs):l[k]?=some x:=by
 have:(l.drop k)[0]?=some x:=by rw[hd];rfl
 rwa [List.getElem?_drop]at this
theorem mB{α:Type}{l:an3 α}{k:Nat}{x:α}{xs:an3 α}(hd:l.drop k=x::xs):l.drop (k+1)=xs:=by
 rw[<-List.drop_drop,hd];rfl
theorem db{α:Type}{l:an3 α}{k:Nat}{x:α}{xs:an3 α}(hd:l.drop k=x::xs):decide ((k:Int)<(l.length:Int))=true:=by
 have:(l.drop k).length=(x::xs).length:=by rw[hd]
 rw[List.length_drop,anh]at this;exact anW (by omega)
theorem da{α:Type}{l:an3 α}{k:Nat}(hd:l.drop k=[]):decide ((k:Int)<(l.length:Int))=false:=by
 have:=List.drop_eq_nil_iff.1 hd;exact anX (by omega)
theorem mL{n cN:Nat}(h:Nat.ble (n*cN) 140737488355328=true)(hb:1<=cN):n<=maxLen/\n*cN<=140737488355328:=by
 have h:=anm h;refine⟨?_,h⟩;unfold maxLen;have:=Nat.le_mul_of_pos_right n hb;omega
theorem bW:Tryz.prog.follows .mixedOrders=true:=by kernel_rfl
set_option maxRecDepth 100000
set_option maxHeartbeats 0
def Ew(a b:Int64):Int64:=if b.toInt>a.toInt then b else a
theorem aff(a b:Int64):(if b.toInt>a.toInt then b.toInt else a.toInt)=(Ew a b).toInt:=by unfold Ew;split<;>rfl
mutual
def Om:ar->an3 ar
 |⟨o,n,v,t,l,i,xs⟩=>⟨o,n,v,t,l,i,xs⟩::mw xs
def mw:an3 ar->an3 ar
 |[]=>[]
 |x::l=>Om x++mw l
end
def dB(e:ar):an3 ar:=e::mw e.bM
theorem adg(e:ar):Om e=dB e:=by cases e;simp only[Om];rfl
theorem BG(x:ar)(l:an3 ar):mw (x::l)=dB x++mw l:=by rw[mw,adg]
theorem Dl{P:an6}{k:Nat}:∀(l:an3 AV){C:Bool->an3 ao->Prop}{h:an3 ao},h.all (ao.aC h.length)=true->lz P k l C h->lz P k l (λb J=>C b J/\nY h J) h
 |[],_,_,hl,hs=>⟨hs,rfl,hl⟩
 |x::l,C,h,hl,hs=>YS.mono hs λb J ⟨h2,h3⟩=>⟨h2,by
  cases b with
  |true=>exact TA l (λb h4 ⟨h5,h6,h7⟩=>⟨h5,by rw[h6,h2.1],by rw[h2.1]at h7;exact h7⟩) (Dl l (by rw[h2.1];exact h2.2) h3)
  |false=>exact⟨h3,h2⟩⟩
def JU(e:ar):Prop:=∀(k:Nat)(h:an3 ao)(C:Bool->an3 ao->Prop),h.all (ao.aC h.length)=true->k<h.length->lz Tryz.prog k ((dB e).map aM) C h->cF Tryz.prog 102 [aM e, .cg k] h λr J=>∃b,r= .d (.v (.bool b))/\C b J/\nY h J
theorem M7{P:an6}{fn:Func}{n:Nat}{t:an3 (Nat×AV)}{H J l:an3 ao}{K:AV->an3 ao->Prop}(k1:J.length=H.length)(k2:J.all (ao.aC H.length)=true)(hr:mS P ⟨n,t,J++l⟩ fn.results.toList λrs=>((jX rs).bo J.length).aC J.length=true/\K ((jX rs).bo J.length) J):qy P fn H.length K ⟨n,t,J++l⟩:=by
 rw[<-k1]at k2 ⊢;exact acu k2 hr
theorem Bm{P:an6}{fn:Func}{n:Nat}{t:an3 (Nat×AV)}{H J l:an3 ao}{K:AV->an3 ao->Prop}(k1:J.length=H.length)(k2:J.all (ao.aC H.length)=true)(hr:mS P ⟨n,t,J++l⟩ fn.results.toList λrs=>((jX rs).bo J.length).aC J.length=true/\K ((jX rs).bo J.length) J):Ja P fn H.length K .ret ⟨n,t,J++l⟩:=M7 k1 k2 hr
theorem aev(e:ar)(rG:∀x∈e.bM,JU x):JU e:=by
 intro k h C j7 hk hs;refine uR h.length Tryz.func102 rfl (by kernel_rfl) (anp _) ?_
 suffices hA:bw Tryz.prog none h.length _ _ ⟨23,[(0,aM e),(1, .cg k)],h++[]⟩ by rw[anA]at hA;exact hA
 repeat refine aA ?_
 refine eW ?_;refine bG rfl ?_;refine Ab (S0 (l:=[]) (v:=aM e) rfl (by kernel_rfl)) rfl rfl EG ?_;refine bG rfl ?_;refine cy (x:= .d (.v (.bool false))) (by kernel_rfl) rfl rfl ?_;refine bC ?_
 repeat refine aA ?_
 refine eW ?_;refine bG rfl ?_;refine cy (x:= .cg k) (by kernel_rfl) rfl rfl ?_;refine bG rfl ?_;refine cy (vo (i:=0) (off:=0) (l:=[]++[.cells (aM e).cells]) (x:=aM e) (by kernel_rfl) rfl (by kernel_rfl)) rfl rfl ?_;refine bG rfl ?_;rw[dB,anE]at hs;have hy:=Lg (Dl (aM e::_) j7 hs) [.cells (aM e).cells] j7 (by kernel_rfl) (λb h' hh=>hh.1);refine yN (k:=k) (x:=aM e) rfl rfl (by kernel_rfl) (by kernel_rfl) rfl rfl ?_;refine hy.mono λb h' hh=> ?_;obtain⟨J,⟨⟨k1,k2⟩,k3⟩,rfl⟩:=hh;refine bG rfl ?_;refine cy (x:= .d (.v (.bool (!b)))) (by kernel_rfl) rfl rfl ?_;refine bC ?_;cases b with
 |false=>
  refine lM (by kernel_rfl) ?_
  repeat refine aA ?_
  refine eW ?_;refine bG rfl ?_;refine cy (x:= .d (.v (.bool false))) (by kernel_rfl) rfl rfl ?_;refine bC ?_;refine cQ (cZ ?_);refine Bm k1 k2 ?_;exact⟨rfl,false,rfl,k3⟩
 |true=>
  refine lA (by kernel_rfl) ?_;refine dt ?_;refine bC ?_;simp only[cond_true]at k3
  repeat refine aA ?_
  refine eW ?_;refine bG rfl ?_;refine cy (x:= .ptr (h.length+0) 12) (by kernel_rfl) rfl rfl ?_;refine bG rfl ?_;refine cy (vo (h:=J) (i:=0) (off:=12) (l:=[.cells (aM e).cells]) (x:= .d (.sl (iO e.bM))) (by rw[k1];rfl) rfl (by kernel_rfl)) rfl rfl ?_;refine bG rfl ?_;refine cy (x:= .d (.v (.int .i64 (iO e.bM).length))) (by kernel_rfl) rfl rfl ?_;refine bG rfl ?_;refine cy (x:= .d (.v (.int .i64 0))) (by kernel_rfl) rfl rfl ?_;refine bC ?_;refine xV 12 (iO e.bM) (by kernel_rfl) λbN=> ?_;have qd:e.bM.length<=maxLen:=by rw[<-vY];exact Js bN
  rw[vY]
  repeat refine aA ?_
  refine fV ?_;refine Ju (ι:=Nat×an3 ar×an3 ao) [1,12,13,14] h.length (λi=>⟨23,[(1, .cg k),(12, .d (.sl (iO e.bM))),(13, .d (.v (.int .i64 e.bM.length))),(14, .d (.v (.int .i64 i.1)))],i.2.2⟩)
   (λi=>e.bM.drop i.1=i.2.1/\nY h i.2.2/\lz Tryz.prog k ((mw i.2.1).map aM) (λb h2=>C b h2/\nY h h2) i.2.2) (λi=>i.2.1.length) (0,e.bM,J) (anp _) ?_ ?_ ⟨rfl,⟨k1,k2⟩,k3⟩ ?_
  ·rw[<-k1];exact AM _ (by rw[k1];exact k2) (by
     show(((AV.cg k).bo J.length).aC J.length&&(true&&(true&&(true&&true))))=true;rw[k1];simp [AV.bo,AV.aC,cf];omega)
  ·rw[<-k1];exact zf _ (by rw[k1];exact k2)
  rintro⟨i,rest,hc⟩ ⟨hd,⟨c1,c2⟩,jf⟩;simp only at hd c1 c2 jf ⊢
  repeat refine aA ?_
  refine eW ?_;refine bG rfl ?_;refine cy (x:= .d (.v (.bool (decide ((i:Int)<(e.bM.length:Int)))))) (by kernel_rfl) rfl rfl ?_;refine bC ?_;refine aA ?_;cases rest with
  |nil=>
   rw[da hd];refine lA (by kernel_rfl) ?_;refine nT (kZ (kZ (qm rfl ?_)));refine bC ?_
   repeat refine aA ?_
   refine eW ?_;refine bG rfl ?_;rw[<-anA hc];refine cy (x:= .d (.v (.bool true))) (by kernel_rfl) rfl rfl ?_;refine bC ?_;refine cQ ?_;refine Bm c1 c2 ?_;rw[mw,List.map_nil]at jf;exact⟨rfl,true,rfl,jf⟩
  |cons x rest=>
   rw[db hd];refine lM (by kernel_rfl) ?_;refine dt ?_;refine bC ?_
   repeat refine aA ?_
   refine fV ?_
   repeat refine aA ?_
   refine eW ?_;refine bG rfl ?_;rw[<-anA hc];refine cy (Q2 (q:=i) (e:=61) (k:=13) rfl rfl (by kernel_rfl) (n6 (cE hd)) rfl) rfl rfl ?_;refine bG rfl ?_;refine cy (x:=aM x) (by kernel_rfl) rfl rfl ?_;refine bG rfl ?_;refine Ab (NW (l:=[]) (by kernel_rfl)) rfl rfl EG ?_;refine bG rfl ?_;refine Np (P3 (i:=0) (off:=0) (k:=13) (l:=[_]) (v:=aM x) (cw:=(aM x).cells) (by kernel_rfl) rfl (by kernel_rfl) rfl (by kernel_rfl) (by kernel_rfl)) rfl QE ?_;refine bC ?_
   repeat refine aA ?_
   refine eW ?_;refine bG rfl ?_;refine cy (vo (i:=0) (off:=0) (l:=[.cells (aM x).cells]) (x:=aM x) (by kernel_rfl) rfl (by kernel_rfl)) rfl rfl ?_;refine bG rfl ?_;refine cy (x:= .cg k) (by kernel_rfl) rfl rfl ?_;refine bG rfl ?_;rw[BG,List.map_append]at jf;have vV:=Z7 _ _ jf;have hw:=rG x (anr (cE hd)) k hc _ (by rw[c1];exact c2) (by rw[c1];exact hk) vV;have QP:=ad2 hw [.cells (aM x).cells] (by rw[c1];exact c2) (by
    rw[c1];show((aM x).aC h.length&&((AV.cg k).aC h.length&&true))=true;rw[show(aM x).aC h.length=true by kernel_rfl];simp [AV.aC,cf];omega) (λr h' hh=>by
    obtain⟨b,rfl,_,q1,q2⟩:=hh;exact⟨q1,q2,rfl⟩)
   refine El (g:=102) (cT:=[]) rfl rfl rfl ?_;refine QP.mono λr h' hh=> ?_;obtain⟨h2,⟨b,rfl,q0,q1,q2⟩,rfl⟩:=hh;refine bG rfl ?_;refine cy (x:= .d (.v (.bool (!b)))) (by kernel_rfl) rfl rfl ?_;refine bC ?_;cases b with
   |false=>
    refine lM (by kernel_rfl) ?_
    repeat refine aA ?_
    refine eW ?_;refine bG rfl ?_;refine cy (x:= .d (.v (.bool false))) (by kernel_rfl) rfl rfl ?_;refine bC ?_;refine cQ (fe (cZ (cZ (fe (cZ ?_)))));refine Bm (J:=h2) (by rw[q1,c1]) (by rw[c1]at q2;exact q2) ?_;exact⟨rfl,false,rfl,q0⟩
   |true=>
    refine lA (by kernel_rfl) ?_;refine dt ?_;refine iM ?_;refine bC ?_;simp only[cond_true]at q0;refine eW ?_;refine bG rfl ?_;refine cy (x:= .d (.v (.int .i64 ((i+1:Nat):Int)))) (by
     show some ((.d (.v (.int .i64 (aP ((i:Int)+1)))):AV),HD.same)=_;have:=cY hd rfl qd;unfold aq at this;rw[this]) rfl rfl ?_
    refine bG rfl ?_;refine cy (x:= .d (.v (.int .i64 ((i+1:Nat):Int)))) (by kernel_rfl) rfl rfl ?_;refine bC ?_;have e1:h2.length=h.length:=by rw[q1,c1]
    have e2:h2.all (ao.aC h2.length)=true:=by rw[q1];exact q2
    refine⟨?_,(i+1,rest,h2),?_,⟨mB hd,⟨e1,by rw[<-e1];exact e2⟩,q0⟩,an1 _⟩
    ·rw[<-e1];exact AM _ e2 (by
       show(((AV.cg k).bo h2.length).aC h2.length&&(true&&(true&&(true&&true))))=true;rw[e1];simp [AV.bo,AV.aC,cf];omega)
    ·rw[<-e1];exact zf _ e2
mutual
theorem T1:(e:ar)->JU e
 |⟨_,_,_,_,_,_,xs⟩=>aev _ (YJ xs)
theorem YJ:(l:an3 ar)->∀x∈l,JU x
 |[],_,h=>absurd h anV
 |x::l,y,h=>(anJ.1 h).elim (λe=>e▸T1 x) (YJ l y)
end
theorem JW{P:an6}{fn:Func}{n:Nat}{t:an3 (Nat×AV)}{H J:an3 ao}{K:AV->an3 ao->Prop}(k1:J.length=H.length)(k2:J.all (ao.aC H.length)=true)(hr:mS P ⟨n,t,J⟩ fn.results.toList λrs=>((jX rs).bo J.length).aC J.length=true/\K ((jX rs).bo J.length) J):Ja P fn H.length K .normal ⟨n,t,J⟩:=by
 have:=M7 (P:=P) (fn:=fn) (n:=n) (t:=t) (l:=[]) (K:=K) k1 k2;rw[anA]at this;exact this hr
theorem WC{P:an6}{fn:Func}{n:Nat}{t:an3 (Nat×AV)}{H J:an3 ao}{K:AV->an3 ao->Prop}(k1:J.length=H.length)(k2:J.all (ao.aC H.length)=true)(hr:mS P ⟨n,t,J⟩ fn.results.toList λrs=>((jX rs).bo J.length).aC J.length=true/\K ((jX rs).bo J.length) J):Ja P fn H.length K .ret ⟨n,t,J⟩:=JW k1 k2 hr
theorem MC(e:ar):ze Tryz.prog 101 [.bg [fc e] 0 0] ((dB e).map aM):=by
 intro k h C j7 hk hs;refine uR h.length Tryz.func101 rfl (by kernel_rfl) (anp _) ?_;show bw Tryz.prog none h.length _ _ ⟨6,[(0, .cg k),(1, .bg [fc e] 0 0)],h⟩;refine eW ?_;refine bG rfl ?_;refine cy (x:=aM e) (by kernel_rfl) rfl rfl ?_;refine bG rfl ?_;refine cy (x:= .cg k) (by kernel_rfl) rfl rfl ?_;refine bG rfl ?_;refine El (g:=102) (cT:=[]) rfl rfl rfl ?_;refine(T1 e k h C j7 hk hs).mono λr h' hh=> ?_;obtain⟨b,rfl,q0,q1,q2⟩:=hh;refine JW (n:=6) (t:=[(5, .d (.v (.bool b))),(4, .cg k),(3,aM e),(0, .cg k),(1, .bg [fc e] 0 0)]) q1 q2 ?_;exact⟨rfl,b,q0⟩
def vD(x:cC):an3 bj:=x.bq::x.cM
def ov(e:ar):an3 bj:=e.bq::e.xIdx.flatMap vD
theorem alS(e:ar):ze Tryz.prog 168 [.bg [fc e] 0 0] ((ov e).map dZ):=by
 intro k h C j7 hk ri;have hs:=Dl _ j7 ri;refine uR h.length Tryz.func168 rfl (by kernel_rfl) (anp _) ?_;show bw Tryz.prog none h.length _ _ ⟨37,[(0, .cg k),(1, .bg [fc e] 0 0)],h⟩
 repeat refine aA ?_
 refine eW ?_;refine bG rfl ?_;refine cy (x:= .cg k) (by kernel_rfl) rfl rfl ?_;refine bG rfl ?_;refine cy (x:= .bg [fc e] 0 9) (by kernel_rfl) rfl rfl ?_;refine bG rfl ?_;refine cy (x:=dZ e.bq) (by kernel_rfl) rfl rfl ?_;refine bG rfl ?_;rw[ov,anE]at hs;refine yN (k:=k) (x:=dZ e.bq) rfl rfl (by kernel_rfl) (by kernel_rfl) rfl rfl ?_;refine YS.mono hs λb J hh=> ?_;obtain⟨⟨k1,k2⟩,k3⟩:=hh;refine bG rfl ?_;refine cy (x:= .d (.v (.bool (!b)))) (by kernel_rfl) rfl rfl ?_;refine bC ?_;cases b with
 |false=>
  refine lM (by kernel_rfl) ?_;refine cQ (cZ ?_);exact WC k1 k2 ⟨rfl,false,k3.1⟩
 |true=>
  refine lA (by kernel_rfl) ?_;refine dt ?_;refine bC ?_;simp only[cond_true]at k3
  repeat refine aA ?_
  refine eW ?_;refine bG rfl ?_;refine cy (x:= .bg [fc e] 0 11) (by kernel_rfl) rfl rfl ?_;refine bG rfl ?_;refine cy (x:= .d (.sl (eO e.xIdx))) (by kernel_rfl) rfl rfl ?_;refine bG rfl ?_;refine cy (x:= .d (.v (.int .i64 (eO e.xIdx).length))) (by kernel_rfl) rfl rfl ?_;refine bG rfl ?_;refine cy (x:= .d (.v (.int .i64 0))) (by kernel_rfl) rfl rfl ?_;refine bC ?_;refine xV 13 (eO e.xIdx) (by kernel_rfl) λbN=> ?_;have qd:e.xIdx.length<=maxLen:=by rw[<-lZ];exact Js bN
  rw[lZ];refine fV ?_;refine Ju (ι:=Nat×an3 cC×an3 ao) [0,13,14,15] h.length (λi=>⟨37,[(0, .cg k),(13, .d (.sl (eO e.xIdx))),(14, .d (.v (.int .i64 e.xIdx.length))),(15, .d (.v (.int .i64 i.1)))],i.2.2⟩)
    (λi=>e.xIdx.drop i.1=i.2.1/\nY h i.2.2/\lz Tryz.prog k ((i.2.1.flatMap vD).map dZ) (λb h2=>C b h2/\nY h h2) i.2.2) (λi=>i.2.1.length) (0,e.xIdx,J) (anp _) ?_ ?_ ⟨rfl,⟨k1,k2⟩,k3⟩ ?_
  ·rw[<-k1];exact Ig _ (by rw[k1];exact k2) (by
     show(((AV.cg k).bo J.length).aC J.length&&(true&&(true&&(true&&true))))=true;rw[k1,AZ hk];rfl)
  ·rw[<-k1];exact KD _ (by rw[k1];exact k2)
  rintro⟨i,rest,hc⟩ ⟨hd,⟨c1,c2⟩,jf⟩;simp only at hd c1 c2 jf ⊢
  repeat refine aA ?_
  refine eW ?_;refine bG rfl ?_;refine cy (x:= .d (.v (.bool (decide ((i:Int)<(e.xIdx.length:Int)))))) (by kernel_rfl) rfl rfl ?_;refine bC ?_
  repeat refine aA ?_
  cases rest with
  |nil=>
   rw[da hd];refine lA (by kernel_rfl) ?_;refine nT (kZ (kZ (qm rfl ?_)));rw[List.flatMap_nil,List.map_nil]at jf;exact JW c1 c2 ⟨rfl,true,jf.1⟩
  |cons x rest=>
   rw[db hd];refine lM (by kernel_rfl) ?_;refine dt ?_;refine bC ?_
   repeat refine aA ?_
   refine fV ?_
   repeat refine aA ?_
   refine eW ?_;refine bG rfl ?_;rw[<-anA hc];refine cy (Q2 (q:=i) (e:=55) (k:=4) rfl rfl (by kernel_rfl) (vw (cE hd)) rfl) rfl rfl ?_;refine bG rfl ?_;refine cy (x:=aIndex x) (by kernel_rfl) rfl rfl ?_;refine bG rfl ?_;refine Ab (NW (l:=[]) (by kernel_rfl)) rfl rfl EG ?_;refine bG rfl ?_;refine Np (P3 (i:=0) (off:=0) (k:=4) (l:=[_]) (v:=aIndex x) (cw:=(aIndex x).cells) (by kernel_rfl) rfl (by kernel_rfl) rfl (by kernel_rfl) (by kernel_rfl)) rfl QE ?_;refine bC ?_
   repeat refine aA ?_
   refine eW ?_;refine bG rfl ?_;refine cy (x:= .cg k) (by kernel_rfl) rfl rfl ?_;refine bG rfl ?_;refine cy (x:= .ptr (hc.length+0) 0) (by kernel_rfl) rfl rfl ?_;refine bG rfl ?_;refine cy (vo (i:=0) (off:=0) (l:=[.cells (aIndex x).cells]) (x:=dZ x.bq) (by kernel_rfl) rfl (by kernel_rfl)) rfl rfl ?_;refine bG rfl ?_;rw[List.flatMap_cons,vD,List.cons_append,anE]at jf;have hy:=Lg jf [.cells (aIndex x).cells] (by rw[c1];exact c2) (by kernel_rfl) (λb h' hh=>hh.1);refine yN (k:=k) (x:=dZ x.bq) rfl rfl (by kernel_rfl) (by kernel_rfl) rfl rfl ?_;refine hy.mono λb h' hh=> ?_;obtain⟨h2,⟨⟨p1,p2⟩,p3⟩,rfl⟩:=hh;refine bG rfl ?_;refine cy (x:= .d (.v (.bool (!b)))) (by kernel_rfl) rfl rfl ?_;refine bC ?_;have q1:h2.length=h.length:=by rw[p1,c1]
   have q2:h2.all (ao.aC h.length)=true:=by rw[c1]at p2;exact p2
   cases b with
   |false=>
    refine lM (by kernel_rfl) ?_;refine cQ ?_
    repeat (first|(with_reducible refine cZ ?_)|(with_reducible refine fe ?_))
    exact Bm q1 q2 ⟨rfl,false,p3.1⟩
   |true=>
    refine lA (by kernel_rfl) ?_;refine dt ?_;refine bC ?_;simp only[cond_true]at p3
    repeat refine aA ?_
    refine eW ?_;refine bG rfl ?_;refine cy (x:= .ptr (hc.length+0) 3) (by kernel_rfl) rfl rfl ?_;refine bG rfl ?_;refine cy (vo (h:=h2) (i:=0) (off:=3) (l:=[.cells (aIndex x).cells]) (x:= .d (.sl (gC x.cM))) (by rw[p1];rfl) rfl (by kernel_rfl)) rfl rfl ?_;refine bG rfl ?_;refine cy (x:= .d (.v (.int .i64 (gC x.cM).length))) (by kernel_rfl) rfl rfl ?_;refine bG rfl ?_;refine cy (x:= .d (.v (.int .i64 0))) (by kernel_rfl) rfl rfl ?_;refine bC ?_;refine xV 25 (gC x.cM) (by kernel_rfl) λafY=> ?_;have aiB:x.cM.length<=maxLen:=by rw[<-lY];exact Js afY
    rw[lY];refine fV ?_;refine Ju (ι:=Nat×an3 bj×an3 ao) [0,13,14,15,25,26,27] h.length (λj=>⟨37,[(0, .cg k),(13, .d (.sl (eO e.xIdx))),(14, .d (.v (.int .i64 e.xIdx.length))),(15, .d (.v (.int .i64 i))),(25, .d (.sl (gC x.cM))),(26, .d (.v (.int .i64 x.cM.length))),(27, .d (.v (.int .i64 j.1)))],j.2.2⟩)
      (λj=>x.cM.drop j.1=j.2.1/\nY h j.2.2/\lz Tryz.prog k ((j.2.1++rest.flatMap vD).map dZ) (λb h2=>C b h2/\nY h h2) j.2.2) (λj=>j.2.1.length) (0,x.cM,h2) (anp _) ?_ ?_ ⟨rfl,⟨q1,q2⟩,p3⟩ ?_
    ·rw[<-q1];exact AM _ (by rw[q1];exact q2) (by
       show(((AV.cg k).bo h2.length).aC h2.length&&(true&&(true&&(true&&(true&&(true&&(true&&true)))))))=true;rw[q1,AZ hk];rfl)
    ·rw[<-q1];exact zf _ (by rw[q1];exact q2)
    rintro⟨j,r2,hb⟩ ⟨nI,⟨b1,b2⟩,vV⟩;simp only at nI b1 b2 vV ⊢
    repeat refine aA ?_
    refine eW ?_;refine bG rfl ?_;refine cy (x:= .d (.v (.bool (decide ((j:Int)<(x.cM.length:Int)))))) (by kernel_rfl) rfl rfl ?_;refine bC ?_
    repeat refine aA ?_
    cases r2 with
    |nil=>
     rw[da nI];refine lA (by kernel_rfl) ?_;refine nT (kZ (kZ (qm rfl ?_)));refine iM ?_;refine bC ?_;rw[List.nil_append]at vV;refine eW ?_;refine bG rfl ?_;refine cy (x:= .d (.v (.int .i64 ((i+1:Nat):Int)))) (by
       show some ((.d (.v (.int .i64 (aP ((i:Int)+1)))):AV),HD.same)=_;have:=cY hd rfl qd;unfold aq at this;rw[this]) rfl rfl ?_
     refine bG rfl ?_;refine cy (x:= .d (.v (.int .i64 ((i+1:Nat):Int)))) (by kernel_rfl) rfl rfl ?_;refine bC ?_;refine⟨?_,(i+1,rest,hb),?_,⟨mB hd,⟨b1,b2⟩,vV⟩,an1 _⟩
     ·rw[<-b1];exact Ig _ (by rw[b1];exact b2) (by
        show(((AV.cg k).bo hb.length).aC hb.length&&(true&&(true&&(true&&true))))=true;rw[b1,AZ hk];rfl)
     ·rw[<-b1];exact KD _ (by rw[b1];exact b2)
    |cons y r2=>
     rw[db nI];refine lM (by kernel_rfl) ?_;refine dt ?_;refine bC ?_
     repeat refine aA ?_
     refine fV ?_
     repeat refine aA ?_
     refine eW ?_;refine bG rfl ?_;rw[<-anA hb];refine cy (Q2 (q:=j) (e:=53) (k:=2) rfl rfl (by kernel_rfl) (yd (cE nI)) rfl) rfl rfl ?_;refine bG rfl ?_;refine cy (x:=dZ y) (by kernel_rfl) rfl rfl ?_;refine bG rfl ?_;refine Ab (NW (l:=[]) (by kernel_rfl)) rfl rfl EG ?_;refine bG rfl ?_;refine Np (P3 (i:=0) (off:=0) (k:=2) (l:=[_]) (v:=dZ y) (cw:=(dZ y).cells) (by kernel_rfl) rfl (by kernel_rfl) rfl (by kernel_rfl) (by kernel_rfl)) rfl QE ?_;refine bC ?_
     repeat refine aA ?_
     refine eW ?_;refine bG rfl ?_;refine cy (x:= .cg k) (by kernel_rfl) rfl rfl ?_;refine bG rfl ?_;refine cy (vo (i:=0) (off:=0) (l:=[.cells (dZ y).cells]) (x:=dZ y) (by kernel_rfl) rfl (by kernel_rfl)) rfl rfl ?_;refine bG rfl ?_;rw[List.cons_append,anE]at vV;have NQ:=Lg vV [.cells (dZ y).cells] (by rw[b1];exact b2) (by kernel_rfl) (λb h' hh=>hh.1);refine yN (k:=k) (x:=dZ y) rfl rfl (by kernel_rfl) (by kernel_rfl) rfl rfl ?_;refine NQ.mono λb h' hh=> ?_;obtain⟨h3,⟨⟨r1,r3⟩,r4⟩,rfl⟩:=hh;refine bG rfl ?_;refine cy (x:= .d (.v (.bool (!b)))) (by kernel_rfl) rfl rfl ?_;refine bC ?_;have u1:h3.length=h.length:=by rw[r1,b1]
     have u2:h3.all (ao.aC h.length)=true:=by rw[b1]at r3;exact r3
     cases b with
     |false=>
      refine lM (by kernel_rfl) ?_;refine cQ ?_
      repeat (first|(with_reducible refine cZ ?_)|(with_reducible refine fe ?_))
      exact Bm u1 u2 ⟨rfl,false,r4.1⟩
     |true=>
      refine lA (by kernel_rfl) ?_;refine dt ?_;refine iM ?_;refine bC ?_;simp only[cond_true]at r4;refine eW ?_;refine bG rfl ?_;refine cy (x:= .d (.v (.int .i64 ((j+1:Nat):Int)))) (by
       show some ((.d (.v (.int .i64 (aP ((j:Int)+1)))):AV),HD.same)=_;have:=cY nI rfl aiB;unfold aq at this;rw[this]) rfl rfl ?_
      refine bG rfl ?_;refine cy (x:= .d (.v (.int .i64 ((j+1:Nat):Int)))) (by kernel_rfl) rfl rfl ?_;refine bC ?_;refine⟨?_,(j+1,r2,h3),?_,⟨mB nI,⟨u1,u2⟩,r4⟩,an1 _⟩
      ·rw[<-u1];exact AM _ (by rw[u1];exact u2) (by
         show(((AV.cg k).bo h3.length).aC h3.length&&(true&&(true&&(true&&(true&&(true&&(true&&true)))))))=true;rw[u1,AZ hk];rfl)
      ·rw[<-u1];exact zf _ (by rw[u1];exact u2)
theorem aen(v1:ar):fP Tryz.prog 61 [(aM v1)] (·= .fn 101 [.bg [fc v1] 0 0]):=by
 refine Mb (r:= .fn 101 [(.ptr 0 0)]) (h:=[.cells (aM v1).cells]) ?_ (by kernel_rfl) rfl;refine qG 1 Tryz.func61 rfl (by kernel_rfl) (anm rfl) ?_;refine mG (s':=⟨4,[(0,(aM v1))],[]⟩) (by kernel_rfl) ?_;refine aA ?_;refine rg [] [(1,(.ptr 0 0))] [.cells (aM v1).cells] (by kernel_rfl) ?_;refine aA ?_;refine rg [] [(2,(.fn 101 [(.ptr 0 0)]))] [.cells (aM v1).cells] (by kernel_rfl) ?_;refine cQ ?_;exact jl (by kernel_rfl)
theorem ah2(v1:ar):fP Tryz.prog 108 [(aM v1)] (·= .fn 168 [.bg [fc v1] 0 0]):=by
 refine Mb (r:= .fn 168 [(.ptr 0 0)]) (h:=[.cells (aM v1).cells]) ?_ (by kernel_rfl) rfl;refine qG 1 Tryz.func108 rfl (by kernel_rfl) (anm rfl) ?_;refine mG (s':=⟨4,[(0,(aM v1))],[]⟩) (by kernel_rfl) ?_;refine aA ?_;refine rg [] [(1,(.ptr 0 0))] [.cells (aM v1).cells] (by kernel_rfl) ?_;refine aA ?_;refine rg [] [(2,(.fn 168 [(.ptr 0 0)]))] [.cells (aM v1).cells] (by kernel_rfl) ?_;refine cQ ?_;exact jl (by kernel_rfl)
end Go.Proofs.YtpeecnpmcbnahaaGreatDoor
namespace Go.Proofs.YtpeecnpmcbnahaaGreatDoor
open Go.RowKit Go.Shelf
set_option maxRecDepth 100000
def ab5:Ren where
 f:=fun
  |157=>290
  |229=>313
  |199=>314
  |261=>323
  |311=>325
  |312=>326
  |n=>n
 t:=fun
  |9=>9
  |31=>22
  |3=>3
  |5=>5
  |4=>4
  |119=>301
  |0=>0
  |40=>247
  |152=>310
  |21=>21
  |154=>312
  |51=>299
  |141=>314
  |196=>321
  |193=>318
  |198=>324
  |49=>322
  |194=>319
  |201=>327
  |226=>329
  |46=>255
  |227=>330
  |n=>n
 g:=fun
  |0=>0
  |6=>1
  |n=>n
def nG:an3 an4:=[bs [115,105,122,101],bs [119,104,101,114,101],bs [105,110],bs [100,101,102],bs [111,117,116],bs [115,117,109],bs [112,114,111,100],bs [109,105,110],bs [109,97,120],bs [115,99,97,110],bs [111,118,101,114],bs [105,102],bs [99,97,115,116],bs [102,114,97,99],bs [105,110,116],bs [102,105,120],bs [99,101,105,108],bs [102,108,111,111,114],bs [122,101,114,111],bs [101,118,101,110],bs [115,97,116],bs [119,114,97,112]]
theorem agK:Lays.n157 Tryz.prog ab5:=by
 constructor<;>first|kernel_rfl|(intro w;rfl)
def FH:an4:=⟨#[115,105,122,101,32,119,104,101,114,101,32,105,110,32,100,101,102,32,111,117,116,32,115,117,109,32,112,114,111,100,32,109,105,110,32,109,97,120,32,115,99,97,110,32,111,118,101,114,32,105,102,32,99,97,115,116,32,102,114,97,99,32,105,110,116,32,102,105,120,32,99,101,105,108,32,102,108,111,111,114,32,122,101,114,111,32,101,118,101,110,32,115,97,116,32,119,114,97,112]⟩
theorem amS(w:an8)(hT:∀c:Nat,c<256->w.cell? ⟨0,c,none⟩=some (.int .u8 (if Lib.isSp (UInt8.ofNat c)then 1 else 0))):
 Calls Tryz.prog 290 #[.string FH] w λe w'=>e= .returned (.slice (some ⟨w.heap.size,0,none⟩) 22 22)/\w'=w.alloc (.cells (nG.map Value.string).toArray 9):=by
 have ha:(FH.data.toList.all λb=>decide (b.toNat<128))=true:=by kernel_rfl
 have h:=Any.strings_Fields_core agK (by kernel_rfl) FH w (of_decide_eq_true (by kernel_rfl)) (λj b hb=>of_decide_eq_true (anF.1 ha b (anr hb))) hT;have e1:(Lib.fields FH.data.toList).length=22:=by kernel_rfl
 have e2:((Lib.fields FH.data.toList).map λl=>Value.string ⟨l.toArray⟩)=nG.map Value.string:=by kernel_rfl
 rw[e1,e2]at h;exact h
theorem aix(w:an8)(hT:∀c:Nat,c<256->w.cell? ⟨0,c,none⟩=some (.int .u8 (if Lib.isSp (UInt8.ofNat c)then 1 else 0))):
 Calls Tryz.prog 261 #[] w λe w'=>e= .returned (.slice (some ⟨w.heap.size,0,none⟩) 22 22)/\w'=w.alloc (.cells (nG.map Value.string).toArray 9):=by
 go_enter Tryz.func261,Tryz.ntmps261
 go_wp2_with (go_at_call 290;refine(amS _ hT).mono ?_;rintro e w' ⟨rfl,rfl⟩)
 go_ret
 exact⟨rfl,rfl⟩
theorem ajO:∀c:Nat,c<256->(vp C9)[c]?=some (.int .u8 (if Lib.isSp (UInt8.ofNat c)then 1 else 0)):=λc hc=>by
 rw[show vp C9=(List.range 256).map λc=>Value.int .u8 (if Lib.isSp (UInt8.ofNat c)then 1 else 0) by kernel_rfl,anl,List.getElem?_range hc];rfl
theorem ahS:fP Tryz.prog 261 [] (·= .d (.sl (dQ nG))):=by
 refine⟨by kernel_rfl,λG w vs hi hl hr=> ?_⟩;obtain rfl:vs= #[]:=Array.size_eq_zero_iff.1 hl;refine(aix w λc hc=> ?_).mono λe w' hp=> ?_
 ·exact(hi.gl.1 0 (vp C9) ank c _ (ajO c hc)).2
 ·obtain⟨rfl,rfl⟩:=hp;obtain⟨i1,i2⟩:=aa2 hi (.cells (nG.map Value.string).toArray 9) 22;have xl:Rd (G.o8 w.heap.size 22).S (w.alloc (.cells (nG.map Value.string).toArray 9)) 1 (dQ nG) (nG.map Value.string):=
   ⟨rfl,λx hx=>(by obtain⟨y,_,rfl⟩:=List.mem_map.1 hx;rfl),λu hu=>(by obtain⟨y,_,rfl⟩:=List.mem_map.1 hu;rfl),λi j x d hx hd=>by
    rw[nC,anl]at hx;cases hk:nG[i]? with
    |none=>rw[hk]at hx;cases hx
    |some y=>
     rw[hk]at hx;cases hx;cases j with
     |zero=>cases hd;exact⟨.string y,by rw[Nat.mul_one,Nat.add_zero,anl,hk];rfl, .v _⟩
     |succ j=>cases hd⟩
  have hp:=xl.B3 w.heap.size 22 (by decide) (by decide) (λo ho=> .inr ⟨rfl,ho⟩) (λo u hu=>by
   rw[World.cell?_alloc_new,List.getElem?_toArray];exact hu)
  exact⟨_,_,_,_,rfl,i1,anp _,i2, .d hp,rfl,rfl⟩
end Go.Proofs.YtpeecnpmcbnahaaGreatDoor
namespace Go.Proofs.YtpeecnpmcbnahaaGreatDoor
open Go.RowKit
set_option maxRecDepth 1000000
end Go.Proofs.YtpeecnpmcbnahaaGreatDoor
