/-
  Part 4 of the proof: AbsDat, IterE, KwS, AbsKern, Clones, ClonesV, Grows.
-/
import Derived.Test.YtphmhnabilhbgaaGreatDoorPk3
import Derived.Test.YtphmhnabilhbgaaGreatDoorProg
import Derived.WalkKit
import Derived.Shelf.Strings.Fields
import Derived.KernelRfl
namespace Go.Proofs.YtphmhnabilhbgaaGreatDoor
open Go.RowKit
set_option linter.unusedVariables false
def cX(x:aiF):aiE D:=[.v (.string x)]
def aB(l:aiE aiF):aiE (aiE D):=l.map cX
theorem mz(l:aiE aiF):aB l=l.map cX:=rfl
theorem bC{l:aiE aiF}:(aB l).length=l.length:=by rw[mz,ahU]
theorem kK{l:aiE aiF}{k:Nat}{x:aiF}(h:l[k]?=some x):(aB l)[k]?=some (cX x):=by rw[mz,ahW,h];rfl
theorem Aq{a b:aiE aiF}:aB a++aB b=aB (a++b):=by rw[mz,mz,mz,List.map_append]
theorem jq{l:aiE aiF}:∀c∈aB l,c.length=1:=by
 intro c hc;rw[mz]at hc;obtain⟨x,_,rfl⟩:=List.mem_map.1 hc;rfl
theorem KG{l:aiE aiF}{k n:Nat}:((aB l).take n).drop k=aB ((l.take n).drop k):=by rw[mz,mz,List.map_drop,List.map_take]
def JG(x:Int):aiE D:=[.v (.int .i64 x)]
def nb(l:aiE Int):aiE (aiE D):=l.map JG
theorem SA(l:aiE Int):nb l=l.map JG:=rfl
theorem yW{l:aiE Int}:(nb l).length=l.length:=by rw[SA,ahU]
theorem Lq{l:aiE Int}{k:Nat}{x:Int}(h:l[k]?=some x):(nb l)[k]?=some (JG x):=by rw[SA,ahW,h];rfl
structure aD where
 ao:ByteArray
 dd:Int64
def wc(x:aD):aiE D:=[.v (.string x.ao), .v (.int .i64 x.dd.toInt)]
def mM(x:aD):AV:= .agg [.d (.v (.string x.ao)), .d (.v (.int .i64 x.dd.toInt))]
structure bB where
 ck:Int
 cq:Int
 cJ:Int
 cH:Int
 cK:Int
def FG(x:bB):aiE D:=[.v (.int .i64 x.ck), .v (.int .i64 x.cq), .v (.int .i64 x.cJ), .v (.int .i64 x.cH), .v (.int .i64 x.cK)]
def eZ(x:bB):AV:= .agg [.d (.v (.int .i64 x.ck)), .d (.v (.int .i64 x.cq)), .d (.v (.int .i64 x.cJ)), .d (.v (.int .i64 x.cH)), .d (.v (.int .i64 x.cK))]
structure gg where
 xN:Int64
 xD:Int64
def ZQ(x:gg):aiE D:=[.v (.int .i64 x.xN.toInt), .v (.int .i64 x.xD.toInt)]
def pW(x:gg):AV:= .agg [.d (.v (.int .i64 x.xN.toInt)), .d (.v (.int .i64 x.xD.toInt))]
def bP(l:aiE aD):aiE (aiE D):=l.map wc
theorem pR(l:aiE aD):bP l=l.map wc:=rfl
theorem bZ{l:aiE aD}:(bP l).length=l.length:=by rw[pR,ahU]
theorem eY{l:aiE aD}{k:Nat}{x:aD}(h:l[k]?=some x):(bP l)[k]?=some (wc x):=by rw[pR,ahW,h];rfl
theorem Gn{a b:aiE aD}:bP a++bP b=bP (a++b):=by rw[pR,pR,pR,List.map_append]
theorem mm{l:aiE aD}:∀c∈bP l,c.length=2:=by
 intro c hc;rw[pR]at hc;obtain⟨x,_,rfl⟩:=List.mem_map.1 hc;rfl
theorem Ia{l:aiE aD}{k:Nat}:(bP l).drop k=bP (l.drop k):=by rw[pR,pR,List.map_drop]
def jT(l:aiE bB):aiE (aiE D):=l.map FG
theorem yR(l:aiE bB):jT l=l.map FG:=rfl
theorem gh{l:aiE bB}:(jT l).length=l.length:=by rw[yR,ahU]
theorem kP{l:aiE bB}{k:Nat}{x:bB}(h:l[k]?=some x):(jT l)[k]?=some (FG x):=by rw[yR,ahW,h];rfl
theorem Nt{a b:aiE bB}:jT a++jT b=jT (a++b):=by rw[yR,yR,yR,List.map_append]
theorem EN{l:aiE bB}:∀c∈jT l,c.length=5:=by
 intro c hc;rw[yR]at hc;obtain⟨x,_,rfl⟩:=List.mem_map.1 hc;rfl
structure ax where
 xK:Int64
 xL:List aD
def j0(x:ax):aiE D:=[.v (.int .i64 x.xK.toInt), .sl (bP x.xL)]
def b9(x:ax):AV:= .agg [.d (.v (.int .i64 x.xK.toInt)), .d (.sl (bP x.xL))]
structure cf where
 aK:ax
 fM:Bool
def CG(x:cf):aiE D:=[.v (.int .i64 x.aK.xK.toInt), .sl (bP x.aK.xL), .v (.bool x.fM)]
def kE(x:cf):AV:= .agg [.d (.v (.int .i64 x.aK.xK.toInt)), .d (.sl (bP x.aK.xL)), .d (.v (.bool x.fM))]
structure bj where
 ao:ByteArray
 dB:ax
def Dd(x:bj):aiE D:=[.v (.string x.ao), .v (.int .i64 x.dB.xK.toInt), .sl (bP x.dB.xL)]
def qV(x:bj):AV:= .agg [.d (.v (.string x.ao)), .d (.v (.int .i64 x.dB.xK.toInt)), .d (.sl (bP x.dB.xL))]
def bG(l:aiE cf):aiE (aiE D):=l.map CG
theorem xn(l:aiE cf):bG l=l.map CG:=rfl
theorem eO{l:aiE cf}:(bG l).length=l.length:=by rw[xn,ahU]
theorem sX{l:aiE cf}{k:Nat}{x:cf}(h:l[k]?=some x):(bG l)[k]?=some (CG x):=by rw[xn,ahW,h];rfl
theorem abP{a b:aiE cf}:bG a++bG b=bG (a++b):=by rw[xn,xn,xn,List.map_append]
theorem RC{l:aiE cf}:∀c∈bG l,c.length=3:=by
 intro c hc;rw[xn]at hc;obtain⟨x,_,rfl⟩:=List.mem_map.1 hc;rfl
def cz(l:aiE ax):aiE (aiE D):=l.map j0
theorem rK(l:aiE ax):cz l=l.map j0:=rfl
theorem bM{l:aiE ax}:(cz l).length=l.length:=by rw[rK,ahU]
theorem hY{l:aiE ax}{k:Nat}{x:ax}(h:l[k]?=some x):(cz l)[k]?=some (j0 x):=by rw[rK,ahW,h];rfl
theorem Bw{a b:aiE ax}:cz a++cz b=cz (a++b):=by rw[rK,rK,rK,List.map_append]
theorem nI{l:aiE ax}:∀c∈cz l,c.length=2:=by
 intro c hc;rw[rK]at hc;obtain⟨x,_,rfl⟩:=List.mem_map.1 hc;rfl
def cu(l:aiE bj):aiE (aiE D):=l.map Dd
theorem vC(l:aiE bj):cu l=l.map Dd:=rfl
theorem b5{l:aiE bj}:(cu l).length=l.length:=by rw[vC,ahU]
theorem jK{l:aiE bj}{k:Nat}{x:bj}(h:l[k]?=some x):(cu l)[k]?=some (Dd x):=by rw[vC,ahW,h];rfl
theorem Gm{a b:aiE bj}:cu a++cu b=cu (a++b):=by rw[vC,vC,vC,List.map_append]
theorem oh{l:aiE bj}:∀c∈cu l,c.length=3:=by
 intro c hc;rw[vC]at hc;obtain⟨x,_,rfl⟩:=List.mem_map.1 hc;rfl
def KV(x:aiE bj):aiE D:=[.sl (cu x)]
def rm(l:aiE (aiE bj)):aiE (aiE D):=l.map KV
theorem VB(l:aiE (aiE bj)):rm l=l.map KV:=rfl
theorem Hn{l:aiE (aiE bj)}:(rm l).length=l.length:=by rw[VB,ahU]
theorem R1{l:aiE (aiE bj)}{k:Nat}{x:(aiE bj)}(h:l[k]?=some x):(rm l)[k]?=some (KV x):=by rw[VB,ahW,h];rfl
structure bX where
 ao:ByteArray
 aw:bB
 aI:List ax
def DM(x:bX):aiE D:=[.v (.string x.ao), .v (.int .i64 x.aw.ck), .v (.int .i64 x.aw.cq), .v (.int .i64 x.aw.cJ), .v (.int .i64 x.aw.cH), .v (.int .i64 x.aw.cK), .sl (cz x.aI)]
def lf(x:bX):AV:= .agg [.d (.v (.string x.ao)), .d (.v (.int .i64 x.aw.ck)), .d (.v (.int .i64 x.aw.cq)), .d (.v (.int .i64 x.aw.cJ)), .d (.v (.int .i64 x.aw.cH)), .d (.v (.int .i64 x.aw.cK)), .d (.sl (cz x.aI))]
structure az where
 aK:ax
 bn:ByteArray
 bp:List ax
def fK(x:az):aiE D:=[.v (.int .i64 x.aK.xK.toInt), .sl (bP x.aK.xL), .v (.string x.bn), .sl (cz x.bp)]
def fx(x:az):AV:= .agg [.d (.v (.int .i64 x.aK.xK.toInt)), .d (.sl (bP x.aK.xL)), .d (.v (.string x.bn)), .d (.sl (cz x.bp))]
def bI(l:aiE bX):aiE (aiE D):=l.map DM
theorem uW(l:aiE bX):bI l=l.map DM:=rfl
theorem ee{l:aiE bX}:(bI l).length=l.length:=by rw[uW,ahU]
theorem jV{l:aiE bX}{k:Nat}{x:bX}(h:l[k]?=some x):(bI l)[k]?=some (DM x):=by rw[uW,ahW,h];rfl
theorem ac0{a b:aiE bX}:bI a++bI b=bI (a++b):=by rw[uW,uW,uW,List.map_append]
theorem VR{l:aiE bX}:∀c∈bI l,c.length=7:=by
 intro c hc;rw[uW]at hc;obtain⟨x,_,rfl⟩:=List.mem_map.1 hc;rfl
def bJ(l:aiE az):aiE (aiE D):=l.map fK
theorem qo(l:aiE az):bJ l=l.map fK:=rfl
theorem cn{l:aiE az}:(bJ l).length=l.length:=by rw[qo,ahU]
theorem eH{l:aiE az}{k:Nat}{x:az}(h:l[k]?=some x):(bJ l)[k]?=some (fK x):=by rw[qo,ahW,h];rfl
theorem Lg{a b:aiE az}:bJ a++bJ b=bJ (a++b):=by rw[qo,qo,qo,List.map_append]
theorem vW{l:aiE az}:∀c∈bJ l,c.length=4:=by
 intro c hc;rw[qo]at hc;obtain⟨x,_,rfl⟩:=List.mem_map.1 hc;rfl
structure aq where
 aX:Int
 ao:ByteArray
 db:gg
 aw:bB
 aK:ax
 xIdx:List az
 aM:List aq
mutual
def Li:aq→aiE D
 |⟨aX,ao,db,aw,aK,xIdx,aM⟩=>[.v (.int .i64 aX), .v (.string ao), .v (.int .i64 db.xN.toInt), .v (.int .i64 db.xD.toInt), .v (.int .i64 aw.ck), .v (.int .i64 aw.cq), .v (.int .i64 aw.cJ), .v (.int .i64 aw.cH), .v (.int .i64 aw.cK), .v (.int .i64 aK.xK.toInt), .sl (bP aK.xL), .sl (bJ xIdx), .sl (cT aM)]
def cT:aiE aq→aiE (aiE D)
 |[]=>[]
 |x::l=>Li x::cT l
end
def dy(x:aq):aiE D:=[.v (.int .i64 x.aX), .v (.string x.ao), .v (.int .i64 x.db.xN.toInt), .v (.int .i64 x.db.xD.toInt), .v (.int .i64 x.aw.ck), .v (.int .i64 x.aw.cq), .v (.int .i64 x.aw.cJ), .v (.int .i64 x.aw.cH), .v (.int .i64 x.aw.cK), .v (.int .i64 x.aK.xK.toInt), .sl (bP x.aK.xL), .sl (bJ x.xIdx), .sl (cT x.aM)]
theorem Z1(x:aq):Li x=dy x:=by cases x;simp only[Li];rfl
theorem kL:∀l:aiE aq,cT l=l.map dy
 |[]=>by simp [cT]
 |x::l=>by simp [cT,Z1,kL l]
theorem b7{l:aiE aq}:(cT l).length=l.length:=by rw[kL,ahU]
theorem ik{l:aiE aq}{k:Nat}{x:aq}(h:l[k]?=some x):(cT l)[k]?=some (dy x):=by rw[kL,ahW,h];rfl
theorem HS{a b:aiE aq}:cT a++cT b=cT (a++b):=by rw[kL,kL,kL,List.map_append]
theorem rC{l:aiE aq}:∀c∈cT l,c.length=13:=by
 intro c hc;rw[kL]at hc;obtain⟨x,_,rfl⟩:=List.mem_map.1 hc;rfl
def aF(x:aq):AV:= .agg [.d (.v (.int .i64 x.aX)), .d (.v (.string x.ao)), .d (.v (.int .i64 x.db.xN.toInt)), .d (.v (.int .i64 x.db.xD.toInt)), .d (.v (.int .i64 x.aw.ck)), .d (.v (.int .i64 x.aw.cq)), .d (.v (.int .i64 x.aw.cJ)), .d (.v (.int .i64 x.aw.cH)), .d (.v (.int .i64 x.aw.cK)), .d (.v (.int .i64 x.aK.xK.toInt)), .d (.sl (bP x.aK.xL)), .d (.sl (bJ x.xIdx)), .d (.sl (cT x.aM))]
structure aG where
 ao:ByteArray
 aw:bB
 aI:List bj
 bz:List bj
 cP:Int
 bx:aq
def cF(x:aG):aiE D:=[.v (.string x.ao), .v (.int .i64 x.aw.ck), .v (.int .i64 x.aw.cq), .v (.int .i64 x.aw.cJ), .v (.int .i64 x.aw.cH), .v (.int .i64 x.aw.cK), .sl (cu x.aI), .sl (cu x.bz), .v (.int .i64 x.cP), .v (.int .i64 x.bx.aX), .v (.string x.bx.ao), .v (.int .i64 x.bx.db.xN.toInt), .v (.int .i64 x.bx.db.xD.toInt), .v (.int .i64 x.bx.aw.ck), .v (.int .i64 x.bx.aw.cq), .v (.int .i64 x.bx.aw.cJ), .v (.int .i64 x.bx.aw.cH), .v (.int .i64 x.bx.aw.cK), .v (.int .i64 x.bx.aK.xK.toInt), .sl (bP x.bx.aK.xL), .sl (bJ x.bx.xIdx), .sl (cT x.bx.aM)]
def cy(x:aG):AV:= .agg [.d (.v (.string x.ao)), .d (.v (.int .i64 x.aw.ck)), .d (.v (.int .i64 x.aw.cq)), .d (.v (.int .i64 x.aw.cJ)), .d (.v (.int .i64 x.aw.cH)), .d (.v (.int .i64 x.aw.cK)), .d (.sl (cu x.aI)), .d (.sl (cu x.bz)), .d (.v (.int .i64 x.cP)), .d (.v (.int .i64 x.bx.aX)), .d (.v (.string x.bx.ao)), .d (.v (.int .i64 x.bx.db.xN.toInt)), .d (.v (.int .i64 x.bx.db.xD.toInt)), .d (.v (.int .i64 x.bx.aw.ck)), .d (.v (.int .i64 x.bx.aw.cq)), .d (.v (.int .i64 x.bx.aw.cJ)), .d (.v (.int .i64 x.bx.aw.cH)), .d (.v (.int .i64 x.bx.aw.cK)), .d (.v (.int .i64 x.bx.aK.xK.toInt)), .d (.sl (bP x.bx.aK.xL)), .d (.sl (bJ x.bx.xIdx)), .d (.sl (cT x.bx.aM))]
structure iu where
 wQ:List bj
 JL:List az
def tp(x:iu):AV:= .agg [.d (.sl (cu x.wQ)), .d (.sl (bJ x.JL))]
def b8(l:aiE aG):aiE (aiE D):=l.map cF
theorem lq(l:aiE aG):b8 l=l.map cF:=rfl
theorem du{l:aiE aG}:(b8 l).length=l.length:=by rw[lq,ahU]
theorem fW{l:aiE aG}{k:Nat}{x:aG}(h:l[k]?=some x):(b8 l)[k]?=some (cF x):=by rw[lq,ahW,h];rfl
theorem adF{a b:aiE aG}:b8 a++b8 b=b8 (a++b):=by rw[lq,lq,lq,List.map_append]
theorem Dh{l:aiE aG}:∀c∈b8 l,c.length=22:=by
 intro c hc;rw[lq]at hc;obtain⟨x,_,rfl⟩:=List.mem_map.1 hc;rfl
theorem RU{l:aiE aG}{k n:Nat}:((b8 l).take n).drop k=b8 ((l.take n).drop k):=by rw[lq,lq,List.map_drop,List.map_take]
structure aQ where
 ba:List ByteArray
 cm:List cf
 a8:List bX
 ay:List aG
 cl:List ByteArray
def Xq(x:aQ):aiE D:=[.sl (aB x.ba), .sl (bG x.cm), .sl (bI x.a8), .sl (b8 x.ay), .sl (aB x.cl)]
def aS(x:aQ):AV:= .agg [.d (.sl (aB x.ba)), .d (.sl (bG x.cm)), .d (.sl (bI x.a8)), .d (.sl (b8 x.ay)), .d (.sl (aB x.cl))]
def bw(s:aiF):AV:= .d (.v (.string s))
def ak(n:Int):AV:= .d (.v (.int .i64 n))
def bu(n:Int64):AV:= .d (.v (.int .i64 n.toInt))
def aJ(b:Bool):AV:= .d (.v (.bool b))
abbrev aV(n:Int):Int:=IntKind.i64.wrap n
theorem Ag(a:Int):IntKind.i64.wrap a=a.bmod (2^64):=by
 rw[IntKind.wrap_i64,Int.bmod_def];omega
theorem nF(a:Int):ak (aV a)=bu (Int64.ofInt a):=by
 unfold ak bu aV;rw[Ag,Int64.toInt_ofInt]
theorem LV(a b:Int64):ak (aV (a.toInt+b.toInt))=bu (a+b):=by
 unfold ak bu aV;rw[Ag,Int64.toInt_add]
theorem u3(a b:Int64):ak (aV (a.toInt-b.toInt))=bu (a-b):=by
 unfold ak bu aV;rw[Ag,Int64.toInt_sub]
theorem SV(a b:Int64):ak (aV (a.toInt*b.toInt))=bu (a*b):=by
 unfold ak bu aV;rw[Ag,Int64.toInt_mul]
theorem GZ(a:Int64):ak (aV (0-a.toInt))=bu (-a):=by
 unfold ak bu aV;rw[Ag,Int64.toInt_neg,Int.zero_sub]
theorem ae3{a:Int}(h:aV a=a):ak a=bu (Int64.ofInt a):=by
 rw[←nF,h]
theorem afU(a:Int64)(b:Int):ak (a.toInt.tmod b)=bu (Int64.ofInt (a.toInt.tmod b)):=by
 refine ae3 ?_;unfold aV;rw[IntKind.wrap_i64];have h1:=a.le_toInt;have h2:=a.toInt_lt;have h3:=Int.natAbs_tmod a.toInt b;have h4:(a.toInt.tmod b).natAbs≤a.toInt.natAbs:=by rw[h3];exact Nat.mod_le _ _
 have h7: -9223372036854775808≤a.toInt∧a.toInt≤9223372036854775807:=by omega
 clear h1 h2 h3;by_cases h5:0≤a.toInt
 ·have:=Int.tmod_nonneg b h5;generalize a.toInt.tmod b=x at*;omega
 ·have h6:=Int.tmod_nonneg b (show 0≤-a.toInt by omega);rw[Int.neg_tmod]at h6;generalize a.toInt.tmod b=x at*;omega
theorem bV{α:Type}{l:aiE α}{k:Nat}{x:α}{xs:aiE α}{n:Nat}(hd:l.drop k=x::xs)(hn:l.length=n)(hl:n≤maxLen):ak (aV ((k:Int)+1))=ak ((k+1:Nat):Int):=by
 have:(l.drop k).length=(x::xs).length:=by rw[hd]
 rw[List.length_drop,ahS]at this;have h1:k<maxLen:=by omega
 unfold maxLen at h1;have e:IntKind.i64.wrap ((k:Int)+1)=((k+1:Nat):Int):=by rw[IntKind.wrap_i64];omega
 unfold ak aV;rw[e]
theorem aU{α:Type}{l:aiE α}{k:Nat}{x:α}{xs:aiE α}(hd:l.drop k=x::xs):l[k]?=some x:=by
 have:(l.drop k)[0]?=some x:=by rw[hd];rfl
 rwa [List.getElem?_drop]at this
theorem bR{α:Type}{l:aiE α}{k:Nat}{x:α}{xs:aiE α}(hd:l.drop k=x::xs):l.drop (k+1)=xs:=by
 rw[←List.drop_drop,hd];rfl
theorem bN{α:Type}{l:aiE α}{k:Nat}{x:α}{xs:aiE α}(hd:l.drop k=x::xs):decide ((k:Int)<(l.length:Int))=true:=by
 have:(l.drop k).length=(x::xs).length:=by rw[hd]
 rw[List.length_drop,ahS]at this;exact aix (by omega)
theorem bO{α:Type}{l:aiE α}{k:Nat}(hd:l.drop k=[]):decide ((k:Int)<(l.length:Int))=false:=by
 have:=List.drop_eq_nil_iff.1 hd;exact aiy (by omega)
theorem de{n dx:Nat}(h:Nat.ble (n*dx) 140737488355328=true)(hb:1≤dx):n≤maxLen∧n*dx≤140737488355328:=by
 have h:=ahX h;refine⟨?_,h⟩;unfold maxLen;have:=Nat.le_mul_of_pos_right n hb;omega
theorem af:Tryz.prog.follows .mixedOrders=true:=by kernel_rfl
set_option maxRecDepth 100000
set_option maxHeartbeats 0
def xg(a b:Int64):Int64:=if b.toInt>a.toInt then b else a
theorem Se(a b:Int64):(if b.toInt>a.toInt then b.toInt else a.toInt)=(xg a b).toInt:=by unfold xg;split<;>rfl
theorem YN(a b:Int64):AV.d (.v (.int .i64 (if b.toInt>a.toInt then b.toInt else a.toInt)))=bu (xg a b):=by rw[Se];rfl
mutual
def LU:aq→aiE aq
 |⟨o,n,v,t,l,i,xs⟩=>⟨o,n,v,t,l,i,xs⟩::jS xs
def jS:aiE aq→aiE aq
 |[]=>[]
 |x::l=>LU x++jS l
end
def dJ(e:aq):aiE aq:=e::jS e.aM
theorem Ym(e:aq):LU e=dJ e:=by cases e;simp only[LU];rfl
theorem AF(x:aq)(l:aiE aq):jS (x::l)=dJ x++jS l:=by rw[jS,Ym]
theorem JJ{P:aiH}{k:Nat}:∀(l:aiE AV){C:Bool→aiE an→Prop}{h:aiE an},h.all (an.bf h.length)=true→lW P k l C h→lW P k l (fun b h1=>C b h1∧uB h h1) h
 |[],_,_,hl,hs=>⟨hs,rfl,hl⟩
 |x::l,C,h,hl,hs=>YS.mono hs fun b h1 ⟨h2,h3⟩=>⟨h2,by
  cases b with
  |true=>exact Vh l (fun b h4 ⟨h5,h6,h7⟩=>⟨h5,by rw[h6,h2.1],by rw[h2.1]at h7;exact h7⟩) (JJ l (by rw[h2.1];exact h2.2) h3)
  |false=>exact⟨h3,h2⟩⟩
def Ie(e:aq):Prop:=∀(k:Nat)(h:aiE an)(C:Bool→aiE an→Prop),h.all (an.bf h.length)=true→k<h.length→lW Tryz.prog k ((dJ e).map aF) C h→bY Tryz.prog 71 [aF e, .dp k] h fun r h1=>∃b,r= .d (.v (.bool b))∧C b h1∧uB h h1
theorem Rv{P:aiH}{fn:Func}{n:Nat}{t:aiE (Nat×AV)}{H h1 l:aiE an}{K:AV→aiE an→Prop}(k1:h1.length=H.length)(k2:h1.all (an.bf H.length)=true)(hr:lY P ⟨n,t,h1++l⟩ fn.results.toList fun rs=>((jk rs).bU h1.length).bf h1.length=true∧K ((jk rs).bU h1.length) h1):py P fn H.length K ⟨n,t,h1++l⟩:=by
 rw[←k1]at k2 ⊢;exact W8 k2 hr
theorem Bn{P:aiH}{fn:Func}{n:Nat}{t:aiE (Nat×AV)}{H h1 l:aiE an}{K:AV→aiE an→Prop}(k1:h1.length=H.length)(k2:h1.all (an.bf H.length)=true)(hr:lY P ⟨n,t,h1++l⟩ fn.results.toList fun rs=>((jk rs).bU h1.length).bf h1.length=true∧K ((jk rs).bU h1.length) h1):Iv P fn H.length K .ret ⟨n,t,h1++l⟩:=Rv k1 k2 hr
theorem acA(e:aq)(vF:∀x∈e.aM,Ie x):Ie e:=by
 intro k h C nN hk hs;refine Ah h.length Tryz.func71 rfl (by kernel_rfl) (ah0 _) ?_
 suffices hA:bS Tryz.prog none h.length _ _ ⟨23,[(0,aF e),(1, .dp k)],h++[]⟩ by rw[aia]at hA;exact hA
 repeat refine aR ?_
 refine fD ?_;refine cW rfl ?_;refine A7 (WJ (l:=[]) (v:=aF e) rfl (by kernel_rfl)) rfl rfl FH ?_;refine cW rfl ?_;refine dt (x:= .d (.v (.bool false))) (by kernel_rfl) rfl rfl ?_;refine cv ?_
 repeat refine aR ?_
 refine fD ?_;refine cW rfl ?_;refine dt (x:= .dp k) (by kernel_rfl) rfl rfl ?_;refine cW rfl ?_;refine dt (zY (i:=0) (off:=0) (l:=[]++[.cells (aF e).cells]) (x:=aF e) (by kernel_rfl) rfl (by kernel_rfl)) rfl rfl ?_;refine cW rfl ?_;rw[dJ,aie]at hs;have hy:=LK (JJ (aF e::_) nN hs) [.cells (aF e).cells] nN (by kernel_rfl) (fun b h' hh=>hh.1);refine G9 (k:=k) (x:=aF e) rfl rfl (by kernel_rfl) (by kernel_rfl) rfl rfl ?_;refine hy.mono fun b h' hh=> ?_;obtain⟨h1,⟨⟨k1,k2⟩,k3⟩,rfl⟩:=hh;refine cW rfl ?_;refine dt (x:= .d (.v (.bool (!b)))) (by kernel_rfl) rfl rfl ?_;refine cv ?_;cases b with
 |false=>
  refine lK (by kernel_rfl) ?_
  repeat refine aR ?_
  refine fD ?_;refine cW rfl ?_;refine dt (x:= .d (.v (.bool false))) (by kernel_rfl) rfl rfl ?_;refine cv ?_;refine dN (ej ?_);refine Bn k1 k2 ?_;exact⟨rfl,false,rfl,k3⟩
 |true=>
  refine lQ (by kernel_rfl) ?_;refine et ?_;refine cv ?_;simp only[cond_true]at k3
  repeat refine aR ?_
  refine fD ?_;refine cW rfl ?_;refine dt (x:= .ptr (h.length+0) 12) (by kernel_rfl) rfl rfl ?_;refine cW rfl ?_;refine dt (zY (h:=h1) (i:=0) (off:=12) (l:=[.cells (aF e).cells]) (x:= .d (.sl (cT e.aM))) (by rw[k1];rfl) rfl (by kernel_rfl)) rfl rfl ?_;refine cW rfl ?_;refine dt (x:= .d (.v (.int .i64 (cT e.aM).length))) (by kernel_rfl) rfl rfl ?_;refine cW rfl ?_;refine dt (x:= .d (.v (.int .i64 0))) (by kernel_rfl) rfl rfl ?_;refine cv ?_;refine pF 12 (cT e.aM) (by kernel_rfl) fun cE=> ?_;have nr:e.aM.length≤maxLen:=by rw[←b7];exact qH cE
  rw[b7]
  repeat refine aR ?_
  refine fe ?_;refine MB (ι:=Nat×aiE aq×aiE an) [1,12,13,14] h.length (fun i=>⟨23,[(1, .dp k),(12, .d (.sl (cT e.aM))),(13, .d (.v (.int .i64 e.aM.length))),(14, .d (.v (.int .i64 i.1)))],i.2.2⟩)
   (fun i=>e.aM.drop i.1=i.2.1∧uB h i.2.2∧lW Tryz.prog k ((jS i.2.1).map aF) (fun b h2=>C b h2∧uB h h2) i.2.2) (fun i=>i.2.1.length) (0,e.aM,h1) (ah0 _) ?_ ?_ ⟨rfl,⟨k1,k2⟩,k3⟩ ?_
  ·rw[←k1];exact Bo _ (by rw[k1];exact k2) (by
     show(((AV.dp k).bU h1.length).bf h1.length&&(true&&(true&&(true&&true))))=true;rw[k1];simp [AV.bU,AV.bf,cN];omega)
  ·rw[←k1];exact Eh _ (by rw[k1];exact k2)
  rintro⟨i,rest,hc⟩ ⟨hd,⟨c1,c2⟩,nE⟩;simp only at hd c1 c2 nE ⊢
  repeat refine aR ?_
  refine fD ?_;refine cW rfl ?_;refine dt (x:= .d (.v (.bool (decide ((i:Int)<(e.aM.length:Int)))))) (by kernel_rfl) rfl rfl ?_;refine cv ?_;refine aR ?_;cases rest with
  |nil=>
   rw[bO hd];refine lQ (by kernel_rfl) ?_;refine kZ (gH (gH (lJ rfl ?_)));refine cv ?_
   repeat refine aR ?_
   refine fD ?_;refine cW rfl ?_;rw[←aia hc];refine dt (x:= .d (.v (.bool true))) (by kernel_rfl) rfl rfl ?_;refine cv ?_;refine dN ?_;refine Bn c1 c2 ?_;rw[jS,List.map_nil]at nE;exact⟨rfl,true,rfl,nE⟩
  |cons x rest=>
   rw[bN hd];refine lK (by kernel_rfl) ?_;refine et ?_;refine cv ?_
   repeat refine aR ?_
   refine fe ?_
   repeat refine aR ?_
   refine fD ?_;refine cW rfl ?_;rw[←aia hc];refine dt (Mw (q:=i) (e:=52) (k:=13) rfl rfl (by kernel_rfl) (ik (aU hd)) rfl) rfl rfl ?_;refine cW rfl ?_;refine dt (x:=aF x) (by kernel_rfl) rfl rfl ?_;refine cW rfl ?_;refine A7 (J8 (l:=[]) (by kernel_rfl)) rfl rfl FH ?_;refine cW rfl ?_;refine II (Mr (i:=0) (off:=0) (k:=13) (l:=[_]) (v:=aF x) (cB:=(aF x).cells) (by kernel_rfl) rfl (by kernel_rfl) rfl (by kernel_rfl) (by kernel_rfl)) rfl LZ ?_;refine cv ?_
   repeat refine aR ?_
   refine fD ?_;refine cW rfl ?_;refine dt (zY (i:=0) (off:=0) (l:=[.cells (aF x).cells]) (x:=aF x) (by kernel_rfl) rfl (by kernel_rfl)) rfl rfl ?_;refine cW rfl ?_;refine dt (x:= .dp k) (by kernel_rfl) rfl rfl ?_;refine cW rfl ?_;rw[AF,List.map_append]at nE;have wM:=RK _ _ nE;have hw:=vF x (ah2 (aU hd)) k hc _ (by rw[c1];exact c2) (by rw[c1];exact hk) wM;have hw2:=ZM hw [.cells (aF x).cells] (by rw[c1];exact c2) (by
    rw[c1];show((aF x).bf h.length&&((AV.dp k).bf h.length&&true))=true;rw[show(aF x).bf h.length=true by kernel_rfl];simp [AV.bf,cN];omega) (fun r h' hh=>by
    obtain⟨b,rfl,_,q1,q2⟩:=hh;exact⟨q1,q2,rfl⟩)
   refine Q0 (g:=71) (dO:=[]) rfl rfl rfl ?_;refine hw2.mono fun r h' hh=> ?_;obtain⟨h2,⟨b,rfl,q0,q1,q2⟩,rfl⟩:=hh;refine cW rfl ?_;refine dt (x:= .d (.v (.bool (!b)))) (by kernel_rfl) rfl rfl ?_;refine cv ?_;cases b with
   |false=>
    refine lK (by kernel_rfl) ?_
    repeat refine aR ?_
    refine fD ?_;refine cW rfl ?_;refine dt (x:= .d (.v (.bool false))) (by kernel_rfl) rfl rfl ?_;refine cv ?_;refine dN (fq (ej (ej (fq (ej ?_)))));refine Bn (h1:=h2) (by rw[q1,c1]) (by rw[c1]at q2;exact q2) ?_;exact⟨rfl,false,rfl,q0⟩
   |true=>
    refine lQ (by kernel_rfl) ?_;refine et ?_;refine iA ?_;refine cv ?_;simp only[cond_true]at q0;refine fD ?_;refine cW rfl ?_;refine dt (x:= .d (.v (.int .i64 ((i+1:Nat):Int)))) (by
     show some ((.d (.v (.int .i64 (aV ((i:Int)+1)))):AV),HD.same)=_;have:=bV hd rfl nr;unfold ak at this;rw[this]) rfl rfl ?_
    refine cW rfl ?_;refine dt (x:= .d (.v (.int .i64 ((i+1:Nat):Int)))) (by kernel_rfl) rfl rfl ?_;refine cv ?_;have e1:h2.length=h.length:=by rw[q1,c1]
    have e2:h2.all (an.bf h2.length)=true:=by rw[q1];exact q2
    refine⟨?_,(i+1,rest,h2),?_,⟨bR hd,⟨e1,by rw[←e1];exact e2⟩,q0⟩,aiC _⟩
    ·rw[←e1];exact Bo _ e2 (by
       show(((AV.dp k).bU h2.length).bf h2.length&&(true&&(true&&(true&&true))))=true;rw[e1];simp [AV.bU,AV.bf,cN];omega)
    ·rw[←e1];exact Eh _ e2
mutual
theorem U7:(e:aq)→Ie e
 |⟨_,_,_,_,_,_,xs⟩=>acA _ (TW xs)
theorem TW:(l:aiE aq)→∀x∈l,Ie x
 |[],_,h=>absurd h aiw
 |x::l,y,h=>(aik.1 h).elim (fun e=>e▸U7 x) (TW l y)
end
theorem KI{P:aiH}{fn:Func}{n:Nat}{t:aiE (Nat×AV)}{H h1:aiE an}{K:AV→aiE an→Prop}(k1:h1.length=H.length)(k2:h1.all (an.bf H.length)=true)(hr:lY P ⟨n,t,h1⟩ fn.results.toList fun rs=>((jk rs).bU h1.length).bf h1.length=true∧K ((jk rs).bU h1.length) h1):Iv P fn H.length K .normal ⟨n,t,h1⟩:=by
 have:=Rv (P:=P) (fn:=fn) (n:=n) (t:=t) (l:=[]) (K:=K) k1 k2;rw[aia]at this;exact this hr
theorem abK{P:aiH}{fn:Func}{n:Nat}{t:aiE (Nat×AV)}{H h1:aiE an}{K:AV→aiE an→Prop}(k1:h1.length=H.length)(k2:h1.all (an.bf H.length)=true)(hr:lY P ⟨n,t,h1⟩ fn.results.toList fun rs=>((jk rs).bU h1.length).bf h1.length=true∧K ((jk rs).bU h1.length) h1):Iv P fn H.length K .ret ⟨n,t,h1⟩:=KI k1 k2 hr
theorem Lm(e:aq):Kw Tryz.prog 70 [.bt [dy e] 0 0] ((dJ e).map aF):=by
 intro k h C nN hk hs;refine Ah h.length Tryz.func70 rfl (by kernel_rfl) (ah0 _) ?_;show bS Tryz.prog none h.length _ _ ⟨6,[(0, .dp k),(1, .bt [dy e] 0 0)],h⟩;refine fD ?_;refine cW rfl ?_;refine dt (x:=aF e) (by kernel_rfl) rfl rfl ?_;refine cW rfl ?_;refine dt (x:= .dp k) (by kernel_rfl) rfl rfl ?_;refine cW rfl ?_;refine Q0 (g:=71) (dO:=[]) rfl rfl rfl ?_;refine(U7 e k h C nN hk hs).mono fun r h' hh=> ?_;obtain⟨b,rfl,q0,q1,q2⟩:=hh;refine KI (n:=6) (t:=[(5, .d (.v (.bool b))),(4, .dp k),(3,aF e),(0, .dp k),(1, .bt [dy e] 0 0)]) q1 q2 ?_;exact⟨rfl,b,q0⟩
def nq(x:az):aiE ax:=x.aK::x.bp
def kh(e:aq):aiE ax:=e.aK::e.xIdx.flatMap nq
theorem ad4(e:aq):Kw Tryz.prog 238 [.bt [dy e] 0 0] ((kh e).map b9):=by
 intro k h C nN hk Je;have hs:=JJ _ nN Je;refine Ah h.length Tryz.func238 rfl (by kernel_rfl) (ah0 _) ?_;show bS Tryz.prog none h.length _ _ ⟨37,[(0, .dp k),(1, .bt [dy e] 0 0)],h⟩
 repeat refine aR ?_
 refine fD ?_;refine cW rfl ?_;refine dt (x:= .dp k) (by kernel_rfl) rfl rfl ?_;refine cW rfl ?_;refine dt (x:= .bt [dy e] 0 9) (by kernel_rfl) rfl rfl ?_;refine cW rfl ?_;refine dt (x:=b9 e.aK) (by kernel_rfl) rfl rfl ?_;refine cW rfl ?_;rw[kh,aie]at hs;refine G9 (k:=k) (x:=b9 e.aK) rfl rfl (by kernel_rfl) (by kernel_rfl) rfl rfl ?_;refine YS.mono hs fun b h1 hh=> ?_;obtain⟨⟨k1,k2⟩,k3⟩:=hh;refine cW rfl ?_;refine dt (x:= .d (.v (.bool (!b)))) (by kernel_rfl) rfl rfl ?_;refine cv ?_;cases b with
 |false=>
  refine lK (by kernel_rfl) ?_;refine dN (ej ?_);exact abK k1 k2 ⟨rfl,false,k3.1⟩
 |true=>
  refine lQ (by kernel_rfl) ?_;refine et ?_;refine cv ?_;simp only[cond_true]at k3
  repeat refine aR ?_
  refine fD ?_;refine cW rfl ?_;refine dt (x:= .bt [dy e] 0 11) (by kernel_rfl) rfl rfl ?_;refine cW rfl ?_;refine dt (x:= .d (.sl (bJ e.xIdx))) (by kernel_rfl) rfl rfl ?_;refine cW rfl ?_;refine dt (x:= .d (.v (.int .i64 (bJ e.xIdx).length))) (by kernel_rfl) rfl rfl ?_;refine cW rfl ?_;refine dt (x:= .d (.v (.int .i64 0))) (by kernel_rfl) rfl rfl ?_;refine cv ?_;refine pF 13 (bJ e.xIdx) (by kernel_rfl) fun cE=> ?_;have nr:e.xIdx.length≤maxLen:=by rw[←cn];exact qH cE
  rw[cn];refine fe ?_;refine MB (ι:=Nat×aiE az×aiE an) [0,13,14,15] h.length (fun i=>⟨37,[(0, .dp k),(13, .d (.sl (bJ e.xIdx))),(14, .d (.v (.int .i64 e.xIdx.length))),(15, .d (.v (.int .i64 i.1)))],i.2.2⟩)
    (fun i=>e.xIdx.drop i.1=i.2.1∧uB h i.2.2∧lW Tryz.prog k ((i.2.1.flatMap nq).map b9) (fun b h2=>C b h2∧uB h h2) i.2.2) (fun i=>i.2.1.length) (0,e.xIdx,h1) (ah0 _) ?_ ?_ ⟨rfl,⟨k1,k2⟩,k3⟩ ?_
  ·rw[←k1];exact Tf _ (by rw[k1];exact k2) (by
     show(((AV.dp k).bU h1.length).bf h1.length&&(true&&(true&&(true&&true))))=true;rw[k1,Gq hk];rfl)
  ·rw[←k1];exact Rq _ (by rw[k1];exact k2)
  rintro⟨i,rest,hc⟩ ⟨hd,⟨c1,c2⟩,nE⟩;simp only at hd c1 c2 nE ⊢
  repeat refine aR ?_
  refine fD ?_;refine cW rfl ?_;refine dt (x:= .d (.v (.bool (decide ((i:Int)<(e.xIdx.length:Int)))))) (by kernel_rfl) rfl rfl ?_;refine cv ?_
  repeat refine aR ?_
  cases rest with
  |nil=>
   rw[bO hd];refine lQ (by kernel_rfl) ?_;refine kZ (gH (gH (lJ rfl ?_)));rw[List.flatMap_nil,List.map_nil]at nE;exact KI c1 c2 ⟨rfl,true,nE.1⟩
  |cons x rest=>
   rw[bN hd];refine lK (by kernel_rfl) ?_;refine et ?_;refine cv ?_
   repeat refine aR ?_
   refine fe ?_
   repeat refine aR ?_
   refine fD ?_;refine cW rfl ?_;rw[←aia hc];refine dt (Mw (q:=i) (e:=80) (k:=4) rfl rfl (by kernel_rfl) (eH (aU hd)) rfl) rfl rfl ?_;refine cW rfl ?_;refine dt (x:=fx x) (by kernel_rfl) rfl rfl ?_;refine cW rfl ?_;refine A7 (J8 (l:=[]) (by kernel_rfl)) rfl rfl FH ?_;refine cW rfl ?_;refine II (Mr (i:=0) (off:=0) (k:=4) (l:=[_]) (v:=fx x) (cB:=(fx x).cells) (by kernel_rfl) rfl (by kernel_rfl) rfl (by kernel_rfl) (by kernel_rfl)) rfl LZ ?_;refine cv ?_
   repeat refine aR ?_
   refine fD ?_;refine cW rfl ?_;refine dt (x:= .dp k) (by kernel_rfl) rfl rfl ?_;refine cW rfl ?_;refine dt (x:= .ptr (hc.length+0) 0) (by kernel_rfl) rfl rfl ?_;refine cW rfl ?_;refine dt (zY (i:=0) (off:=0) (l:=[.cells (fx x).cells]) (x:=b9 x.aK) (by kernel_rfl) rfl (by kernel_rfl)) rfl rfl ?_;refine cW rfl ?_;rw[List.flatMap_cons,nq,List.cons_append,aie]at nE;have hy:=LK nE [.cells (fx x).cells] (by rw[c1];exact c2) (by kernel_rfl) (fun b h' hh=>hh.1);refine G9 (k:=k) (x:=b9 x.aK) rfl rfl (by kernel_rfl) (by kernel_rfl) rfl rfl ?_;refine hy.mono fun b h' hh=> ?_;obtain⟨h2,⟨⟨p1,p2⟩,p3⟩,rfl⟩:=hh;refine cW rfl ?_;refine dt (x:= .d (.v (.bool (!b)))) (by kernel_rfl) rfl rfl ?_;refine cv ?_;have q1:h2.length=h.length:=by rw[p1,c1]
   have q2:h2.all (an.bf h.length)=true:=by rw[c1]at p2;exact p2
   cases b with
   |false=>
    refine lK (by kernel_rfl) ?_;refine dN ?_
    repeat (first|(with_reducible refine ej ?_)|(with_reducible refine fq ?_))
    exact Bn q1 q2 ⟨rfl,false,p3.1⟩
   |true=>
    refine lQ (by kernel_rfl) ?_;refine et ?_;refine cv ?_;simp only[cond_true]at p3
    repeat refine aR ?_
    refine fD ?_;refine cW rfl ?_;refine dt (x:= .ptr (hc.length+0) 3) (by kernel_rfl) rfl rfl ?_;refine cW rfl ?_;refine dt (zY (h:=h2) (i:=0) (off:=3) (l:=[.cells (fx x).cells]) (x:= .d (.sl (cz x.bp))) (by rw[p1];rfl) rfl (by kernel_rfl)) rfl rfl ?_;refine cW rfl ?_;refine dt (x:= .d (.v (.int .i64 (cz x.bp).length))) (by kernel_rfl) rfl rfl ?_;refine cW rfl ?_;refine dt (x:= .d (.v (.int .i64 0))) (by kernel_rfl) rfl rfl ?_;refine cv ?_;refine pF 25 (cz x.bp) (by kernel_rfl) fun Yq=> ?_;have acT:x.bp.length≤maxLen:=by rw[←bM];exact qH Yq
    rw[bM];refine fe ?_;refine MB (ι:=Nat×aiE ax×aiE an) [0,13,14,15,25,26,27] h.length (fun j=>⟨37,[(0, .dp k),(13, .d (.sl (bJ e.xIdx))),(14, .d (.v (.int .i64 e.xIdx.length))),(15, .d (.v (.int .i64 i))),(25, .d (.sl (cz x.bp))),(26, .d (.v (.int .i64 x.bp.length))),(27, .d (.v (.int .i64 j.1)))],j.2.2⟩)
      (fun j=>x.bp.drop j.1=j.2.1∧uB h j.2.2∧lW Tryz.prog k ((j.2.1++rest.flatMap nq).map b9) (fun b h2=>C b h2∧uB h h2) j.2.2) (fun j=>j.2.1.length) (0,x.bp,h2) (ah0 _) ?_ ?_ ⟨rfl,⟨q1,q2⟩,p3⟩ ?_
    ·rw[←q1];exact Bo _ (by rw[q1];exact q2) (by
       show(((AV.dp k).bU h2.length).bf h2.length&&(true&&(true&&(true&&(true&&(true&&(true&&true)))))))=true;rw[q1,Gq hk];rfl)
    ·rw[←q1];exact Eh _ (by rw[q1];exact q2)
    rintro⟨j,r2,hb⟩ ⟨mK,⟨b1,b2⟩,wM⟩;simp only at mK b1 b2 wM ⊢
    repeat refine aR ?_
    refine fD ?_;refine cW rfl ?_;refine dt (x:= .d (.v (.bool (decide ((j:Int)<(x.bp.length:Int)))))) (by kernel_rfl) rfl rfl ?_;refine cv ?_
    repeat refine aR ?_
    cases r2 with
    |nil=>
     rw[bO mK];refine lQ (by kernel_rfl) ?_;refine kZ (gH (gH (lJ rfl ?_)));refine iA ?_;refine cv ?_;rw[List.nil_append]at wM;refine fD ?_;refine cW rfl ?_;refine dt (x:= .d (.v (.int .i64 ((i+1:Nat):Int)))) (by
       show some ((.d (.v (.int .i64 (aV ((i:Int)+1)))):AV),HD.same)=_;have:=bV hd rfl nr;unfold ak at this;rw[this]) rfl rfl ?_
     refine cW rfl ?_;refine dt (x:= .d (.v (.int .i64 ((i+1:Nat):Int)))) (by kernel_rfl) rfl rfl ?_;refine cv ?_;refine⟨?_,(i+1,rest,hb),?_,⟨bR hd,⟨b1,b2⟩,wM⟩,aiC _⟩
     ·rw[←b1];exact Tf _ (by rw[b1];exact b2) (by
        show(((AV.dp k).bU hb.length).bf hb.length&&(true&&(true&&(true&&true))))=true;rw[b1,Gq hk];rfl)
     ·rw[←b1];exact Rq _ (by rw[b1];exact b2)
    |cons y r2=>
     rw[bN mK];refine lK (by kernel_rfl) ?_;refine et ?_;refine cv ?_
     repeat refine aR ?_
     refine fe ?_
     repeat refine aR ?_
     refine fD ?_;refine cW rfl ?_;rw[←aia hb];refine dt (Mw (q:=j) (e:=48) (k:=2) rfl rfl (by kernel_rfl) (hY (aU mK)) rfl) rfl rfl ?_;refine cW rfl ?_;refine dt (x:=b9 y) (by kernel_rfl) rfl rfl ?_;refine cW rfl ?_;refine A7 (J8 (l:=[]) (by kernel_rfl)) rfl rfl FH ?_;refine cW rfl ?_;refine II (Mr (i:=0) (off:=0) (k:=2) (l:=[_]) (v:=b9 y) (cB:=(b9 y).cells) (by kernel_rfl) rfl (by kernel_rfl) rfl (by kernel_rfl) (by kernel_rfl)) rfl LZ ?_;refine cv ?_
     repeat refine aR ?_
     refine fD ?_;refine cW rfl ?_;refine dt (x:= .dp k) (by kernel_rfl) rfl rfl ?_;refine cW rfl ?_;refine dt (zY (i:=0) (off:=0) (l:=[.cells (b9 y).cells]) (x:=b9 y) (by kernel_rfl) rfl (by kernel_rfl)) rfl rfl ?_;refine cW rfl ?_;rw[List.cons_append,aie]at wM;have MU:=LK wM [.cells (b9 y).cells] (by rw[b1];exact b2) (by kernel_rfl) (fun b h' hh=>hh.1);refine G9 (k:=k) (x:=b9 y) rfl rfl (by kernel_rfl) (by kernel_rfl) rfl rfl ?_;refine MU.mono fun b h' hh=> ?_;obtain⟨h3,⟨⟨r1,r3⟩,r4⟩,rfl⟩:=hh;refine cW rfl ?_;refine dt (x:= .d (.v (.bool (!b)))) (by kernel_rfl) rfl rfl ?_;refine cv ?_;have u1:h3.length=h.length:=by rw[r1,b1]
     have u2:h3.all (an.bf h.length)=true:=by rw[b1]at r3;exact r3
     cases b with
     |false=>
      refine lK (by kernel_rfl) ?_;refine dN ?_
      repeat (first|(with_reducible refine ej ?_)|(with_reducible refine fq ?_))
      exact Bn u1 u2 ⟨rfl,false,r4.1⟩
     |true=>
      refine lQ (by kernel_rfl) ?_;refine et ?_;refine iA ?_;refine cv ?_;simp only[cond_true]at r4;refine fD ?_;refine cW rfl ?_;refine dt (x:= .d (.v (.int .i64 ((j+1:Nat):Int)))) (by
       show some ((.d (.v (.int .i64 (aV ((j:Int)+1)))):AV),HD.same)=_;have:=bV mK rfl acT;unfold ak at this;rw[this]) rfl rfl ?_
      refine cW rfl ?_;refine dt (x:= .d (.v (.int .i64 ((j+1:Nat):Int)))) (by kernel_rfl) rfl rfl ?_;refine cv ?_;refine⟨?_,(j+1,r2,h3),?_,⟨bR mK,⟨u1,u2⟩,r4⟩,aiC _⟩
      ·rw[←u1];exact Bo _ (by rw[u1];exact u2) (by
         show(((AV.dp k).bU h3.length).bf h3.length&&(true&&(true&&(true&&(true&&(true&&(true&&true)))))))=true;rw[u1,Gq hk];rfl)
      ·rw[←u1];exact Eh _ (by rw[u1];exact u2)
theorem Y0(v1:aq):bg Tryz.prog 34 [(aF v1)] (·= .fn 70 [.bt [dy v1] 0 0]):=by
 refine T8 (r:= .fn 70 [(.ptr 0 0)]) (h:=[.cells (aF v1).cells]) ?_ (by kernel_rfl) rfl;refine D5 1 Tryz.func34 rfl (by kernel_rfl) (ahX rfl) ?_;refine lP (s':=⟨4,[(0,(aF v1))],[]⟩) (by kernel_rfl) ?_;refine aR ?_;refine rg [] [(1,(.ptr 0 0))] [.cells (aF v1).cells] (by kernel_rfl) ?_;refine aR ?_;refine rg [] [(2,(.fn 70 [(.ptr 0 0)]))] [.cells (aF v1).cells] (by kernel_rfl) ?_;refine dN ?_;exact EK (by kernel_rfl)
theorem Zu(v1:aq):bg Tryz.prog 205 [(aF v1)] (·= .fn 238 [.bt [dy v1] 0 0]):=by
 refine T8 (r:= .fn 238 [(.ptr 0 0)]) (h:=[.cells (aF v1).cells]) ?_ (by kernel_rfl) rfl;refine D5 1 Tryz.func205 rfl (by kernel_rfl) (ahX rfl) ?_;refine lP (s':=⟨4,[(0,(aF v1))],[]⟩) (by kernel_rfl) ?_;refine aR ?_;refine rg [] [(1,(.ptr 0 0))] [.cells (aF v1).cells] (by kernel_rfl) ?_;refine aR ?_;refine rg [] [(2,(.fn 238 [(.ptr 0 0)]))] [.cells (aF v1).cells] (by kernel_rfl) ?_;refine dN ?_;exact EK (by kernel_rfl)
end Go.Proofs.YtphmhnabilhbgaaGreatDoor
namespace Go.Proofs.YtphmhnabilhbgaaGreatDoor
open Go.RowKit Go.Shelf
set_option maxRecDepth 100000
def agF:Ren where
 f:=fun
  |157=>198
  |229=>226
  |199=>227
  |261=>244
  |311=>251
  |312=>252
  |n=>n
 t:=fun
  |9=>9
  |31=>22
  |3=>3
  |5=>5
  |4=>4
  |119=>235
  |0=>0
  |40=>168
  |152=>240
  |21=>21
  |154=>242
  |51=>191
  |141=>244
  |196=>251
  |193=>248
  |198=>254
  |49=>252
  |194=>249
  |201=>257
  |226=>259
  |46=>161
  |227=>260
  |n=>n
 g:=fun
  |0=>0
  |6=>2
  |n=>n
def lZ:aiE aiF:=[bs [115,105,122,101],bs [119,104,101,114,101],bs [105,110],bs [100,101,102],bs [111,117,116],bs [115,117,109],bs [112,114,111,100],bs [109,105,110],bs [109,97,120],bs [115,99,97,110],bs [111,118,101,114],bs [105,102],bs [99,97,115,116],bs [102,114,97,99],bs [105,110,116],bs [102,105,120],bs [99,101,105,108],bs [102,108,111,111,114],bs [122,101,114,111],bs [101,118,101,110],bs [115,97,116],bs [119,114,97,112]]
theorem acJ:Lays.n157 Tryz.prog agF:=by
 constructor<;>first|kernel_rfl|(intro w;rfl)
def CN:aiF:=⟨#[115,105,122,101,32,119,104,101,114,101,32,105,110,32,100,101,102,32,111,117,116,32,115,117,109,32,112,114,111,100,32,109,105,110,32,109,97,120,32,115,99,97,110,32,111,118,101,114,32,105,102,32,99,97,115,116,32,102,114,97,99,32,105,110,116,32,102,105,120,32,99,101,105,108,32,102,108,111,111,114,32,122,101,114,111,32,101,118,101,110,32,115,97,116,32,119,114,97,112]⟩
theorem Wv(w:aiJ)(hT:∀c:Nat,c<256→w.cell? ⟨0,c,none⟩=some (.int .u8 (if Lib.isSp (UInt8.ofNat c)then 1 else 0))):
 Calls Tryz.prog 198 #[.string CN] w fun e w'=>e= .returned (.slice (some ⟨w.heap.size,0,none⟩) 22 22)∧w'=w.alloc (.cells (lZ.map Value.string).toArray 9):=by
 have ha:(CN.data.toList.all fun b=>decide (b.toNat<128))=true:=by kernel_rfl
 have h:=Any.strings_Fields_core acJ (by kernel_rfl) CN w (of_decide_eq_true (by kernel_rfl)) (fun j b hb=>of_decide_eq_true (aif.1 ha b (ah2 hb))) hT;have e1:(Lib.fields CN.data.toList).length=22:=by kernel_rfl
 have e2:((Lib.fields CN.data.toList).map fun l=>Value.string ⟨l.toArray⟩)=lZ.map Value.string:=by kernel_rfl
 rw[e1,e2]at h;exact h
theorem ae5(w:aiJ)(hT:∀c:Nat,c<256→w.cell? ⟨0,c,none⟩=some (.int .u8 (if Lib.isSp (UInt8.ofNat c)then 1 else 0))):
 Calls Tryz.prog 162 #[] w fun e w'=>e= .returned (.slice (some ⟨w.heap.size,0,none⟩) 22 22)∧w'=w.alloc (.cells (lZ.map Value.string).toArray 9):=by
 go_enter Tryz.func162,Tryz.ntmps162
 go_wp2_with (go_at_call 198;refine(Wv _ hT).mono ?_;rintro e w' ⟨rfl,rfl⟩)
 go_ret
 exact⟨rfl,rfl⟩
theorem abX:∀c:Nat,c<256→(xb Dy)[c]?=some (.int .u8 (if Lib.isSp (UInt8.ofNat c)then 1 else 0)):=fun c hc=>by
 rw[show xb Dy=(List.range 256).map fun c=>Value.int .u8 (if Lib.isSp (UInt8.ofNat c)then 1 else 0) by kernel_rfl,ahW,List.getElem?_range hc];rfl
theorem ahj:bg Tryz.prog 162 [] (·= .d (.sl (aB lZ))):=by
 refine⟨by kernel_rfl,fun G w vs hi hl hr=> ?_⟩;obtain rfl:vs= #[]:=Array.size_eq_zero_iff.1 hl;refine(ae5 w fun c hc=> ?_).mono fun e w' hp=> ?_
 ·exact(hi.gl.1 0 (xb Dy) ahV c _ (abX c hc)).2
 ·obtain⟨rfl,rfl⟩:=hp;obtain⟨i1,i2⟩:=So hi (.cells (lZ.map Value.string).toArray 9) 22;have Bz:Rd (G.tb w.heap.size 22).S (w.alloc (.cells (lZ.map Value.string).toArray 9)) 1 (aB lZ) (lZ.map Value.string):=
   ⟨rfl,fun x hx=>(by obtain⟨y,_,rfl⟩:=List.mem_map.1 hx;rfl),fun u hu=>(by obtain⟨y,_,rfl⟩:=List.mem_map.1 hu;rfl),fun i j x d hx hd=>by
    rw[mz,ahW]at hx;cases hk:lZ[i]? with
    |none=>rw[hk]at hx;cases hx
    |some y=>
     rw[hk]at hx;cases hx;cases j with
     |zero=>cases hd;exact⟨.string y,by rw[Nat.mul_one,Nat.add_zero,ahW,hk];rfl, .v _⟩
     |succ j=>cases hd⟩
  have hp:=Bz.Gf w.heap.size 22 (by decide) (by decide) (fun o ho=> .inr ⟨rfl,ho⟩) (fun o u hu=>by
   rw[World.cell?_alloc_new,List.getElem?_toArray];exact hu)
  exact⟨_,_,_,_,rfl,i1,ah0 _,i2, .d hp,rfl,rfl⟩
end Go.Proofs.YtphmhnabilhbgaaGreatDoor
namespace Go.Proofs.YtphmhnabilhbgaaGreatDoor
open Go.RowKit
set_option maxRecDepth 1000000
set_option maxRecDepth 100000
theorem ahv{xs:aiE (aiE D)}(hk:∀c∈xs,c.length=1)(hm:xs.length≤maxLen)(hb:xs.length*16≤140737488355328):bg Tryz.prog 51 [.d (.sl xs)] (·= .d (.sl xs)):=by
 refine qg Tryz.func51 rfl (by kernel_rfl) ?_;refine gF [0] 0 (ah0 _) (s':=⟨8,[(0, .d (.sl xs))],[]⟩) (by kernel_rfl) ?_;refine aR ?_;refine rg [] [] [] (by kernel_rfl) ?_
 repeat refine aR ?_
 refine fD ?_;refine cW rfl ?_;refine dt (x:= .d (.sl xs)) (by kernel_rfl) rfl rfl ?_;refine cW rfl ?_;refine CI (xs:=xs) (q:=(9,1)) rfl rfl rfl (by kernel_rfl) rfl rfl (fun he=> ?_) ?_
 ·subst he;refine cv ?_;refine lK (by kernel_rfl) ?_
  repeat refine aR ?_
  refine rg [] [(2, .d (.v (.slice none 0 0)))] [] (by kernel_rfl) ?_;refine dN ?_
  repeat (first|(with_reducible refine ej ?_)|(with_reducible refine fq ?_))
  exact gn (by kernel_rfl)
 ·refine cv ?_;refine lQ (by kernel_rfl) ?_;refine et ?_;refine cv ?_
  repeat refine aR ?_
  refine rg [(7,⟨_,_, .app (xs:=[]) (ys:=xs) (zs:=xs) (len:=0) (k:=1) (dx:=16) (n:=xs.length) rfl (fun _ hc=>absurd hc aiw) hk (by simpa using hm) (by simpa using hb) rfl (by simp)⟩)] [(2, .own 0 xs)] [.front 9 1 xs.length] (by kernel_rfl) ?_;refine dN ?_
  repeat (first|(with_reducible refine ej ?_)|(with_reducible refine fq ?_))
  exact gn (by kernel_rfl)
theorem adl{xs:aiE (aiE D)}(hk:∀c∈xs,c.length=2)(hm:xs.length≤maxLen)(hb:xs.length*24≤140737488355328):bg Tryz.prog 85 [.d (.sl xs)] (·= .d (.sl xs)):=by
 refine qg Tryz.func85 rfl (by kernel_rfl) ?_;refine gF [0] 0 (ah0 _) (s':=⟨8,[(0, .d (.sl xs))],[]⟩) (by kernel_rfl) ?_;refine aR ?_;refine rg [] [] [] (by kernel_rfl) ?_
 repeat refine aR ?_
 refine fD ?_;refine cW rfl ?_;refine dt (x:= .d (.sl xs)) (by kernel_rfl) rfl rfl ?_;refine cW rfl ?_;refine CI (xs:=xs) (q:=(92,2)) rfl rfl rfl (by kernel_rfl) rfl rfl (fun he=> ?_) ?_
 ·subst he;refine cv ?_;refine lK (by kernel_rfl) ?_
  repeat refine aR ?_
  refine rg [] [(2, .d (.v (.slice none 0 0)))] [] (by kernel_rfl) ?_;refine dN ?_
  repeat (first|(with_reducible refine ej ?_)|(with_reducible refine fq ?_))
  exact gn (by kernel_rfl)
 ·refine cv ?_;refine lQ (by kernel_rfl) ?_;refine et ?_;refine cv ?_
  repeat refine aR ?_
  refine rg [(7,⟨_,_, .app (xs:=[]) (ys:=xs) (zs:=xs) (len:=0) (k:=2) (dx:=24) (n:=xs.length) rfl (fun _ hc=>absurd hc aiw) hk (by simpa using hm) (by simpa using hb) rfl (by simp)⟩)] [(2, .own 0 xs)] [.front 92 2 xs.length] (by kernel_rfl) ?_;refine dN ?_
  repeat (first|(with_reducible refine ej ?_)|(with_reducible refine fq ?_))
  exact gn (by kernel_rfl)
theorem Xl{xs:aiE (aiE D)}(hk:∀c∈xs,c.length=4)(hm:xs.length≤maxLen)(hb:xs.length*72≤140737488355328):bY Tryz.prog 120 [.d (.sl xs)] [] fun r1 h1=>r1= .vec 0 0 xs.length xs.length 4∧h1=[.vec 80 4 (aO xs)]:=by
 refine tu 1 Tryz.func120 rfl (by kernel_rfl) (ahX rfl) ?_;refine gF [0] 0 (ah0 _) (s':=⟨8,[(0, .d (.sl xs))],[]⟩) (by kernel_rfl) ?_;refine aR ?_;refine rg [] [] [] (by kernel_rfl) ?_
 repeat refine aR ?_
 refine fD ?_;refine cW rfl ?_;refine dt (x:= .d (.sl xs)) (by kernel_rfl) rfl rfl ?_;refine cW rfl ?_;refine CI (xs:=xs) (q:=(80,4)) rfl rfl rfl (by kernel_rfl) rfl rfl (fun he=> ?_) ?_
 ·subst he;refine cv ?_;refine lK (by kernel_rfl) ?_
  repeat refine aR ?_
  refine rg [] [(2, .d (.v (.slice none 0 0)))] [] (by kernel_rfl) ?_;refine H4 2 80 4 (by kernel_rfl) ?_;refine dN ?_
  repeat (first|(with_reducible refine ej ?_)|(with_reducible refine fq ?_))
  exact lU (gq (xs:=[]) fh) (by kernel_rfl)
 ·refine cv ?_;refine lQ (by kernel_rfl) ?_;refine et ?_;refine cv ?_
  repeat refine aR ?_
  refine rg [(7,⟨_,_, .pr (.ap (aO xs) (aO xs) xs.length xs.length) (Kz (h:=[]) (k:=4) (dx:=72) (y:= .d (.sl xs)) hk rfl hm hb)⟩)] [(2, .vec 0 0 xs.length xs.length 4)] [.vec 80 4 (aO xs)] (by kernel_rfl) ?_;refine dN ?_
  repeat (first|(with_reducible refine ej ?_)|(with_reducible refine fq ?_))
  exact lU (gq (xs:=xs) fh) (by kernel_rfl)
theorem ahr{xs:aiE (aiE D)}(hk:∀c∈xs,c.length=2)(hm:xs.length≤maxLen)(hb:xs.length*32≤140737488355328):bY Tryz.prog 121 [.d (.sl xs)] [] fun r1 h1=>r1= .vec 0 0 xs.length xs.length 2∧h1=[.vec 48 2 (aO xs)]:=by
 refine tu 1 Tryz.func121 rfl (by kernel_rfl) (ahX rfl) ?_;refine gF [0] 0 (ah0 _) (s':=⟨8,[(0, .d (.sl xs))],[]⟩) (by kernel_rfl) ?_;refine aR ?_;refine rg [] [] [] (by kernel_rfl) ?_
 repeat refine aR ?_
 refine fD ?_;refine cW rfl ?_;refine dt (x:= .d (.sl xs)) (by kernel_rfl) rfl rfl ?_;refine cW rfl ?_;refine CI (xs:=xs) (q:=(48,2)) rfl rfl rfl (by kernel_rfl) rfl rfl (fun he=> ?_) ?_
 ·subst he;refine cv ?_;refine lK (by kernel_rfl) ?_
  repeat refine aR ?_
  refine rg [] [(2, .d (.v (.slice none 0 0)))] [] (by kernel_rfl) ?_;refine H4 2 48 2 (by kernel_rfl) ?_;refine dN ?_
  repeat (first|(with_reducible refine ej ?_)|(with_reducible refine fq ?_))
  exact lU (gq (xs:=[]) fh) (by kernel_rfl)
 ·refine cv ?_;refine lQ (by kernel_rfl) ?_;refine et ?_;refine cv ?_
  repeat refine aR ?_
  refine rg [(7,⟨_,_, .pr (.ap (aO xs) (aO xs) xs.length xs.length) (Kz (h:=[]) (k:=2) (dx:=32) (y:= .d (.sl xs)) hk rfl hm hb)⟩)] [(2, .vec 0 0 xs.length xs.length 2)] [.vec 48 2 (aO xs)] (by kernel_rfl) ?_;refine dN ?_
  repeat (first|(with_reducible refine ej ?_)|(with_reducible refine fq ?_))
  exact lU (gq (xs:=xs) fh) (by kernel_rfl)
theorem aeW{xs:aiE (aiE D)}(hk:∀c∈xs,c.length=13)(hm:xs.length≤maxLen)(hb:xs.length*160≤140737488355328):bY Tryz.prog 122 [.d (.sl xs)] [] fun r1 h1=>r1= .vec 0 0 xs.length xs.length 13∧h1=[.vec 52 13 (aO xs)]:=by
 refine tu 1 Tryz.func122 rfl (by kernel_rfl) (ahX rfl) ?_;refine gF [0] 0 (ah0 _) (s':=⟨8,[(0, .d (.sl xs))],[]⟩) (by kernel_rfl) ?_;refine aR ?_;refine rg [] [] [] (by kernel_rfl) ?_
 repeat refine aR ?_
 refine fD ?_;refine cW rfl ?_;refine dt (x:= .d (.sl xs)) (by kernel_rfl) rfl rfl ?_;refine cW rfl ?_;refine CI (xs:=xs) (q:=(52,13)) rfl rfl rfl (by kernel_rfl) rfl rfl (fun he=> ?_) ?_
 ·subst he;refine cv ?_;refine lK (by kernel_rfl) ?_
  repeat refine aR ?_
  refine rg [] [(2, .d (.v (.slice none 0 0)))] [] (by kernel_rfl) ?_;refine H4 2 52 13 (by kernel_rfl) ?_;refine dN ?_
  repeat (first|(with_reducible refine ej ?_)|(with_reducible refine fq ?_))
  exact lU (gq (xs:=[]) fh) (by kernel_rfl)
 ·refine cv ?_;refine lQ (by kernel_rfl) ?_;refine et ?_;refine cv ?_
  repeat refine aR ?_
  refine rg [(7,⟨_,_, .pr (.ap (aO xs) (aO xs) xs.length xs.length) (Kz (h:=[]) (k:=13) (dx:=160) (y:= .d (.sl xs)) hk rfl hm hb)⟩)] [(2, .vec 0 0 xs.length xs.length 13)] [.vec 52 13 (aO xs)] (by kernel_rfl) ?_;refine dN ?_
  repeat (first|(with_reducible refine ej ?_)|(with_reducible refine fq ?_))
  exact lU (gq (xs:=xs) fh) (by kernel_rfl)
set_option linter.unusedSimpArgs false
theorem Y7{n:Nat}(h:n≤maxLen):IntKind.i64.wrap ((n:Int)-IntKind.i64.wrap (0-0))=(n:Int):=by
 rw[IntKind.wrap_i64,IntKind.wrap_i64];unfold maxLen at h;omega
theorem Zg{n:Nat}(hb:Nat.ble (n*48) 140737488355328=true):bY Tryz.prog 165 [.d (.v (.slice none 0 0)), .d (.v (.int .i64 (Int.ofNat n)))] [] fun r1 h1=>r1= .own 0 []∧h1=[.front 64 3 0]:=by
 have hc:=de hb (by decide);refine D5 1 Tryz.func165 rfl (by kernel_rfl) (ahX rfl) ?_;refine lP (s':=⟨27,[(0, .d (.v (.slice none 0 0))),(1, .d (.v (.int .i64 (Int.ofNat n))))],[]⟩) (by kernel_rfl) ?_;refine aR ?_;refine rg [] [] [] (by kernel_rfl) ?_
 repeat refine aR ?_
 refine rg [] [(6,aJ (decide ((n:Int)<0)))] [] (by kernel_rfl) ?_
 repeat refine aR ?_
 refine fv (t:=decide ((n:Int)<0)) (by kernel_rfl) (aiy (by omega)) ?_;refine et ?_;refine cv ?_
 repeat refine aR ?_
 refine fD ?_;refine cW rfl ?_;refine dt (x:= .d (.v (.int .i64 (Int.ofNat n)))) (by kernel_rfl) rfl rfl ?_;refine cW rfl ?_;refine dt (x:= .d (.v (.slice none 0 0))) (by kernel_rfl) rfl rfl ?_;refine cW rfl ?_;refine FF (x:= .d (.v (.int .i64 0))) (h':=[]) (by kernel_rfl) rfl rfl ?_;refine cW rfl ?_;refine dt (x:= .d (.v (.slice none 0 0))) (by kernel_rfl) rfl rfl ?_;refine cW rfl ?_;refine dt (x:= .d (.v (.int .i64 0))) (by kernel_rfl) rfl rfl ?_;refine cW rfl ?_;refine dt (x:= .d (.v (.int .i64 (IntKind.i64.wrap (0-0))))) (by kernel_rfl) rfl rfl ?_;refine cW rfl ?_;refine dt (x:= .d (.v (.int .i64 (IntKind.i64.wrap ((n:Int)-IntKind.i64.wrap (0-0)))))) (by kernel_rfl) rfl rfl ?_;refine cW rfl ?_;refine dt (x:= .d (.v (.int .i64 (IntKind.i64.wrap ((n:Int)-IntKind.i64.wrap (0-0)))))) (by kernel_rfl) rfl rfl ?_;rw[Y7 hc.1];refine cv ?_
 repeat refine aR ?_
 refine rg [] [(16,aJ (decide ((n:Int)>0)))] [] (by kernel_rfl) ?_
 repeat refine aR ?_
 rcases Nat.eq_zero_or_pos n with h0|h0
 ·subst h0;refine fv (t:=decide (((0:Nat):Int)>0)) (by kernel_rfl) rfl ?_;refine et ?_;refine cv ?_
  repeat refine aR ?_
  refine rg [] [(4, .d (.v (.slice none 0 0)))] [] (by kernel_rfl) ?_;refine Pm 4 64 3 [] (.inr ⟨by kernel_rfl,rfl⟩) ?_;refine dN ?_
  repeat (first|(with_reducible refine ej ?_)|(with_reducible refine fq ?_))
  exact EK (by kernel_rfl)
 ·refine fB (t:=decide ((n:Int)>0)) (by kernel_rfl) (aix (by omega)) ?_;refine fD ?_;refine cW rfl ?_;refine dt (x:= .d (.v (.slice none 0 0))) (by kernel_rfl) rfl rfl ?_;refine cW rfl ?_;refine dt (x:= .d (.v (.slice none 0 0))) (by kernel_rfl) rfl rfl ?_;refine cW rfl ?_;refine FF (x:= .d (.v (.int .i64 0))) (h':=[]) (by kernel_rfl) rfl rfl ?_;refine cW rfl ?_;refine FF (x:= .d (.v (.slice none 0 0))) (h':=[]) (by kernel_rfl) rfl rfl ?_;refine cW rfl ?_;refine dt (x:= .d (.v (.int .i64 (Int.ofNat n)))) (by kernel_rfl) rfl rfl ?_;refine cW rfl ?_;refine FF (x:= .vec 0 0 n n 3) (h':=[.vec 64 3 (List.replicate n [.d (.v (.string ⟨#[]⟩)), .d (.v (.int .i64 0)), .d (.v (.slice none 0 0))])]) (ad1 (e:=64) (k:=3) (m:=n) (dx:=48) (kq:= .i64) (kn:= .i64) (z:= .agg #[.string ⟨#[]⟩, .int .i64 0, .slice none 0 0]) rfl rfl rfl (by kernel_rfl) (by kernel_rfl) (by kernel_rfl) (by kernel_rfl) (by kernel_rfl) (by kernel_rfl) h0 (by decide) rfl hc.1 hc.2) rfl rfl ?_;refine cW rfl ?_;refine dt (x:= .d (.v (.slice none 0 0))) (by kernel_rfl) rfl rfl ?_;refine cW rfl ?_;refine dt (x:= .d (.v (.int .i64 0))) (by kernel_rfl) rfl rfl ?_;refine cW rfl ?_;refine abN (.ol 0 0) (x:= .vec 0 0 0 n 3) (h':=[.vec 64 3 (List.replicate n [.d (.v (.string ⟨#[]⟩)), .d (.v (.int .i64 0)), .d (.v (.slice none 0 0))])]) (p:=(List.replicate n ([.d (.v (.string ⟨#[]⟩)), .d (.v (.int .i64 0)), .d (.v (.slice none 0 0))]:aiE AV)).length=n∧(0:Int)≤0∧(0:Int)≤0∧(0:Int)≤(n:Int)-(0:Nat)∧0=0+0∧0=0-0) (by kernel_rfl) ⟨aiq,Int.le_refl _,Int.le_refl _,by omega,rfl,rfl⟩ rfl rfl ?_
  refine cW rfl ?_;refine dt (x:= .vec 0 0 0 n 3) (by kernel_rfl) rfl rfl ?_;refine cv ?_
  repeat refine aR ?_
  refine rg [] [(4, .vec 0 0 0 n 3)] [.vec 64 3 (List.replicate n [.d (.v (.string ⟨#[]⟩)), .d (.v (.int .i64 0)), .d (.v (.slice none 0 0))])] (by kernel_rfl) ?_;refine ade (t:=4) rfl (by kernel_rfl) aiq ?_;refine dN ?_
  repeat (first|(with_reducible refine ej ?_)|(with_reducible refine fq ?_))
  exact EK (by kernel_rfl)
end Go.Proofs.YtphmhnabilhbgaaGreatDoor
