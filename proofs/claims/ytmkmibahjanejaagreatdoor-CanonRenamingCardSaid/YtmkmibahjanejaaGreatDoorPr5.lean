/-
  Part 5 of the proof: AbsDat, IterE, KwS, AbsKern.
-/
import Derived.Test.YtmkmibahjanejaaGreatDoorPr4
import Derived.Test.YtmkmibahjanejaaGreatDoorProg
import Derived.WalkKit
import Derived.Shelf.Strings.Fields
import Derived.KernelRfl
namespace Go.Proofs.YtmkmibahjanejaaGreatDoor
open Go.RowKit
set_option linter.unusedVariables false
def LZ(x:apI):apH D:=[.v (.string x)]
def cw(l:apH apI):apH (apH D):=l.map LZ
theorem qF(l:apH apI):cw l=l.map LZ:=rfl
theorem fK{l:apH apI}:(cw l).length=l.length:=by rw[qF,aoX]
theorem jR{l:apH apI}{k:Nat}{x:apI}(h:l[k]?=some x):(cw l)[k]?=some (LZ x):=by rw[qF,aoZ,h];rfl
theorem ah2{a b:apH apI}:cw a++cw b=cw (a++b):=by rw[qF,qF,qF,List.map_append]
theorem Ut{l:apH apI}:∀c∈cw l,c.length=1:=by
 intro c hc;rw[qF]at hc;obtain⟨x,_,rfl⟩:=List.mem_map.1 hc;rfl
theorem ah3{l:apH apI}{k n:Nat}:((cw l).take n).drop k=cw ((l.take n).drop k):=by rw[qF,qF,List.map_drop,List.map_take]
def Pv(x:Int):apH D:=[.v (.int .i64 x)]
def oF(l:apH Int):apH (apH D):=l.map Pv
theorem zB(l:apH Int):oF l=l.map Pv:=rfl
theorem JB{l:apH Int}:(oF l).length=l.length:=by rw[zB,aoX]
theorem V6{l:apH Int}{k:Nat}{x:Int}(h:l[k]?=some x):(oF l)[k]?=some (Pv x):=by rw[zB,aoZ,h];rfl
theorem an5{a b:apH Int}:oF a++oF b=oF (a++b):=by rw[zB,zB,zB,List.map_append]
theorem ad9{l:apH Int}:∀c∈oF l,c.length=1:=by
 intro c hc;rw[zB]at hc;obtain⟨x,_,rfl⟩:=List.mem_map.1 hc;rfl
structure bf where
 ao:ByteArray
 ck:Int64
def jk(x:bf):apH D:=[.v (.string x.ao), .v (.int .i64 x.ck.toInt)]
def xW(x:bf):AV:= .agg [.d (.v (.string x.ao)), .d (.v (.int .i64 x.ck.toInt))]
structure bq where
 bS:Int
 cb:Int
 ca:Int
 cJ:Int
 cH:Int
def GZ(x:bq):apH D:=[.v (.int .i64 x.bS), .v (.int .i64 x.cb), .v (.int .i64 x.ca), .v (.int .i64 x.cJ), .v (.int .i64 x.cH)]
def fV(x:bq):AV:= .agg [.d (.v (.int .i64 x.bS)), .d (.v (.int .i64 x.cb)), .d (.v (.int .i64 x.ca)), .d (.v (.int .i64 x.cJ)), .d (.v (.int .i64 x.cH))]
structure dy where
 xN:Int64
 xD:Int64
def Mq(x:dy):apH D:=[.v (.int .i64 x.xN.toInt), .v (.int .i64 x.xD.toInt)]
def mN(x:dy):AV:= .agg [.d (.v (.int .i64 x.xN.toInt)), .d (.v (.int .i64 x.xD.toInt))]
structure dV where
 ao:ByteArray
 dK:Int64
def Gq(x:dV):apH D:=[.v (.string x.ao), .v (.int .i64 x.dK.toInt)]
def abz(x:dV):AV:= .agg [.d (.v (.string x.ao)), .d (.v (.int .i64 x.dK.toInt))]
structure ij where
 az:ByteArray
 aE:ByteArray
 aw:ByteArray
 nh:ByteArray
def Td(x:ij):apH D:=[.v (.string x.az), .v (.string x.aE), .v (.string x.aw), .v (.string x.nh)]
def Ru(x:ij):AV:= .agg [.d (.v (.string x.az)), .d (.v (.string x.aE)), .d (.v (.string x.aw)), .d (.v (.string x.nh))]
structure dN where
 bH:List ByteArray
 yF:List ByteArray
def ig(x:dN):AV:= .agg [.d (.sl (cw x.bH)), .d (.sl (cw x.yF))]
def c9(l:apH bf):apH (apH D):=l.map jk
theorem nf(l:apH bf):c9 l=l.map jk:=rfl
theorem fG{l:apH bf}:(c9 l).length=l.length:=by rw[nf,aoX]
theorem o0{l:apH bf}{k:Nat}{x:bf}(h:l[k]?=some x):(c9 l)[k]?=some (jk x):=by rw[nf,aoZ,h];rfl
theorem akw{a b:apH bf}:c9 a++c9 b=c9 (a++b):=by rw[nf,nf,nf,List.map_append]
theorem u4{l:apH bf}:∀c∈c9 l,c.length=2:=by
 intro c hc;rw[nf]at hc;obtain⟨x,_,rfl⟩:=List.mem_map.1 hc;rfl
theorem ach{l:apH bf}{k:Nat}:(c9 l).drop k=c9 (l.drop k):=by rw[nf,nf,List.map_drop]
theorem XU{l:apH bf}{k n:Nat}:((c9 l).take n).drop k=c9 ((l.take n).drop k):=by rw[nf,nf,List.map_drop,List.map_take]
def ja(l:apH dV):apH (apH D):=l.map Gq
theorem xJ(l:apH dV):ja l=l.map Gq:=rfl
theorem xp{l:apH dV}:(ja l).length=l.length:=by rw[xJ,aoX]
theorem De{l:apH dV}{k:Nat}{x:dV}(h:l[k]?=some x):(ja l)[k]?=some (Gq x):=by rw[xJ,aoZ,h];rfl
theorem anI{a b:apH dV}:ja a++ja b=ja (a++b):=by rw[xJ,xJ,xJ,List.map_append]
theorem ahq{l:apH dV}:∀c∈ja l,c.length=2:=by
 intro c hc;rw[xJ]at hc;obtain⟨x,_,rfl⟩:=List.mem_map.1 hc;rfl
def Su(l:apH ij):apH (apH D):=l.map Td
theorem aiw(l:apH ij):Su l=l.map Td:=rfl
theorem alP{l:apH ij}{k:Nat}{x:ij}(h:l[k]?=some x):(Su l)[k]?=some (Td x):=by rw[aiw,aoZ,h];rfl
def o7(l:apH bq):apH (apH D):=l.map GZ
theorem zP(l:apH bq):o7 l=l.map GZ:=rfl
theorem akP{l:apH bq}:(o7 l).length=l.length:=by rw[zP,aoX]
theorem tA{l:apH bq}{k:Nat}{x:bq}(h:l[k]?=some x):(o7 l)[k]?=some (GZ x):=by rw[zP,aoZ,h];rfl
theorem akG{a b:apH bq}:o7 a++o7 b=o7 (a++b):=by rw[zP,zP,zP,List.map_append]
theorem ahW{l:apH bq}:∀c∈o7 l,c.length=5:=by
 intro c hc;rw[zP]at hc;obtain⟨x,_,rfl⟩:=List.mem_map.1 hc;rfl
def rV(l:apH dy):apH (apH D):=l.map Mq
theorem An(l:apH dy):rV l=l.map Mq:=rfl
theorem Ud{l:apH dy}:(rV l).length=l.length:=by rw[An,aoX]
theorem aiS{l:apH dy}{k:Nat}{x:dy}(h:l[k]?=some x):(rV l)[k]?=some (Mq x):=by rw[An,aoZ,h];rfl
theorem alp{a b:apH dy}:rV a++rV b=rV (a++b):=by rw[An,An,An,List.map_append]
theorem an2{l:apH dy}:∀c∈rV l,c.length=2:=by
 intro c hc;rw[An]at hc;obtain⟨x,_,rfl⟩:=List.mem_map.1 hc;rfl
structure aN where
 xK:Int64
 xL:List bf
def Dr(x:aN):apH D:=[.v (.int .i64 x.xK.toInt), .sl (c9 x.xL)]
def cP(x:aN):AV:= .agg [.d (.v (.int .i64 x.xK.toInt)), .d (.sl (c9 x.xL))]
structure cz where
 aQ:aN
 hY:Bool
def Cb(x:cz):apH D:=[.v (.int .i64 x.aQ.xK.toInt), .sl (c9 x.aQ.xL), .v (.bool x.hY)]
def pf(x:cz):AV:= .agg [.d (.v (.int .i64 x.aQ.xK.toInt)), .d (.sl (c9 x.aQ.xL)), .d (.v (.bool x.hY))]
structure bV where
 ao:ByteArray
 cg:aN
def Ev(x:bV):apH D:=[.v (.string x.ao), .v (.int .i64 x.cg.xK.toInt), .sl (c9 x.cg.xL)]
def zi(x:bV):AV:= .agg [.d (.v (.string x.ao)), .d (.v (.int .i64 x.cg.xK.toInt)), .d (.sl (c9 x.cg.xL))]
def gU(l:apH cz):apH (apH D):=l.map Cb
theorem xX(l:apH cz):gU l=l.map Cb:=rfl
theorem mH{l:apH cz}:(gU l).length=l.length:=by rw[xX,aoX]
theorem uL{l:apH cz}{k:Nat}{x:cz}(h:l[k]?=some x):(gU l)[k]?=some (Cb x):=by rw[xX,aoZ,h];rfl
theorem afA{a b:apH cz}:gU a++gU b=gU (a++b):=by rw[xX,xX,xX,List.map_append]
theorem agp{l:apH cz}:∀c∈gU l,c.length=3:=by
 intro c hc;rw[xX]at hc;obtain⟨x,_,rfl⟩:=List.mem_map.1 hc;rfl
def dE(l:apH aN):apH (apH D):=l.map Dr
theorem wX(l:apH aN):dE l=l.map Dr:=rfl
theorem gj{l:apH aN}:(dE l).length=l.length:=by rw[wX,aoX]
theorem oJ{l:apH aN}{k:Nat}{x:aN}(h:l[k]?=some x):(dE l)[k]?=some (Dr x):=by rw[wX,aoZ,h];rfl
theorem anC{a b:apH aN}:dE a++dE b=dE (a++b):=by rw[wX,wX,wX,List.map_append]
theorem akZ{l:apH aN}:∀c∈dE l,c.length=2:=by
 intro c hc;rw[wX]at hc;obtain⟨x,_,rfl⟩:=List.mem_map.1 hc;rfl
def dL(l:apH bV):apH (apH D):=l.map Ev
theorem yx(l:apH bV):dL l=l.map Ev:=rfl
theorem eG{l:apH bV}:(dL l).length=l.length:=by rw[yx,aoX]
theorem lR{l:apH bV}{k:Nat}{x:bV}(h:l[k]?=some x):(dL l)[k]?=some (Ev x):=by rw[yx,aoZ,h];rfl
theorem aiF{a b:apH bV}:dL a++dL b=dL (a++b):=by rw[yx,yx,yx,List.map_append]
theorem adX{l:apH bV}:∀c∈dL l,c.length=3:=by
 intro c hc;rw[yx]at hc;obtain⟨x,_,rfl⟩:=List.mem_map.1 hc;rfl
def SK(x:apH bV):apH D:=[.sl (dL x)]
def oU(l:apH (apH bV)):apH (apH D):=l.map SK
theorem AD(l:apH (apH bV)):oU l=l.map SK:=rfl
theorem OG{l:apH (apH bV)}:(oU l).length=l.length:=by rw[AD,aoX]
theorem aaV{l:apH (apH bV)}{k:Nat}{x:(apH bV)}(h:l[k]?=some x):(oU l)[k]?=some (SK x):=by rw[AD,aoZ,h];rfl
theorem acH{a b:apH (apH bV)}:oU a++oU b=oU (a++b):=by rw[AD,AD,AD,List.map_append]
theorem ajs{l:apH (apH bV)}:∀c∈oU l,c.length=1:=by
 intro c hc;rw[AD]at hc;obtain⟨x,_,rfl⟩:=List.mem_map.1 hc;rfl
structure cf where
 ao:ByteArray
 aM:bq
 aO:List aN
def D8(x:cf):apH D:=[.v (.string x.ao), .v (.int .i64 x.aM.bS), .v (.int .i64 x.aM.cb), .v (.int .i64 x.aM.ca), .v (.int .i64 x.aM.cJ), .v (.int .i64 x.aM.cH), .sl (dE x.aO)]
def pK(x:cf):AV:= .agg [.d (.v (.string x.ao)), .d (.v (.int .i64 x.aM.bS)), .d (.v (.int .i64 x.aM.cb)), .d (.v (.int .i64 x.aM.ca)), .d (.v (.int .i64 x.aM.cJ)), .d (.v (.int .i64 x.aM.cH)), .d (.sl (dE x.aO))]
structure bu where
 aQ:aN
 bH:ByteArray
 bG:List aN
def C4(x:bu):apH D:=[.v (.int .i64 x.aQ.xK.toInt), .sl (c9 x.aQ.xL), .v (.string x.bH), .sl (dE x.bG)]
def gN(x:bu):AV:= .agg [.d (.v (.int .i64 x.aQ.xK.toInt)), .d (.sl (c9 x.aQ.xL)), .d (.v (.string x.bH)), .d (.sl (dE x.bG))]
def iR(l:apH cf):apH (apH D):=l.map D8
theorem xq(l:apH cf):iR l=l.map D8:=rfl
theorem ky{l:apH cf}:(iR l).length=l.length:=by rw[xq,aoX]
theorem mC{l:apH cf}{k:Nat}{x:cf}(h:l[k]?=some x):(iR l)[k]?=some (D8 x):=by rw[xq,aoZ,h];rfl
theorem akt{a b:apH cf}:iR a++iR b=iR (a++b):=by rw[xq,xq,xq,List.map_append]
theorem af7{l:apH cf}:∀c∈iR l,c.length=7:=by
 intro c hc;rw[xq]at hc;obtain⟨x,_,rfl⟩:=List.mem_map.1 hc;rfl
def cQ(l:apH bu):apH (apH D):=l.map C4
theorem w5(l:apH bu):cQ l=l.map C4:=rfl
theorem jD{l:apH bu}:(cQ l).length=l.length:=by rw[w5,aoX]
theorem kO{l:apH bu}{k:Nat}{x:bu}(h:l[k]?=some x):(cQ l)[k]?=some (C4 x):=by rw[w5,aoZ,h];rfl
theorem ae5{a b:apH bu}:cQ a++cQ b=cQ (a++b):=by rw[w5,w5,w5,List.map_append]
theorem agP{l:apH bu}:∀c∈cQ l,c.length=4:=by
 intro c hc;rw[w5]at hc;obtain⟨x,_,rfl⟩:=List.mem_map.1 hc;rfl
structure ar where
 aJ:Int
 ao:ByteArray
 dK:dy
 aM:bq
 aQ:aN
 xIdx:List bu
 bk:List ar
mutual
def QK:ar->apH D
 |⟨aJ,ao,dK,aM,aQ,xIdx,bk⟩=>[.v (.int .i64 aJ), .v (.string ao), .v (.int .i64 dK.xN.toInt), .v (.int .i64 dK.xD.toInt), .v (.int .i64 aM.bS), .v (.int .i64 aM.cb), .v (.int .i64 aM.ca), .v (.int .i64 aM.cJ), .v (.int .i64 aM.cH), .v (.int .i64 aQ.xK.toInt), .sl (c9 aQ.xL), .sl (cQ xIdx), .sl (dU bk)]
def dU:apH ar->apH (apH D)
 |[]=>[]
 |x::l=>QK x::dU l
end
def eI(x:ar):apH D:=[.v (.int .i64 x.aJ), .v (.string x.ao), .v (.int .i64 x.dK.xN.toInt), .v (.int .i64 x.dK.xD.toInt), .v (.int .i64 x.aM.bS), .v (.int .i64 x.aM.cb), .v (.int .i64 x.aM.ca), .v (.int .i64 x.aM.cJ), .v (.int .i64 x.aM.cH), .v (.int .i64 x.aQ.xK.toInt), .sl (c9 x.aQ.xL), .sl (cQ x.xIdx), .sl (dU x.bk)]
theorem afS(x:ar):QK x=eI x:=by cases x;simp only[QK];rfl
theorem rY:∀l:apH ar,dU l=l.map eI
 |[]=>by simp [dU]
 |x::l=>by simp [dU,afS,rY l]
theorem j0{l:apH ar}:(dU l).length=l.length:=by rw[rY,aoX]
theorem ma{l:apH ar}{k:Nat}{x:ar}(h:l[k]?=some x):(dU l)[k]?=some (eI x):=by rw[rY,aoZ,h];rfl
theorem al2{a b:apH ar}:dU a++dU b=dU (a++b):=by rw[rY,rY,rY,List.map_append]
theorem adC{l:apH ar}:∀c∈dU l,c.length=13:=by
 intro c hc;rw[rY]at hc;obtain⟨x,_,rfl⟩:=List.mem_map.1 hc;rfl
def aW(x:ar):AV:= .agg [.d (.v (.int .i64 x.aJ)), .d (.v (.string x.ao)), .d (.v (.int .i64 x.dK.xN.toInt)), .d (.v (.int .i64 x.dK.xD.toInt)), .d (.v (.int .i64 x.aM.bS)), .d (.v (.int .i64 x.aM.cb)), .d (.v (.int .i64 x.aM.ca)), .d (.v (.int .i64 x.aM.cJ)), .d (.v (.int .i64 x.aM.cH)), .d (.v (.int .i64 x.aQ.xK.toInt)), .d (.sl (c9 x.aQ.xL)), .d (.sl (cQ x.xIdx)), .d (.sl (dU x.bk))]
structure aX where
 ao:ByteArray
 aM:bq
 aO:List bV
 aU:List bV
 cr:Int
 bR:ar
def E2(x:aX):apH D:=[.v (.string x.ao), .v (.int .i64 x.aM.bS), .v (.int .i64 x.aM.cb), .v (.int .i64 x.aM.ca), .v (.int .i64 x.aM.cJ), .v (.int .i64 x.aM.cH), .sl (dL x.aO), .sl (dL x.aU), .v (.int .i64 x.cr), .v (.int .i64 x.bR.aJ), .v (.string x.bR.ao), .v (.int .i64 x.bR.dK.xN.toInt), .v (.int .i64 x.bR.dK.xD.toInt), .v (.int .i64 x.bR.aM.bS), .v (.int .i64 x.bR.aM.cb), .v (.int .i64 x.bR.aM.ca), .v (.int .i64 x.bR.aM.cJ), .v (.int .i64 x.bR.aM.cH), .v (.int .i64 x.bR.aQ.xK.toInt), .sl (c9 x.bR.aQ.xL), .sl (cQ x.bR.xIdx), .sl (dU x.bR.bk)]
def fm(x:aX):AV:= .agg [.d (.v (.string x.ao)), .d (.v (.int .i64 x.aM.bS)), .d (.v (.int .i64 x.aM.cb)), .d (.v (.int .i64 x.aM.ca)), .d (.v (.int .i64 x.aM.cJ)), .d (.v (.int .i64 x.aM.cH)), .d (.sl (dL x.aO)), .d (.sl (dL x.aU)), .d (.v (.int .i64 x.cr)), .d (.v (.int .i64 x.bR.aJ)), .d (.v (.string x.bR.ao)), .d (.v (.int .i64 x.bR.dK.xN.toInt)), .d (.v (.int .i64 x.bR.dK.xD.toInt)), .d (.v (.int .i64 x.bR.aM.bS)), .d (.v (.int .i64 x.bR.aM.cb)), .d (.v (.int .i64 x.bR.aM.ca)), .d (.v (.int .i64 x.bR.aM.cJ)), .d (.v (.int .i64 x.bR.aM.cH)), .d (.v (.int .i64 x.bR.aQ.xK.toInt)), .d (.sl (c9 x.bR.aQ.xL)), .d (.sl (cQ x.bR.xIdx)), .d (.sl (dU x.bR.bk))]
def gK(l:apH aX):apH (apH D):=l.map E2
theorem sP(l:apH aX):gK l=l.map E2:=rfl
theorem kp{l:apH aX}:(gK l).length=l.length:=by rw[sP,aoX]
theorem oY{l:apH aX}{k:Nat}{x:aX}(h:l[k]?=some x):(gK l)[k]?=some (E2 x):=by rw[sP,aoZ,h];rfl
theorem alI{a b:apH aX}:gK a++gK b=gK (a++b):=by rw[sP,sP,sP,List.map_append]
theorem Vs{l:apH aX}:∀c∈gK l,c.length=22:=by
 intro c hc;rw[sP]at hc;obtain⟨x,_,rfl⟩:=List.mem_map.1 hc;rfl
theorem ait{l:apH aX}{k n:Nat}:((gK l).take n).drop k=gK ((l.take n).drop k):=by rw[sP,sP,List.map_drop,List.map_take]
structure aG where
 az:List ByteArray
 cd:List cz
 aE:List cf
 aw:List aX
 bW:List ByteArray
def ai1(x:aG):apH D:=[.sl (cw x.az), .sl (gU x.cd), .sl (iR x.aE), .sl (gK x.aw), .sl (cw x.bW)]
def eB(x:aG):AV:= .agg [.d (.sl (cw x.az)), .d (.sl (gU x.cd)), .d (.sl (iR x.aE)), .d (.sl (gK x.aw)), .d (.sl (cw x.bW))]
def aL(s:apI):AV:= .d (.v (.string s))
def aq(n:Int):AV:= .d (.v (.int .i64 n))
def de(n:Int64):AV:= .d (.v (.int .i64 n.toInt))
def aZ(b:Bool):AV:= .d (.v (.bool b))
abbrev bh(n:Int):Int:=IntKind.i64.wrap n
theorem xf(a:Int):IntKind.i64.wrap a=a.bmod (2^64):=by
 rw[IntKind.wrap_i64,Int.bmod_def];omega
theorem vb(a:Int):aq (bh a)=de (Int64.ofInt a):=by
 unfold aq de bh;rw[xf,Int64.toInt_ofInt]
theorem akh(a b:Int64):aq (bh (a.toInt+b.toInt))=de (a+b):=by
 unfold aq de bh;rw[xf,Int64.toInt_add]
theorem amf(a b:Int64):aq (bh (a.toInt-b.toInt))=de (a-b):=by
 unfold aq de bh;rw[xf,Int64.toInt_sub]
theorem Nx(a:Int64):aq (bh (0-a.toInt))=de (-a):=by
 unfold aq de bh;rw[xf,Int64.toInt_neg,Int.zero_sub]
theorem U6{a:Int}(h:bh a=a):aq a=de (Int64.ofInt a):=by
 rw[<-vb,h]
theorem b5{α:Type}{l:apH α}{k:Nat}{x:α}{xs:apH α}{n:Nat}(hd:l.drop k=x::xs)(hn:l.length=n)(hl:n<=maxLen):aq (bh ((k:Int)+1))=aq ((k+1:Nat):Int):=by
 have:(l.drop k).length=(x::xs).length:=by rw[hd]
 rw[List.length_drop,aoV]at this;have h1:k<maxLen:=by omega
 unfold maxLen at h1;have e:IntKind.i64.wrap ((k:Int)+1)=((k+1:Nat):Int):=by rw[IntKind.wrap_i64];omega
 unfold aq bh;rw[e]
theorem bt{α:Type}{l:apH α}{k:Nat}{x:α}{xs:apH α}(hd:l.drop k=x::xs):l[k]?=some x:=by
 have:(l.drop k)[0]?=some x:=by rw[hd];rfl
 rwa [List.getElem?_drop]at this
theorem sf{α:Type}{l:apH α}{k:Nat}{x:α}{xs:apH α}(hd:l.drop k=x::xs):l.drop (k+1)=xs:=by
 rw[<-List.drop_drop,hd];rfl
theorem bI{α:Type}{l:apH α}{k:Nat}{x:α}{xs:apH α}(hd:l.drop k=x::xs):decide ((k:Int)<(l.length:Int))=true:=by
 have:(l.drop k).length=(x::xs).length:=by rw[hd]
 rw[List.length_drop,aoV]at this;exact apA (by omega)
theorem bK{α:Type}{l:apH α}{k:Nat}(hd:l.drop k=[]):decide ((k:Int)<(l.length:Int))=false:=by
 have:=List.drop_eq_nil_iff.1 hd;exact apB (by omega)
theorem HJ{n cX:Nat}(h:Nat.ble (n*cX) 140737488355328=true)(hb:1<=cX):n<=maxLen/\n*cX<=140737488355328:=by
 have h:=ao0 h;refine⟨?_,h⟩;unfold maxLen;have:=Nat.le_mul_of_pos_right n hb;omega
theorem dO:Tryz.prog.follows .mixedOrders=true:=by kernel_rfl
set_option maxRecDepth 100000
set_option maxHeartbeats 0
def F0(a b:Int64):Int64:=if b.toInt>a.toInt then b else a
theorem ahp(a b:Int64):(if b.toInt>a.toInt then b.toInt else a.toInt)=(F0 a b).toInt:=by unfold F0;split<;>rfl
mutual
def R4:ar->apH ar
 |⟨o,n,v,t,l,i,xs⟩=>⟨o,n,v,t,l,i,xs⟩::gX xs
def gX:apH ar->apH ar
 |[]=>[]
 |x::l=>R4 x++gX l
end
def cy(e:ar):apH ar:=e::gX e.bk
theorem ak0(e:ar):R4 e=cy e:=by cases e;simp only[R4];rfl
theorem mG(x:ar)(l:apH ar):gX (x::l)=cy x++gX l:=by rw[gX,ak0]
theorem Nu{P:apK}{k:Nat}:∀(l:apH AV){C:Bool->apH an->Prop}{h:apH an},h.all (an.aP h.length)=true->nq P k l C h->nq P k l (λb h1=>C b h1/\vu h h1) h
 |[],_,_,hl,hs=>⟨hs,rfl,hl⟩
 |x::l,C,h,hl,hs=>YS.mono hs λb h1 ⟨h2,h3⟩=>⟨h2,by
  cases b with
  |true=>exact ab1 l (λb h4 ⟨h5,h6,h7⟩=>⟨h5,by rw[h6,h2.1],by rw[h2.1]at h7;exact h7⟩) (Nu l (by rw[h2.1];exact h2.2) h3)
  |false=>exact⟨h3,h2⟩⟩
def HE(e:ar):Prop:=∀(k:Nat)(h:apH an)(C:Bool->apH an->Prop),h.all (an.aP h.length)=true->k<h.length->nq Tryz.prog k ((cy e).map aW) C h->cx Tryz.prog 198 [aW e, .cO k] h λr h1=>∃b,r= .d (.v (.bool b))/\C b h1/\vu h h1
theorem Tu{P:apK}{fn:Func}{n:Nat}{t:apH (Nat×AV)}{H h1 l:apH an}{K:AV->apH an->Prop}(k1:h1.length=H.length)(k2:h1.all (an.aP H.length)=true)(hr:nj P ⟨n,t,h1++l⟩ fn.results.toList λrs=>((kK rs).bn h1.length).aP h1.length=true/\K ((kK rs).bn h1.length) h1):sN P fn H.length K ⟨n,t,h1++l⟩:=by
 rw[<-k1]at k2 ⊢;exact agj k2 hr
theorem EN{P:apK}{fn:Func}{n:Nat}{t:apH (Nat×AV)}{H h1 l:apH an}{K:AV->apH an->Prop}(k1:h1.length=H.length)(k2:h1.all (an.aP H.length)=true)(hr:nj P ⟨n,t,h1++l⟩ fn.results.toList λrs=>((kK rs).bn h1.length).aP h1.length=true/\K ((kK rs).bn h1.length) h1):J1 P fn H.length K .ret ⟨n,t,h1++l⟩:=Tu k1 k2 hr
theorem aeR(e:ar)(ot:∀x∈e.bk,HE x):HE e:=by
 intro k h C pG hk hs;refine Gt h.length Tryz.func198 rfl (by kernel_rfl) (ao3 _) ?_
 suffices hA:bj Tryz.prog none h.length _ _ ⟨23,[(0,aW e),(1, .cO k)],h++[]⟩ by rw[apd]at hA;exact hA
 repeat refine bP ?_
 refine fy ?_;refine cn rfl ?_;refine Dk (agF (l:=[]) (v:=aW e) rfl (by kernel_rfl)) rfl rfl Ji ?_;refine cn rfl ?_;refine cY (x:= .d (.v (.bool false))) (by kernel_rfl) rfl rfl ?_;refine dJ ?_
 repeat refine bP ?_
 refine fy ?_;refine cn rfl ?_;refine cY (x:= .cO k) (by kernel_rfl) rfl rfl ?_;refine cn rfl ?_;refine cY (y8 (i:=0) (off:=0) (l:=[]++[.cells (aW e).cells]) (x:=aW e) (by kernel_rfl) rfl (by kernel_rfl)) rfl rfl ?_;refine cn rfl ?_;rw[cy,aph]at hs;have hy:=O9 (Nu (aW e::_) pG hs) [.cells (aW e).cells] pG (by kernel_rfl) (λb h' hh=>hh.1);refine JN (k:=k) (x:=aW e) rfl rfl (by kernel_rfl) (by kernel_rfl) rfl rfl ?_;refine hy.mono λb h' hh=> ?_;obtain⟨h1,⟨⟨k1,k2⟩,k3⟩,rfl⟩:=hh;refine cn rfl ?_;refine cY (x:= .d (.v (.bool (!b)))) (by kernel_rfl) rfl rfl ?_;refine dJ ?_;cases b with
 |false=>
  refine qN (by kernel_rfl) ?_
  repeat refine bP ?_
  refine fy ?_;refine cn rfl ?_;refine cY (x:= .d (.v (.bool false))) (by kernel_rfl) rfl rfl ?_;refine dJ ?_;refine gM (jU ?_);refine EN k1 k2 ?_;exact⟨rfl,false,rfl,k3⟩
 |true=>
  refine ra (by kernel_rfl) ?_;refine jG ?_;refine dJ ?_;simp only[cond_true]at k3
  repeat refine bP ?_
  refine fy ?_;refine cn rfl ?_;refine cY (x:= .ptr (h.length+0) 12) (by kernel_rfl) rfl rfl ?_;refine cn rfl ?_;refine cY (y8 (h:=h1) (i:=0) (off:=12) (l:=[.cells (aW e).cells]) (x:= .d (.sl (dU e.bk))) (by rw[k1];rfl) rfl (by kernel_rfl)) rfl rfl ?_;refine cn rfl ?_;refine cY (x:= .d (.v (.int .i64 (dU e.bk).length))) (by kernel_rfl) rfl rfl ?_;refine cn rfl ?_;refine cY (x:= .d (.v (.int .i64 0))) (by kernel_rfl) rfl rfl ?_;refine dJ ?_;refine DY 12 (dU e.bk) (by kernel_rfl) λbO=> ?_;have qq:e.bk.length<=maxLen:=by rw[<-j0];exact Hh bO
  rw[j0]
  repeat refine bP ?_
  refine kf ?_;refine OX (ι:=Nat×apH ar×apH an) [1,12,13,14] h.length (λi=>⟨23,[(1, .cO k),(12, .d (.sl (dU e.bk))),(13, .d (.v (.int .i64 e.bk.length))),(14, .d (.v (.int .i64 i.1)))],i.2.2⟩)
   (λi=>e.bk.drop i.1=i.2.1/\vu h i.2.2/\nq Tryz.prog k ((gX i.2.1).map aW) (λb h2=>C b h2/\vu h h2) i.2.2) (λi=>i.2.1.length) (0,e.bk,h1) (ao3 _) ?_ ?_ ⟨rfl,⟨k1,k2⟩,k3⟩ ?_
  ·rw[<-k1];exact CX _ (by rw[k1];exact k2) (by
     show(((AV.cO k).bn h1.length).aP h1.length&&(true&&(true&&(true&&true))))=true;rw[k1];simp [AV.bn,AV.aP,b7];omega)
  ·rw[<-k1];exact F8 _ (by rw[k1];exact k2)
  rintro⟨i,rest,hc⟩ ⟨hd,⟨c1,c2⟩,pR⟩;simp only at hd c1 c2 pR ⊢
  repeat refine bP ?_
  refine fy ?_;refine cn rfl ?_;refine cY (x:= .d (.v (.bool (decide ((i:Int)<(e.bk.length:Int)))))) (by kernel_rfl) rfl rfl ?_;refine dJ ?_;refine bP ?_;cases rest with
  |nil=>
   rw[bK hd];refine ra (by kernel_rfl) ?_;refine uC (vP (vP (Cf rfl ?_)));refine dJ ?_
   repeat refine bP ?_
   refine fy ?_;refine cn rfl ?_;rw[<-apd hc];refine cY (x:= .d (.v (.bool true))) (by kernel_rfl) rfl rfl ?_;refine dJ ?_;refine gM ?_;refine EN c1 c2 ?_;rw[gX,List.map_nil]at pR;exact⟨rfl,true,rfl,pR⟩
  |cons x rest=>
   rw[bI hd];refine qN (by kernel_rfl) ?_;refine jG ?_;refine dJ ?_
   repeat refine bP ?_
   refine kf ?_
   repeat refine bP ?_
   refine fy ?_;refine cn rfl ?_;rw[<-apd hc];refine cY (RC (q:=i) (e:=67) (k:=13) rfl rfl (by kernel_rfl) (ma (bt hd)) rfl) rfl rfl ?_;refine cn rfl ?_;refine cY (x:=aW x) (by kernel_rfl) rfl rfl ?_;refine cn rfl ?_;refine Dk (PO (l:=[]) (by kernel_rfl)) rfl rfl Ji ?_;refine cn rfl ?_;refine SX (Sl (i:=0) (off:=0) (k:=13) (l:=[_]) (v:=aW x) (bJ:=(aW x).cells) (by kernel_rfl) rfl (by kernel_rfl) rfl (by kernel_rfl) (by kernel_rfl)) rfl Sy ?_;refine dJ ?_
   repeat refine bP ?_
   refine fy ?_;refine cn rfl ?_;refine cY (y8 (i:=0) (off:=0) (l:=[.cells (aW x).cells]) (x:=aW x) (by kernel_rfl) rfl (by kernel_rfl)) rfl rfl ?_;refine cn rfl ?_;refine cY (x:= .cO k) (by kernel_rfl) rfl rfl ?_;refine cn rfl ?_;rw[mG,List.map_append]at pR;have yw:=aaZ _ _ pR;have hw:=ot x (ao5 (bt hd)) k hc _ (by rw[c1];exact c2) (by rw[c1];exact hk) yw;have hw2:=anY hw [.cells (aW x).cells] (by rw[c1];exact c2) (by
    rw[c1];show((aW x).aP h.length&&((AV.cO k).aP h.length&&true))=true;rw[show(aW x).aP h.length=true by kernel_rfl];simp [AV.aP,b7];omega) (λr h' hh=>by
    obtain⟨b,rfl,_,q1,q2⟩:=hh;exact⟨q1,q2,rfl⟩)
   refine Zb (g:=198) (cU:=[]) rfl rfl rfl ?_;refine hw2.mono λr h' hh=> ?_;obtain⟨h2,⟨b,rfl,q0,q1,q2⟩,rfl⟩:=hh;refine cn rfl ?_;refine cY (x:= .d (.v (.bool (!b)))) (by kernel_rfl) rfl rfl ?_;refine dJ ?_;cases b with
   |false=>
    refine qN (by kernel_rfl) ?_
    repeat refine bP ?_
    refine fy ?_;refine cn rfl ?_;refine cY (x:= .d (.v (.bool false))) (by kernel_rfl) rfl rfl ?_;refine dJ ?_;refine gM (lz (jU (jU (lz (jU ?_)))));refine EN (h1:=h2) (by rw[q1,c1]) (by rw[c1]at q2;exact q2) ?_;exact⟨rfl,false,rfl,q0⟩
   |true=>
    refine ra (by kernel_rfl) ?_;refine jG ?_;refine jz ?_;refine dJ ?_;simp only[cond_true]at q0;refine fy ?_;refine cn rfl ?_;refine cY (x:= .d (.v (.int .i64 ((i+1:Nat):Int)))) (by
     show some ((.d (.v (.int .i64 (bh ((i:Int)+1)))):AV),HD.same)=_;have:=b5 hd rfl qq;unfold aq at this;rw[this]) rfl rfl ?_
    refine cn rfl ?_;refine cY (x:= .d (.v (.int .i64 ((i+1:Nat):Int)))) (by kernel_rfl) rfl rfl ?_;refine dJ ?_;have e1:h2.length=h.length:=by rw[q1,c1]
    have e2:h2.all (an.aP h2.length)=true:=by rw[q1];exact q2
    refine⟨?_,(i+1,rest,h2),?_,⟨sf hd,⟨e1,by rw[<-e1];exact e2⟩,q0⟩,apF _⟩
    ·rw[<-e1];exact CX _ e2 (by
       show(((AV.cO k).bn h2.length).aP h2.length&&(true&&(true&&(true&&true))))=true;rw[e1];simp [AV.bn,AV.aP,b7];omega)
    ·rw[<-e1];exact F8 _ e2
mutual
theorem aat:(e:ar)->HE e
 |⟨_,_,_,_,_,_,xs⟩=>aeR _ (Tz xs)
theorem Tz:(l:apH ar)->∀x∈l,HE x
 |[],_,h=>absurd h apz
 |x::l,y,h=>(apm.1 h).elim (λe=>e▸aat x) (Tz l y)
end
theorem OM{P:apK}{fn:Func}{n:Nat}{t:apH (Nat×AV)}{H h1:apH an}{K:AV->apH an->Prop}(k1:h1.length=H.length)(k2:h1.all (an.aP H.length)=true)(hr:nj P ⟨n,t,h1⟩ fn.results.toList λrs=>((kK rs).bn h1.length).aP h1.length=true/\K ((kK rs).bn h1.length) h1):J1 P fn H.length K .normal ⟨n,t,h1⟩:=by
 have:=Tu (P:=P) (fn:=fn) (n:=n) (t:=t) (l:=[]) (K:=K) k1 k2;rw[apd]at this;exact this hr
theorem ahr{P:apK}{fn:Func}{n:Nat}{t:apH (Nat×AV)}{H h1:apH an}{K:AV->apH an->Prop}(k1:h1.length=H.length)(k2:h1.all (an.aP H.length)=true)(hr:nj P ⟨n,t,h1⟩ fn.results.toList λrs=>((kK rs).bn h1.length).aP h1.length=true/\K ((kK rs).bn h1.length) h1):J1 P fn H.length K .ret ⟨n,t,h1⟩:=OM k1 k2 hr
theorem Zf(e:ar):S4 Tryz.prog 197 [.bz [eI e] 0 0] ((cy e).map aW):=by
 intro k h C pG hk hs;refine Gt h.length Tryz.func197 rfl (by kernel_rfl) (ao3 _) ?_;show bj Tryz.prog none h.length _ _ ⟨6,[(0, .cO k),(1, .bz [eI e] 0 0)],h⟩;refine fy ?_;refine cn rfl ?_;refine cY (x:=aW e) (by kernel_rfl) rfl rfl ?_;refine cn rfl ?_;refine cY (x:= .cO k) (by kernel_rfl) rfl rfl ?_;refine cn rfl ?_;refine Zb (g:=198) (cU:=[]) rfl rfl rfl ?_;refine(aat e k h C pG hk hs).mono λr h' hh=> ?_;obtain⟨b,rfl,q0,q1,q2⟩:=hh;refine OM (n:=6) (t:=[(5, .d (.v (.bool b))),(4, .cO k),(3,aW e),(0, .cO k),(1, .bz [eI e] 0 0)]) q1 q2 ?_;exact⟨rfl,b,q0⟩
def te(x:bu):apH aN:=x.aQ::x.bG
def mY(e:ar):apH aN:=e.aQ::e.xIdx.flatMap te
theorem ac4(e:ar):S4 Tryz.prog 241 [.bz [eI e] 0 0] ((mY e).map cP):=by
 intro k h C pG hk Pu;have hs:=Nu _ pG Pu;refine Gt h.length Tryz.func241 rfl (by kernel_rfl) (ao3 _) ?_;show bj Tryz.prog none h.length _ _ ⟨37,[(0, .cO k),(1, .bz [eI e] 0 0)],h⟩
 repeat refine bP ?_
 refine fy ?_;refine cn rfl ?_;refine cY (x:= .cO k) (by kernel_rfl) rfl rfl ?_;refine cn rfl ?_;refine cY (x:= .bz [eI e] 0 9) (by kernel_rfl) rfl rfl ?_;refine cn rfl ?_;refine cY (x:=cP e.aQ) (by kernel_rfl) rfl rfl ?_;refine cn rfl ?_;rw[mY,aph]at hs;refine JN (k:=k) (x:=cP e.aQ) rfl rfl (by kernel_rfl) (by kernel_rfl) rfl rfl ?_;refine YS.mono hs λb h1 hh=> ?_;obtain⟨⟨k1,k2⟩,k3⟩:=hh;refine cn rfl ?_;refine cY (x:= .d (.v (.bool (!b)))) (by kernel_rfl) rfl rfl ?_;refine dJ ?_;cases b with
 |false=>
  refine qN (by kernel_rfl) ?_;refine gM (jU ?_);exact ahr k1 k2 ⟨rfl,false,k3.1⟩
 |true=>
  refine ra (by kernel_rfl) ?_;refine jG ?_;refine dJ ?_;simp only[cond_true]at k3
  repeat refine bP ?_
  refine fy ?_;refine cn rfl ?_;refine cY (x:= .bz [eI e] 0 11) (by kernel_rfl) rfl rfl ?_;refine cn rfl ?_;refine cY (x:= .d (.sl (cQ e.xIdx))) (by kernel_rfl) rfl rfl ?_;refine cn rfl ?_;refine cY (x:= .d (.v (.int .i64 (cQ e.xIdx).length))) (by kernel_rfl) rfl rfl ?_;refine cn rfl ?_;refine cY (x:= .d (.v (.int .i64 0))) (by kernel_rfl) rfl rfl ?_;refine dJ ?_;refine DY 13 (cQ e.xIdx) (by kernel_rfl) λbO=> ?_;have qq:e.xIdx.length<=maxLen:=by rw[<-jD];exact Hh bO
  rw[jD];refine kf ?_;refine OX (ι:=Nat×apH bu×apH an) [0,13,14,15] h.length (λi=>⟨37,[(0, .cO k),(13, .d (.sl (cQ e.xIdx))),(14, .d (.v (.int .i64 e.xIdx.length))),(15, .d (.v (.int .i64 i.1)))],i.2.2⟩)
    (λi=>e.xIdx.drop i.1=i.2.1/\vu h i.2.2/\nq Tryz.prog k ((i.2.1.flatMap te).map cP) (λb h2=>C b h2/\vu h h2) i.2.2) (λi=>i.2.1.length) (0,e.xIdx,h1) (ao3 _) ?_ ?_ ⟨rfl,⟨k1,k2⟩,k3⟩ ?_
  ·rw[<-k1];exact UK _ (by rw[k1];exact k2) (by
     show(((AV.cO k).bn h1.length).aP h1.length&&(true&&(true&&(true&&true))))=true;rw[k1,JU hk];rfl)
  ·rw[<-k1];exact Ug _ (by rw[k1];exact k2)
  rintro⟨i,rest,hc⟩ ⟨hd,⟨c1,c2⟩,pR⟩;simp only at hd c1 c2 pR ⊢
  repeat refine bP ?_
  refine fy ?_;refine cn rfl ?_;refine cY (x:= .d (.v (.bool (decide ((i:Int)<(e.xIdx.length:Int)))))) (by kernel_rfl) rfl rfl ?_;refine dJ ?_
  repeat refine bP ?_
  cases rest with
  |nil=>
   rw[bK hd];refine ra (by kernel_rfl) ?_;refine uC (vP (vP (Cf rfl ?_)));rw[List.flatMap_nil,List.map_nil]at pR;exact OM c1 c2 ⟨rfl,true,pR.1⟩
  |cons x rest=>
   rw[bI hd];refine qN (by kernel_rfl) ?_;refine jG ?_;refine dJ ?_
   repeat refine bP ?_
   refine kf ?_
   repeat refine bP ?_
   refine fy ?_;refine cn rfl ?_;rw[<-apd hc];refine cY (RC (q:=i) (e:=111) (k:=4) rfl rfl (by kernel_rfl) (kO (bt hd)) rfl) rfl rfl ?_;refine cn rfl ?_;refine cY (x:=gN x) (by kernel_rfl) rfl rfl ?_;refine cn rfl ?_;refine Dk (PO (l:=[]) (by kernel_rfl)) rfl rfl Ji ?_;refine cn rfl ?_;refine SX (Sl (i:=0) (off:=0) (k:=4) (l:=[_]) (v:=gN x) (bJ:=(gN x).cells) (by kernel_rfl) rfl (by kernel_rfl) rfl (by kernel_rfl) (by kernel_rfl)) rfl Sy ?_;refine dJ ?_
   repeat refine bP ?_
   refine fy ?_;refine cn rfl ?_;refine cY (x:= .cO k) (by kernel_rfl) rfl rfl ?_;refine cn rfl ?_;refine cY (x:= .ptr (hc.length+0) 0) (by kernel_rfl) rfl rfl ?_;refine cn rfl ?_;refine cY (y8 (i:=0) (off:=0) (l:=[.cells (gN x).cells]) (x:=cP x.aQ) (by kernel_rfl) rfl (by kernel_rfl)) rfl rfl ?_;refine cn rfl ?_;rw[List.flatMap_cons,te,List.cons_append,aph]at pR;have hy:=O9 pR [.cells (gN x).cells] (by rw[c1];exact c2) (by kernel_rfl) (λb h' hh=>hh.1);refine JN (k:=k) (x:=cP x.aQ) rfl rfl (by kernel_rfl) (by kernel_rfl) rfl rfl ?_;refine hy.mono λb h' hh=> ?_;obtain⟨h2,⟨⟨p1,p2⟩,p3⟩,rfl⟩:=hh;refine cn rfl ?_;refine cY (x:= .d (.v (.bool (!b)))) (by kernel_rfl) rfl rfl ?_;refine dJ ?_;have q1:h2.length=h.length:=by rw[p1,c1]
   have q2:h2.all (an.aP h.length)=true:=by rw[c1]at p2;exact p2
   cases b with
   |false=>
    refine qN (by kernel_rfl) ?_;refine gM ?_
    repeat (first|(with_reducible refine jU ?_)|(with_reducible refine lz ?_))
    exact EN q1 q2 ⟨rfl,false,p3.1⟩
   |true=>
    refine ra (by kernel_rfl) ?_;refine jG ?_;refine dJ ?_;simp only[cond_true]at p3
    repeat refine bP ?_
    refine fy ?_;refine cn rfl ?_;refine cY (x:= .ptr (hc.length+0) 3) (by kernel_rfl) rfl rfl ?_;refine cn rfl ?_;refine cY (y8 (h:=h2) (i:=0) (off:=3) (l:=[.cells (gN x).cells]) (x:= .d (.sl (dE x.bG))) (by rw[p1];rfl) rfl (by kernel_rfl)) rfl rfl ?_;refine cn rfl ?_;refine cY (x:= .d (.v (.int .i64 (dE x.bG).length))) (by kernel_rfl) rfl rfl ?_;refine cn rfl ?_;refine cY (x:= .d (.v (.int .i64 0))) (by kernel_rfl) rfl rfl ?_;refine dJ ?_;refine DY 25 (dE x.bG) (by kernel_rfl) λakr=> ?_;have aiP:x.bG.length<=maxLen:=by rw[<-gj];exact Hh akr
    rw[gj];refine kf ?_;refine OX (ι:=Nat×apH aN×apH an) [0,13,14,15,25,26,27] h.length (λj=>⟨37,[(0, .cO k),(13, .d (.sl (cQ e.xIdx))),(14, .d (.v (.int .i64 e.xIdx.length))),(15, .d (.v (.int .i64 i))),(25, .d (.sl (dE x.bG))),(26, .d (.v (.int .i64 x.bG.length))),(27, .d (.v (.int .i64 j.1)))],j.2.2⟩)
      (λj=>x.bG.drop j.1=j.2.1/\vu h j.2.2/\nq Tryz.prog k ((j.2.1++rest.flatMap te).map cP) (λb h2=>C b h2/\vu h h2) j.2.2) (λj=>j.2.1.length) (0,x.bG,h2) (ao3 _) ?_ ?_ ⟨rfl,⟨q1,q2⟩,p3⟩ ?_
    ·rw[<-q1];exact CX _ (by rw[q1];exact q2) (by
       show(((AV.cO k).bn h2.length).aP h2.length&&(true&&(true&&(true&&(true&&(true&&(true&&true)))))))=true;rw[q1,JU hk];rfl)
    ·rw[<-q1];exact F8 _ (by rw[q1];exact q2)
    rintro⟨j,r2,hb⟩ ⟨mI,⟨b1,b2⟩,yw⟩;simp only at mI b1 b2 yw ⊢
    repeat refine bP ?_
    refine fy ?_;refine cn rfl ?_;refine cY (x:= .d (.v (.bool (decide ((j:Int)<(x.bG.length:Int)))))) (by kernel_rfl) rfl rfl ?_;refine dJ ?_
    repeat refine bP ?_
    cases r2 with
    |nil=>
     rw[bK mI];refine ra (by kernel_rfl) ?_;refine uC (vP (vP (Cf rfl ?_)));refine jz ?_;refine dJ ?_;rw[List.nil_append]at yw;refine fy ?_;refine cn rfl ?_;refine cY (x:= .d (.v (.int .i64 ((i+1:Nat):Int)))) (by
       show some ((.d (.v (.int .i64 (bh ((i:Int)+1)))):AV),HD.same)=_;have:=b5 hd rfl qq;unfold aq at this;rw[this]) rfl rfl ?_
     refine cn rfl ?_;refine cY (x:= .d (.v (.int .i64 ((i+1:Nat):Int)))) (by kernel_rfl) rfl rfl ?_;refine dJ ?_;refine⟨?_,(i+1,rest,hb),?_,⟨sf hd,⟨b1,b2⟩,yw⟩,apF _⟩
     ·rw[<-b1];exact UK _ (by rw[b1];exact b2) (by
        show(((AV.cO k).bn hb.length).aP hb.length&&(true&&(true&&(true&&true))))=true;rw[b1,JU hk];rfl)
     ·rw[<-b1];exact Ug _ (by rw[b1];exact b2)
    |cons y r2=>
     rw[bI mI];refine qN (by kernel_rfl) ?_;refine jG ?_;refine dJ ?_
     repeat refine bP ?_
     refine kf ?_
     repeat refine bP ?_
     refine fy ?_;refine cn rfl ?_;rw[<-apd hb];refine cY (RC (q:=j) (e:=52) (k:=2) rfl rfl (by kernel_rfl) (oJ (bt mI)) rfl) rfl rfl ?_;refine cn rfl ?_;refine cY (x:=cP y) (by kernel_rfl) rfl rfl ?_;refine cn rfl ?_;refine Dk (PO (l:=[]) (by kernel_rfl)) rfl rfl Ji ?_;refine cn rfl ?_;refine SX (Sl (i:=0) (off:=0) (k:=2) (l:=[_]) (v:=cP y) (bJ:=(cP y).cells) (by kernel_rfl) rfl (by kernel_rfl) rfl (by kernel_rfl) (by kernel_rfl)) rfl Sy ?_;refine dJ ?_
     repeat refine bP ?_
     refine fy ?_;refine cn rfl ?_;refine cY (x:= .cO k) (by kernel_rfl) rfl rfl ?_;refine cn rfl ?_;refine cY (y8 (i:=0) (off:=0) (l:=[.cells (cP y).cells]) (x:=cP y) (by kernel_rfl) rfl (by kernel_rfl)) rfl rfl ?_;refine cn rfl ?_;rw[List.cons_append,aph]at yw;have R1:=O9 yw [.cells (cP y).cells] (by rw[b1];exact b2) (by kernel_rfl) (λb h' hh=>hh.1);refine JN (k:=k) (x:=cP y) rfl rfl (by kernel_rfl) (by kernel_rfl) rfl rfl ?_;refine R1.mono λb h' hh=> ?_;obtain⟨h3,⟨⟨r1,r3⟩,r4⟩,rfl⟩:=hh;refine cn rfl ?_;refine cY (x:= .d (.v (.bool (!b)))) (by kernel_rfl) rfl rfl ?_;refine dJ ?_;have u1:h3.length=h.length:=by rw[r1,b1]
     have u2:h3.all (an.aP h.length)=true:=by rw[b1]at r3;exact r3
     cases b with
     |false=>
      refine qN (by kernel_rfl) ?_;refine gM ?_
      repeat (first|(with_reducible refine jU ?_)|(with_reducible refine lz ?_))
      exact EN u1 u2 ⟨rfl,false,r4.1⟩
     |true=>
      refine ra (by kernel_rfl) ?_;refine jG ?_;refine jz ?_;refine dJ ?_;simp only[cond_true]at r4;refine fy ?_;refine cn rfl ?_;refine cY (x:= .d (.v (.int .i64 ((j+1:Nat):Int)))) (by
       show some ((.d (.v (.int .i64 (bh ((j:Int)+1)))):AV),HD.same)=_;have:=b5 mI rfl aiP;unfold aq at this;rw[this]) rfl rfl ?_
      refine cn rfl ?_;refine cY (x:= .d (.v (.int .i64 ((j+1:Nat):Int)))) (by kernel_rfl) rfl rfl ?_;refine dJ ?_;refine⟨?_,(j+1,r2,h3),?_,⟨sf mI,⟨u1,u2⟩,r4⟩,apF _⟩
      ·rw[<-u1];exact CX _ (by rw[u1];exact u2) (by
         show(((AV.cO k).bn h3.length).aP h3.length&&(true&&(true&&(true&&(true&&(true&&(true&&true)))))))=true;rw[u1,JU hk];rfl)
      ·rw[<-u1];exact F8 _ (by rw[u1];exact u2)
theorem afV(v1:ar):ic Tryz.prog 168 [(aW v1)] (·= .fn 197 [.bz [eI v1] 0 0]):=by
 refine TF (r:= .fn 197 [(.ptr 0 0)]) (h:=[.cells (aW v1).cells]) ?_ (by kernel_rfl) rfl;refine BJ 1 Tryz.func168 rfl (by kernel_rfl) (ao0 rfl) ?_;refine zf (s':=⟨4,[(0,(aW v1))],[]⟩) (by kernel_rfl) ?_;refine bP ?_;refine rg [] [(1,(.ptr 0 0))] [.cells (aW v1).cells] (by kernel_rfl) ?_;refine bP ?_;refine rg [] [(2,(.fn 197 [(.ptr 0 0)]))] [.cells (aW v1).cells] (by kernel_rfl) ?_;refine gM ?_;exact Cj (by kernel_rfl)
theorem ahM(v1:ar):ic Tryz.prog 204 [(aW v1)] (·= .fn 241 [.bz [eI v1] 0 0]):=by
 refine TF (r:= .fn 241 [(.ptr 0 0)]) (h:=[.cells (aW v1).cells]) ?_ (by kernel_rfl) rfl;refine BJ 1 Tryz.func204 rfl (by kernel_rfl) (ao0 rfl) ?_;refine zf (s':=⟨4,[(0,(aW v1))],[]⟩) (by kernel_rfl) ?_;refine bP ?_;refine rg [] [(1,(.ptr 0 0))] [.cells (aW v1).cells] (by kernel_rfl) ?_;refine bP ?_;refine rg [] [(2,(.fn 241 [(.ptr 0 0)]))] [.cells (aW v1).cells] (by kernel_rfl) ?_;refine gM ?_;exact Cj (by kernel_rfl)
end Go.Proofs.YtmkmibahjanejaaGreatDoor
namespace Go.Proofs.YtmkmibahjanejaaGreatDoor
open Go.RowKit Go.Shelf
set_option maxRecDepth 100000
def aeW:Ren where
 f:=fun
  |157=>195
  |229=>228
  |199=>229
  |261=>254
  |311=>269
  |312=>270
  |n=>n
 t:=fun
  |9=>9
  |31=>22
  |3=>3
  |5=>5
  |4=>4
  |119=>252
  |0=>0
  |40=>175
  |152=>264
  |21=>21
  |154=>266
  |51=>204
  |141=>268
  |196=>283
  |193=>280
  |198=>286
  |49=>284
  |194=>281
  |201=>289
  |226=>293
  |46=>165
  |227=>294
  |n=>n
 g:=fun
  |0=>1
  |6=>4
  |n=>n
def nx:apH apI:=[bs [115,105,122,101],bs [119,104,101,114,101],bs [105,110],bs [100,101,102],bs [111,117,116],bs [115,117,109],bs [112,114,111,100],bs [109,105,110],bs [109,97,120],bs [115,99,97,110],bs [111,118,101,114],bs [105,102],bs [99,97,115,116],bs [102,114,97,99],bs [105,110,116],bs [102,105,120],bs [99,101,105,108],bs [102,108,111,111,114],bs [122,101,114,111],bs [101,118,101,110],bs [115,97,116],bs [119,114,97,112]]
theorem ag6:Lays.n157 Tryz.prog aeW:=by
 constructor<;>first|kernel_rfl|(intro w;rfl)
def F4:apI:=⟨#[115,105,122,101,32,119,104,101,114,101,32,105,110,32,100,101,102,32,111,117,116,32,115,117,109,32,112,114,111,100,32,109,105,110,32,109,97,120,32,115,99,97,110,32,111,118,101,114,32,105,102,32,99,97,115,116,32,102,114,97,99,32,105,110,116,32,102,105,120,32,99,101,105,108,32,102,108,111,111,114,32,122,101,114,111,32,101,118,101,110,32,115,97,116,32,119,114,97,112]⟩
theorem anu(w:apM)(hT:∀c:Nat,c<256->w.cell? ⟨1,c,none⟩=some (.int .u8 (if Lib.isSp (UInt8.ofNat c)then 1 else 0))):
 Calls Tryz.prog 195 #[.string F4] w λe w'=>e= .returned (.slice (some ⟨w.heap.size,0,none⟩) 22 22)/\w'=w.alloc (.cells (nx.map Value.string).toArray 9):=by
 have ha:(F4.data.toList.all λb=>decide (b.toNat<128))=true:=by kernel_rfl
 have h:=Any.strings_Fields_core ag6 (by kernel_rfl) F4 w (of_decide_eq_true (by kernel_rfl)) (λj b hb=>of_decide_eq_true (api.1 ha b (ao5 hb))) hT;have e1:(Lib.fields F4.data.toList).length=22:=by kernel_rfl
 have e2:((Lib.fields F4.data.toList).map λl=>Value.string ⟨l.toArray⟩)=nx.map Value.string:=by kernel_rfl
 rw[e1,e2]at h;exact h
theorem afB(w:apM)(hT:∀c:Nat,c<256->w.cell? ⟨1,c,none⟩=some (.int .u8 (if Lib.isSp (UInt8.ofNat c)then 1 else 0))):
 Calls Tryz.prog 165 #[] w λe w'=>e= .returned (.slice (some ⟨w.heap.size,0,none⟩) 22 22)/\w'=w.alloc (.cells (nx.map Value.string).toArray 9):=by
 go_enter Tryz.func165,Tryz.ntmps165
 go_wp2_with (go_at_call 195;refine(anu _ hT).mono ?_;rintro e w' ⟨rfl,rfl⟩)
 go_ret
 exact⟨rfl,rfl⟩
theorem afv:∀c:Nat,c<256->(p6 Gl)[c]?=some (.int .u8 (if Lib.isSp (UInt8.ofNat c)then 1 else 0)):=λc hc=>by
 rw[show p6 Gl=(List.range 256).map λc=>Value.int .u8 (if Lib.isSp (UInt8.ofNat c)then 1 else 0) by kernel_rfl,aoZ,List.getElem?_range hc];rfl
theorem aiL:ic Tryz.prog 165 [] (·= .d (.sl (cw nx))):=by
 refine⟨by kernel_rfl,λG w vs hi hl hr=> ?_⟩;obtain rfl:vs= #[]:=Array.size_eq_zero_iff.1 hl;refine(afB w λc hc=> ?_).mono λe w' hp=> ?_
 ·exact(hi.gl.1 1 (p6 Gl) aoY c _ (afv c hc)).2
 ·obtain⟨rfl,rfl⟩:=hp;obtain⟨i1,i2⟩:=W6 hi (.cells (nx.map Value.string).toArray 9) 22;have Ed:Rd (G.u7 w.heap.size 22).S (w.alloc (.cells (nx.map Value.string).toArray 9)) 1 (cw nx) (nx.map Value.string):=
   ⟨rfl,λx hx=>(by obtain⟨y,_,rfl⟩:=List.mem_map.1 hx;rfl),λu hu=>(by obtain⟨y,_,rfl⟩:=List.mem_map.1 hu;rfl),λi j x d hx hd=>by
    rw[qF,aoZ]at hx;cases hk:nx[i]? with
    |none=>rw[hk]at hx;cases hx
    |some y=>
     rw[hk]at hx;cases hx;cases j with
     |zero=>cases hd;exact⟨.string y,by rw[Nat.mul_one,Nat.add_zero,aoZ,hk];rfl, .v _⟩
     |succ j=>cases hd⟩
  have hp:=Ed.KM w.heap.size 22 (by decide) (by decide) (λo ho=> .inr ⟨rfl,ho⟩) (λo u hu=>by
   rw[World.cell?_alloc_new,List.getElem?_toArray];exact hu)
  exact⟨_,_,_,_,rfl,i1,ao3 _,i2, .d hp,rfl,rfl⟩
end Go.Proofs.YtmkmibahjanejaaGreatDoor
namespace Go.Proofs.YtmkmibahjanejaaGreatDoor
open Go.RowKit
set_option maxRecDepth 1000000
end Go.Proofs.YtmkmibahjanejaaGreatDoor
