/-
  Part 5 of the proof: AbsDat, IterE, KwS, AbsKern.
-/
import Derived.Test.YtmkmibahjanejaaGreatDoorPp4
import Derived.Test.YtmkmibahjanejaaGreatDoorProg
import Derived.WalkKit
import Derived.Shelf.Strings.Fields
import Derived.KernelRfl
namespace Go.Proofs.YtmkmibahjanejaaGreatDoor
open Go.RowKit
set_option linter.unusedVariables false
def Hh(x:aqy):aqx D:=[.v (.string x)]
def b6(l:aqx aqy):aqx (aqx D):=l.map Hh
theorem q9(l:aqx aqy):b6 l=l.map Hh:=rfl
theorem dX{l:aqx aqy}:(b6 l).length=l.length:=by rw[q9,apO]
theorem ik{l:aqx aqy}{k:Nat}{x:aqy}(h:l[k]?=some x):(b6 l)[k]?=some (Hh x):=by rw[q9,apQ,h];rfl
theorem ahP{a b:aqx aqy}:b6 a++b6 b=b6 (a++b):=by rw[q9,q9,q9,List.map_append]
theorem Ko{l:aqx aqy}:∀c∈b6 l,c.length=1:=by
 intro c hc;rw[q9]at hc;obtain⟨x,_,rfl⟩:=List.mem_map.1 hc;rfl
theorem Np{l:aqx aqy}{k n:Nat}:((b6 l).take n).drop k=b6 ((l.take n).drop k):=by rw[q9,q9,List.map_drop,List.map_take]
def dU8(x:Int):aqx D:=[.v (.int .u8 x)]
def alT(l:aqx Int):aqx (aqx D):=l.map dU8
def NX(x:Int):aqx D:=[.v (.int .i64 x)]
def po(l:aqx Int):aqx (aqx D):=l.map NX
theorem A1(l:aqx Int):po l=l.map NX:=rfl
theorem Lz{l:aqx Int}:(po l).length=l.length:=by rw[A1,apO]
theorem V3{l:aqx Int}{k:Nat}{x:Int}(h:l[k]?=some x):(po l)[k]?=some (NX x):=by rw[A1,apQ,h];rfl
theorem af1{a b:aqx Int}:po a++po b=po (a++b):=by rw[A1,A1,A1,List.map_append]
theorem ajh{l:aqx Int}:∀c∈po l,c.length=1:=by
 intro c hc;rw[A1]at hc;obtain⟨x,_,rfl⟩:=List.mem_map.1 hc;rfl
structure bt where
 ao:ByteArray
 cN:Int64
def jL(x:bt):aqx D:=[.v (.string x.ao), .v (.int .i64 x.cN.toInt)]
def yt(x:bt):AV:= .agg [.d (.v (.string x.ao)), .d (.v (.int .i64 x.cN.toInt))]
structure bA where
 b7:Int
 cp:Int
 cq:Int
 cU:Int
 cS:Int
def HY(x:bA):aqx D:=[.v (.int .i64 x.b7), .v (.int .i64 x.cp), .v (.int .i64 x.cq), .v (.int .i64 x.cU), .v (.int .i64 x.cS)]
def dH(x:bA):AV:= .agg [.d (.v (.int .i64 x.b7)), .d (.v (.int .i64 x.cp)), .d (.v (.int .i64 x.cq)), .d (.v (.int .i64 x.cU)), .d (.v (.int .i64 x.cS))]
structure dx where
 xN:Int64
 xD:Int64
def LZ(x:dx):aqx D:=[.v (.int .i64 x.xN.toInt), .v (.int .i64 x.xD.toInt)]
def aVal(x:dx):AV:= .agg [.d (.v (.int .i64 x.xN.toInt)), .d (.v (.int .i64 x.xD.toInt))]
structure ga where
 ao:ByteArray
 dM:Int64
def Gv(x:ga):aqx D:=[.v (.string x.ao), .v (.int .i64 x.dM.toInt)]
def Vk(x:ga):AV:= .agg [.d (.v (.string x.ao)), .d (.v (.int .i64 x.dM.toInt))]
structure o7 where
 aA:ByteArray
 aG:ByteArray
 ay:ByteArray
 nY:ByteArray
def aau(x:o7):AV:= .agg [.d (.v (.string x.aA)), .d (.v (.string x.aG)), .d (.v (.string x.ay)), .d (.v (.string x.nY))]
structure dO where
 bR:List ByteArray
 yF:List ByteArray
def iB(x:dO):AV:= .agg [.d (.sl (b6 x.bR)), .d (.sl (b6 x.yF))]
def dh(l:aqx bt):aqx (aqx D):=l.map jL
theorem ng(l:aqx bt):dh l=l.map jL:=rfl
theorem eK{l:aqx bt}:(dh l).length=l.length:=by rw[ng,apO]
theorem j7{l:aqx bt}{k:Nat}{x:bt}(h:l[k]?=some x):(dh l)[k]?=some (jL x):=by rw[ng,apQ,h];rfl
theorem aiR{a b:aqx bt}:dh a++dh b=dh (a++b):=by rw[ng,ng,ng,List.map_append]
theorem wP{l:aqx bt}:∀c∈dh l,c.length=2:=by
 intro c hc;rw[ng]at hc;obtain⟨x,_,rfl⟩:=List.mem_map.1 hc;rfl
theorem abB{l:aqx bt}{k:Nat}:(dh l).drop k=dh (l.drop k):=by rw[ng,ng,List.map_drop]
theorem WX{l:aqx bt}{k n:Nat}:((dh l).take n).drop k=dh ((l.take n).drop k):=by rw[ng,ng,List.map_drop,List.map_take]
def jz(l:aqx ga):aqx (aqx D):=l.map Gv
theorem yB(l:aqx ga):jz l=l.map Gv:=rfl
theorem xU{l:aqx ga}:(jz l).length=l.length:=by rw[yB,apO]
theorem BW{l:aqx ga}{k:Nat}{x:ga}(h:l[k]?=some x):(jz l)[k]?=some (Gv x):=by rw[yB,apQ,h];rfl
theorem aiW{a b:aqx ga}:jz a++jz b=jz (a++b):=by rw[yB,yB,yB,List.map_append]
theorem akg{l:aqx ga}:∀c∈jz l,c.length=2:=by
 intro c hc;rw[yB]at hc;obtain⟨x,_,rfl⟩:=List.mem_map.1 hc;rfl
def ox(l:aqx bA):aqx (aqx D):=l.map HY
theorem zO(l:aqx bA):ox l=l.map HY:=rfl
theorem alN{l:aqx bA}:(ox l).length=l.length:=by rw[zO,apO]
theorem lS{l:aqx bA}{k:Nat}{x:bA}(h:l[k]?=some x):(ox l)[k]?=some (HY x):=by rw[zO,apQ,h];rfl
theorem aex{a b:aqx bA}:ox a++ox b=ox (a++b):=by rw[zO,zO,zO,List.map_append]
theorem akB{l:aqx bA}:∀c∈ox l,c.length=5:=by
 intro c hc;rw[zO]at hc;obtain⟨x,_,rfl⟩:=List.mem_map.1 hc;rfl
def rD(l:aqx dx):aqx (aqx D):=l.map LZ
theorem Af(l:aqx dx):rD l=l.map LZ:=rfl
theorem UK{l:aqx dx}:(rD l).length=l.length:=by rw[Af,apO]
theorem alH{l:aqx dx}{k:Nat}{x:dx}(h:l[k]?=some x):(rD l)[k]?=some (LZ x):=by rw[Af,apQ,h];rfl
theorem agB{a b:aqx dx}:rD a++rD b=rD (a++b):=by rw[Af,Af,Af,List.map_append]
theorem aj2{l:aqx dx}:∀c∈rD l,c.length=2:=by
 intro c hc;rw[Af]at hc;obtain⟨x,_,rfl⟩:=List.mem_map.1 hc;rfl
structure aR where
 xK:Int64
 xL:List bt
def Dy(x:aR):aqx D:=[.v (.int .i64 x.xK.toInt), .sl (dh x.xL)]
def cE(x:aR):AV:= .agg [.d (.v (.int .i64 x.xK.toInt)), .d (.sl (dh x.xL))]
structure c8 where
 aS:aR
 jB:Bool
def EI(x:c8):aqx D:=[.v (.int .i64 x.aS.xK.toInt), .sl (dh x.aS.xL), .v (.bool x.jB)]
def mP(x:c8):AV:= .agg [.d (.v (.int .i64 x.aS.xK.toInt)), .d (.sl (dh x.aS.xL)), .d (.v (.bool x.jB))]
structure cd where
 ao:ByteArray
 cw:aR
def Ft(x:cd):aqx D:=[.v (.string x.ao), .v (.int .i64 x.cw.xK.toInt), .sl (dh x.cw.xL)]
def zV(x:cd):AV:= .agg [.d (.v (.string x.ao)), .d (.v (.int .i64 x.cw.xK.toInt)), .d (.sl (dh x.cw.xL))]
def hY(l:aqx c8):aqx (aqx D):=l.map EI
theorem y0(l:aqx c8):hY l=l.map EI:=rfl
theorem kg{l:aqx c8}:(hY l).length=l.length:=by rw[y0,apO]
theorem pI{l:aqx c8}{k:Nat}{x:c8}(h:l[k]?=some x):(hY l)[k]?=some (EI x):=by rw[y0,apQ,h];rfl
theorem aoG{a b:aqx c8}:hY a++hY b=hY (a++b):=by rw[y0,y0,y0,List.map_append]
theorem ala{l:aqx c8}:∀c∈hY l,c.length=3:=by
 intro c hc;rw[y0]at hc;obtain⟨x,_,rfl⟩:=List.mem_map.1 hc;rfl
def c6(l:aqx aR):aqx (aqx D):=l.map Dy
theorem w6(l:aqx aR):c6 l=l.map Dy:=rfl
theorem dT{l:aqx aR}:(c6 l).length=l.length:=by rw[w6,apO]
theorem k9{l:aqx aR}{k:Nat}{x:aR}(h:l[k]?=some x):(c6 l)[k]?=some (Dy x):=by rw[w6,apQ,h];rfl
theorem aoy{a b:aqx aR}:c6 a++c6 b=c6 (a++b):=by rw[w6,w6,w6,List.map_append]
theorem ag3{l:aqx aR}:∀c∈c6 l,c.length=2:=by
 intro c hc;rw[w6]at hc;obtain⟨x,_,rfl⟩:=List.mem_map.1 hc;rfl
def du(l:aqx cd):aqx (aqx D):=l.map Ft
theorem zd(l:aqx cd):du l=l.map Ft:=rfl
theorem dB{l:aqx cd}:(du l).length=l.length:=by rw[zd,apO]
theorem iE{l:aqx cd}{k:Nat}{x:cd}(h:l[k]?=some x):(du l)[k]?=some (Ft x):=by rw[zd,apQ,h];rfl
theorem afo{a b:aqx cd}:du a++du b=du (a++b):=by rw[zd,zd,zd,List.map_append]
theorem apc{l:aqx cd}:∀c∈du l,c.length=3:=by
 intro c hc;rw[zd]at hc;obtain⟨x,_,rfl⟩:=List.mem_map.1 hc;rfl
def Nz(x:aqx cd):aqx D:=[.sl (du x)]
def pC(l:aqx (aqx cd)):aqx (aqx D):=l.map Nz
theorem zK(l:aqx (aqx cd)):pC l=l.map Nz:=rfl
theorem QP{l:aqx (aqx cd)}:(pC l).length=l.length:=by rw[zK,apO]
theorem UO{l:aqx (aqx cd)}{k:Nat}{x:(aqx cd)}(h:l[k]?=some x):(pC l)[k]?=some (Nz x):=by rw[zK,apQ,h];rfl
theorem afp{a b:aqx (aqx cd)}:pC a++pC b=pC (a++b):=by rw[zK,zK,zK,List.map_append]
theorem akq{l:aqx (aqx cd)}:∀c∈pC l,c.length=1:=by
 intro c hc;rw[zK]at hc;obtain⟨x,_,rfl⟩:=List.mem_map.1 hc;rfl
structure cv where
 ao:ByteArray
 aO:bA
 aP:List aR
def GB(x:cv):aqx D:=[.v (.string x.ao), .v (.int .i64 x.aO.b7), .v (.int .i64 x.aO.cp), .v (.int .i64 x.aO.cq), .v (.int .i64 x.aO.cU), .v (.int .i64 x.aO.cS), .sl (c6 x.aP)]
def mZ(x:cv):AV:= .agg [.d (.v (.string x.ao)), .d (.v (.int .i64 x.aO.b7)), .d (.v (.int .i64 x.aO.cp)), .d (.v (.int .i64 x.aO.cq)), .d (.v (.int .i64 x.aO.cU)), .d (.v (.int .i64 x.aO.cS)), .d (.sl (c6 x.aP))]
structure bH where
 aS:aR
 bR:ByteArray
 bO:List aR
def EE(x:bH):aqx D:=[.v (.int .i64 x.aS.xK.toInt), .sl (dh x.aS.xL), .v (.string x.bR), .sl (c6 x.bO)]
def fZ(x:bH):AV:= .agg [.d (.v (.int .i64 x.aS.xK.toInt)), .d (.sl (dh x.aS.xL)), .d (.v (.string x.bR)), .d (.sl (c6 x.bO))]
def iT(l:aqx cv):aqx (aqx D):=l.map GB
theorem xC(l:aqx cv):iT l=l.map GB:=rfl
theorem iy{l:aqx cv}:(iT l).length=l.length:=by rw[xC,apO]
theorem jy{l:aqx cv}{k:Nat}{x:cv}(h:l[k]?=some x):(iT l)[k]?=some (GB x):=by rw[xC,apQ,h];rfl
theorem afI{a b:aqx cv}:iT a++iT b=iT (a++b):=by rw[xC,xC,xC,List.map_append]
theorem anm{l:aqx cv}:∀c∈iT l,c.length=7:=by
 intro c hc;rw[xC]at hc;obtain⟨x,_,rfl⟩:=List.mem_map.1 hc;rfl
def cZ(l:aqx bH):aqx (aqx D):=l.map EE
theorem yn(l:aqx bH):cZ l=l.map EE:=rfl
theorem fx{l:aqx bH}:(cZ l).length=l.length:=by rw[yn,apO]
theorem gx{l:aqx bH}{k:Nat}{x:bH}(h:l[k]?=some x):(cZ l)[k]?=some (EE x):=by rw[yn,apQ,h];rfl
theorem ahh{a b:aqx bH}:cZ a++cZ b=cZ (a++b):=by rw[yn,yn,yn,List.map_append]
theorem ans{l:aqx bH}:∀c∈cZ l,c.length=4:=by
 intro c hc;rw[yn]at hc;obtain⟨x,_,rfl⟩:=List.mem_map.1 hc;rfl
structure au where
 aJ:Int
 ao:ByteArray
 dM:dx
 aO:bA
 aS:aR
 xIdx:List bH
 bp:List au
mutual
def Ny:au->aqx D
 |⟨aJ,ao,dM,aO,aS,xIdx,bp⟩=>[.v (.int .i64 aJ), .v (.string ao), .v (.int .i64 dM.xN.toInt), .v (.int .i64 dM.xD.toInt), .v (.int .i64 aO.b7), .v (.int .i64 aO.cp), .v (.int .i64 aO.cq), .v (.int .i64 aO.cU), .v (.int .i64 aO.cS), .v (.int .i64 aS.xK.toInt), .sl (dh aS.xL), .sl (cZ xIdx), .sl (dW bp)]
def dW:aqx au->aqx (aqx D)
 |[]=>[]
 |x::l=>Ny x::dW l
end
def e7(x:au):aqx D:=[.v (.int .i64 x.aJ), .v (.string x.ao), .v (.int .i64 x.dM.xN.toInt), .v (.int .i64 x.dM.xD.toInt), .v (.int .i64 x.aO.b7), .v (.int .i64 x.aO.cp), .v (.int .i64 x.aO.cq), .v (.int .i64 x.aO.cU), .v (.int .i64 x.aO.cS), .v (.int .i64 x.aS.xK.toInt), .sl (dh x.aS.xL), .sl (cZ x.xIdx), .sl (dW x.bp)]
theorem agI(x:au):Ny x=e7 x:=by cases x;simp only[Ny];rfl
theorem ru:∀l:aqx au,dW l=l.map e7
 |[]=>by simp [dW]
 |x::l=>by simp [dW,agI,ru l]
theorem gq{l:aqx au}:(dW l).length=l.length:=by rw[ru,apO]
theorem fX{l:aqx au}{k:Nat}{x:au}(h:l[k]?=some x):(dW l)[k]?=some (e7 x):=by rw[ru,apQ,h];rfl
theorem agk{a b:aqx au}:dW a++dW b=dW (a++b):=by rw[ru,ru,ru,List.map_append]
theorem ah1{l:aqx au}:∀c∈dW l,c.length=13:=by
 intro c hc;rw[ru]at hc;obtain⟨x,_,rfl⟩:=List.mem_map.1 hc;rfl
def aN(x:au):AV:= .agg [.d (.v (.int .i64 x.aJ)), .d (.v (.string x.ao)), .d (.v (.int .i64 x.dM.xN.toInt)), .d (.v (.int .i64 x.dM.xD.toInt)), .d (.v (.int .i64 x.aO.b7)), .d (.v (.int .i64 x.aO.cp)), .d (.v (.int .i64 x.aO.cq)), .d (.v (.int .i64 x.aO.cU)), .d (.v (.int .i64 x.aO.cS)), .d (.v (.int .i64 x.aS.xK.toInt)), .d (.sl (dh x.aS.xL)), .d (.sl (cZ x.xIdx)), .d (.sl (dW x.bp))]
structure bf where
 ao:ByteArray
 aO:bA
 aP:List cd
 aY:List cd
 cC:Int
 cg:au
def Di(x:bf):aqx D:=[.v (.string x.ao), .v (.int .i64 x.aO.b7), .v (.int .i64 x.aO.cp), .v (.int .i64 x.aO.cq), .v (.int .i64 x.aO.cU), .v (.int .i64 x.aO.cS), .sl (du x.aP), .sl (du x.aY), .v (.int .i64 x.cC), .v (.int .i64 x.cg.aJ), .v (.string x.cg.ao), .v (.int .i64 x.cg.dM.xN.toInt), .v (.int .i64 x.cg.dM.xD.toInt), .v (.int .i64 x.cg.aO.b7), .v (.int .i64 x.cg.aO.cp), .v (.int .i64 x.cg.aO.cq), .v (.int .i64 x.cg.aO.cU), .v (.int .i64 x.cg.aO.cS), .v (.int .i64 x.cg.aS.xK.toInt), .sl (dh x.cg.aS.xL), .sl (cZ x.cg.xIdx), .sl (dW x.cg.bp)]
def ep(x:bf):AV:= .agg [.d (.v (.string x.ao)), .d (.v (.int .i64 x.aO.b7)), .d (.v (.int .i64 x.aO.cp)), .d (.v (.int .i64 x.aO.cq)), .d (.v (.int .i64 x.aO.cU)), .d (.v (.int .i64 x.aO.cS)), .d (.sl (du x.aP)), .d (.sl (du x.aY)), .d (.v (.int .i64 x.cC)), .d (.v (.int .i64 x.cg.aJ)), .d (.v (.string x.cg.ao)), .d (.v (.int .i64 x.cg.dM.xN.toInt)), .d (.v (.int .i64 x.cg.dM.xD.toInt)), .d (.v (.int .i64 x.cg.aO.b7)), .d (.v (.int .i64 x.cg.aO.cp)), .d (.v (.int .i64 x.cg.aO.cq)), .d (.v (.int .i64 x.cg.aO.cU)), .d (.v (.int .i64 x.cg.aO.cS)), .d (.v (.int .i64 x.cg.aS.xK.toInt)), .d (.sl (dh x.cg.aS.xL)), .d (.sl (cZ x.cg.xIdx)), .d (.sl (dW x.cg.bp))]
def gh(l:aqx bf):aqx (aqx D):=l.map Di
theorem tb(l:aqx bf):gh l=l.map Di:=rfl
theorem gY{l:aqx bf}:(gh l).length=l.length:=by rw[tb,apO]
theorem jH{l:aqx bf}{k:Nat}{x:bf}(h:l[k]?=some x):(gh l)[k]?=some (Di x):=by rw[tb,apQ,h];rfl
theorem ag7{a b:aqx bf}:gh a++gh b=gh (a++b):=by rw[tb,tb,tb,List.map_append]
theorem RZ{l:aqx bf}:∀c∈gh l,c.length=22:=by
 intro c hc;rw[tb]at hc;obtain⟨x,_,rfl⟩:=List.mem_map.1 hc;rfl
theorem YT{l:aqx bf}{k n:Nat}:((gh l).take n).drop k=gh ((l.take n).drop k):=by rw[tb,tb,List.map_drop,List.map_take]
structure aK where
 aA:List ByteArray
 cr:List c8
 aG:List cv
 ay:List bf
 b9:List ByteArray
def anH(x:aK):aqx D:=[.sl (b6 x.aA), .sl (hY x.cr), .sl (iT x.aG), .sl (gh x.ay), .sl (b6 x.b9)]
def cX(x:aK):AV:= .agg [.d (.sl (b6 x.aA)), .d (.sl (hY x.cr)), .d (.sl (iT x.aG)), .d (.sl (gh x.ay)), .d (.sl (b6 x.b9))]
def aC(s:aqy):AV:= .d (.v (.string s))
def ar(n:Int):AV:= .d (.v (.int .i64 n))
def cQ(n:Int64):AV:= .d (.v (.int .i64 n.toInt))
def aM(b:Bool):AV:= .d (.v (.bool b))
abbrev bl(n:Int):Int:=IntKind.i64.wrap n
theorem xP(a:Int):IntKind.i64.wrap a=a.bmod (2^64):=by
 rw[IntKind.wrap_i64,Int.bmod_def];omega
theorem nk(a:Int):ar (bl a)=cQ (Int64.ofInt a):=by
 unfold ar cQ bl;rw[xP,Int64.toInt_ofInt]
theorem UX(a b:Int64):ar (bl (a.toInt+b.toInt))=cQ (a+b):=by
 unfold ar cQ bl;rw[xP,Int64.toInt_add]
theorem akn(a b:Int64):ar (bl (a.toInt-b.toInt))=cQ (a-b):=by
 unfold ar cQ bl;rw[xP,Int64.toInt_sub]
theorem xy(a:Int64):ar (bl (0-a.toInt))=cQ (-a):=by
 unfold ar cQ bl;rw[xP,Int64.toInt_neg,Int.zero_sub]
theorem BV{a:Int}(h:bl a=a):ar a=cQ (Int64.ofInt a):=by
 rw[<-nk,h]
theorem aku(a:Int64)(b:Int):ar (a.toInt.tmod b)=cQ (Int64.ofInt (a.toInt.tmod b)):=by
 refine BV ?_;unfold bl;rw[IntKind.wrap_i64];have h1:=a.le_toInt;have h2:=a.toInt_lt;have h3:=Int.natAbs_tmod a.toInt b;have h4:(a.toInt.tmod b).natAbs<=a.toInt.natAbs:=by rw[h3];exact Nat.mod_le _ _
 have h7: -9223372036854775808<=a.toInt/\a.toInt<=9223372036854775807:=by omega
 clear h1 h2 h3;by_cases h5:0<=a.toInt
 ·have:=Int.tmod_nonneg b h5;generalize a.toInt.tmod b=x at*;omega
 ·have h6:=Int.tmod_nonneg b (show 0<=-a.toInt by omega);rw[Int.neg_tmod]at h6;generalize a.toInt.tmod b=x at*;omega
theorem bE{α:Type}{l:aqx α}{k:Nat}{x:α}{xs:aqx α}{n:Nat}(hd:l.drop k=x::xs)(hn:l.length=n)(hl:n<=maxLen):ar (bl ((k:Int)+1))=ar ((k+1:Nat):Int):=by
 have:(l.drop k).length=(x::xs).length:=by rw[hd]
 rw[List.length_drop,apM]at this;have h1:k<maxLen:=by omega
 unfold maxLen at h1;have e:IntKind.i64.wrap ((k:Int)+1)=((k+1:Nat):Int):=by rw[IntKind.wrap_i64];omega
 unfold ar bl;rw[e]
theorem aW{α:Type}{l:aqx α}{k:Nat}{x:α}{xs:aqx α}(hd:l.drop k=x::xs):l[k]?=some x:=by
 have:(l.drop k)[0]?=some x:=by rw[hd];rfl
 rwa [List.getElem?_drop]at this
theorem tW{α:Type}{l:aqx α}{k:Nat}{x:α}{xs:aqx α}(hd:l.drop k=x::xs):l.drop (k+1)=xs:=by
 rw[<-List.drop_drop,hd];rfl
theorem bk{α:Type}{l:aqx α}{k:Nat}{x:α}{xs:aqx α}(hd:l.drop k=x::xs):decide ((k:Int)<(l.length:Int))=true:=by
 have:(l.drop k).length=(x::xs).length:=by rw[hd]
 rw[List.length_drop,apM]at this;exact aqq (by omega)
theorem bj{α:Type}{l:aqx α}{k:Nat}(hd:l.drop k=[]):decide ((k:Int)<(l.length:Int))=false:=by
 have:=List.drop_eq_nil_iff.1 hd;exact aqr (by omega)
theorem IK{n da:Nat}(h:Nat.ble (n*da) 140737488355328=true)(hb:1<=da):n<=maxLen/\n*da<=140737488355328:=by
 have h:=apR h;refine⟨?_,h⟩;unfold maxLen;have:=Nat.le_mul_of_pos_right n hb;omega
theorem dJ:Tryz.prog.follows .mixedOrders=true:=by kernel_rfl
set_option maxRecDepth 100000
set_option maxHeartbeats 0
def AL(a b:Int64):Int64:=if b.toInt>a.toInt then b else a
theorem UN(a b:Int64):(if b.toInt>a.toInt then b.toInt else a.toInt)=(AL a b).toInt:=by unfold AL;split<;>rfl
theorem agY(a b:Int64):AV.d (.v (.int .i64 (if b.toInt>a.toInt then b.toInt else a.toInt)))=cQ (AL a b):=by rw[UN];rfl
mutual
def Pa:au->aqx au
 |⟨o,n,v,t,l,i,xs⟩=>⟨o,n,v,t,l,i,xs⟩::gW xs
def gW:aqx au->aqx au
 |[]=>[]
 |x::l=>Pa x++gW l
end
def cM(e:au):aqx au:=e::gW e.bp
theorem afN(e:au):Pa e=cM e:=by cases e;simp only[Pa];rfl
theorem nC(x:au)(l:aqx au):gW (x::l)=cM x++gW l:=by rw[gW,afN]
theorem Sz{P:aqA}{k:Nat}:∀(l:aqx AV){C:Bool->aqx an->Prop}{h:aqx an},h.all (an.aQ h.length)=true->mU P k l C h->mU P k l (λb h1=>C b h1/\vw h h1) h
 |[],_,_,hl,hs=>⟨hs,rfl,hl⟩
 |x::l,C,h,hl,hs=>YS.mono hs λb h1 ⟨h2,h3⟩=>⟨h2,by
  cases b with
  |true=>exact WA l (λb h4 ⟨h5,h6,h7⟩=>⟨h5,by rw[h6,h2.1],by rw[h2.1]at h7;exact h7⟩) (Sz l (by rw[h2.1];exact h2.2) h3)
  |false=>exact⟨h3,h2⟩⟩
def Mc(e:au):Prop:=∀(k:Nat)(h:aqx an)(C:Bool->aqx an->Prop),h.all (an.aQ h.length)=true->k<h.length->mU Tryz.prog k ((cM e).map aN) C h->cF Tryz.prog 198 [aN e, .cY k] h λr h1=>∃b,r= .d (.v (.bool b))/\C b h1/\vw h h1
theorem XB{P:aqA}{fn:Func}{n:Nat}{t:aqx (Nat×AV)}{H h1 l:aqx an}{K:AV->aqx an->Prop}(k1:h1.length=H.length)(k2:h1.all (an.aQ H.length)=true)(hr:nh P ⟨n,t,h1++l⟩ fn.results.toList λrs=>((kP rs).bw h1.length).aQ h1.length=true/\K ((kP rs).bw h1.length) h1):tN P fn H.length K ⟨n,t,h1++l⟩:=by
 rw[<-k1]at k2 ⊢;exact aiA k2 hr
theorem Fy{P:aqA}{fn:Func}{n:Nat}{t:aqx (Nat×AV)}{H h1 l:aqx an}{K:AV->aqx an->Prop}(k1:h1.length=H.length)(k2:h1.all (an.aQ H.length)=true)(hr:nh P ⟨n,t,h1++l⟩ fn.results.toList λrs=>((kP rs).bw h1.length).aQ h1.length=true/\K ((kP rs).bw h1.length) h1):JG P fn H.length K .ret ⟨n,t,h1++l⟩:=XB k1 k2 hr
theorem afS(e:au)(nR:∀x∈e.bp,Mc x):Mc e:=by
 intro k h C qx hk hs;refine B3 h.length Tryz.func198 rfl (by kernel_rfl) (apU _) ?_
 suffices hA:bu Tryz.prog none h.length _ _ ⟨23,[(0,aN e),(1, .cY k)],h++[]⟩ by rw[ap4]at hA;exact hA
 repeat refine bW ?_
 refine fP ?_;refine cx rfl ?_;refine Eo (ami (l:=[]) (v:=aN e) rfl (by kernel_rfl)) rfl rfl JK ?_;refine cx rfl ?_;refine c9 (x:= .d (.v (.bool false))) (by kernel_rfl) rfl rfl ?_;refine dL ?_
 repeat refine bW ?_
 refine fP ?_;refine cx rfl ?_;refine c9 (x:= .cY k) (by kernel_rfl) rfl rfl ?_;refine cx rfl ?_;refine c9 (Aw (i:=0) (off:=0) (l:=[]++[.cells (aN e).cells]) (x:=aN e) (by kernel_rfl) rfl (by kernel_rfl)) rfl rfl ?_;refine cx rfl ?_;rw[cM,ap8]at hs;have hy:=Q1 (Sz (aN e::_) qx hs) [.cells (aN e).cells] qx (by kernel_rfl) (λb h' hh=>hh.1);refine Hr (k:=k) (x:=aN e) rfl rfl (by kernel_rfl) (by kernel_rfl) rfl rfl ?_;refine hy.mono λb h' hh=> ?_;obtain⟨h1,⟨⟨k1,k2⟩,k3⟩,rfl⟩:=hh;refine cx rfl ?_;refine c9 (x:= .d (.v (.bool (!b)))) (by kernel_rfl) rfl rfl ?_;refine dL ?_;cases b with
 |false=>
  refine rG (by kernel_rfl) ?_
  repeat refine bW ?_
  refine fP ?_;refine cx rfl ?_;refine c9 (x:= .d (.v (.bool false))) (by kernel_rfl) rfl rfl ?_;refine dL ?_;refine gN (jN ?_);refine Fy k1 k2 ?_;exact⟨rfl,false,rfl,k3⟩
 |true=>
  refine rC (by kernel_rfl) ?_;refine jn ?_;refine dL ?_;simp only[cond_true]at k3
  repeat refine bW ?_
  refine fP ?_;refine cx rfl ?_;refine c9 (x:= .ptr (h.length+0) 12) (by kernel_rfl) rfl rfl ?_;refine cx rfl ?_;refine c9 (Aw (h:=h1) (i:=0) (off:=12) (l:=[.cells (aN e).cells]) (x:= .d (.sl (dW e.bp))) (by rw[k1];rfl) rfl (by kernel_rfl)) rfl rfl ?_;refine cx rfl ?_;refine c9 (x:= .d (.v (.int .i64 (dW e.bp).length))) (by kernel_rfl) rfl rfl ?_;refine cx rfl ?_;refine c9 (x:= .d (.v (.int .i64 0))) (by kernel_rfl) rfl rfl ?_;refine dL ?_;refine CM 12 (dW e.bp) (by kernel_rfl) λbQ=> ?_;have pL:e.bp.length<=maxLen:=by rw[<-gq];exact JS bQ
  rw[gq]
  repeat refine bW ?_
  refine ky ?_;refine NG (ι:=Nat×aqx au×aqx an) [1,12,13,14] h.length (λi=>⟨23,[(1, .cY k),(12, .d (.sl (dW e.bp))),(13, .d (.v (.int .i64 e.bp.length))),(14, .d (.v (.int .i64 i.1)))],i.2.2⟩)
   (λi=>e.bp.drop i.1=i.2.1/\vw h i.2.2/\mU Tryz.prog k ((gW i.2.1).map aN) (λb h2=>C b h2/\vw h h2) i.2.2) (λi=>i.2.1.length) (0,e.bp,h1) (apU _) ?_ ?_ ⟨rfl,⟨k1,k2⟩,k3⟩ ?_
  ·rw[<-k1];exact DU _ (by rw[k1];exact k2) (by
     show(((AV.cY k).bw h1.length).aQ h1.length&&(true&&(true&&(true&&true))))=true;rw[k1];simp [AV.bw,AV.aQ,cn];omega)
  ·rw[<-k1];exact EX _ (by rw[k1];exact k2)
  rintro⟨i,rest,hc⟩ ⟨hd,⟨c1,c2⟩,qj⟩;simp only at hd c1 c2 qj ⊢
  repeat refine bW ?_
  refine fP ?_;refine cx rfl ?_;refine c9 (x:= .d (.v (.bool (decide ((i:Int)<(e.bp.length:Int)))))) (by kernel_rfl) rfl rfl ?_;refine dL ?_;refine bW ?_;cases rest with
  |nil=>
   rw[bj hd];refine rC (by kernel_rfl) ?_;refine wJ (wH (wH (CA rfl ?_)));refine dL ?_
   repeat refine bW ?_
   refine fP ?_;refine cx rfl ?_;rw[<-ap4 hc];refine c9 (x:= .d (.v (.bool true))) (by kernel_rfl) rfl rfl ?_;refine dL ?_;refine gN ?_;refine Fy c1 c2 ?_;rw[gW,List.map_nil]at qj;exact⟨rfl,true,rfl,qj⟩
  |cons x rest=>
   rw[bk hd];refine rG (by kernel_rfl) ?_;refine jn ?_;refine dL ?_
   repeat refine bW ?_
   refine ky ?_
   repeat refine bW ?_
   refine fP ?_;refine cx rfl ?_;rw[<-ap4 hc];refine c9 (SQ (q:=i) (e:=67) (k:=13) rfl rfl (by kernel_rfl) (fX (aW hd)) rfl) rfl rfl ?_;refine cx rfl ?_;refine c9 (x:=aN x) (by kernel_rfl) rfl rfl ?_;refine cx rfl ?_;refine Eo (Ng (l:=[]) (by kernel_rfl)) rfl rfl JK ?_;refine cx rfl ?_;refine Rp (NS (i:=0) (off:=0) (k:=13) (l:=[_]) (v:=aN x) (bP:=(aN x).cells) (by kernel_rfl) rfl (by kernel_rfl) rfl (by kernel_rfl) (by kernel_rfl)) rfl Oa ?_;refine dL ?_
   repeat refine bW ?_
   refine fP ?_;refine cx rfl ?_;refine c9 (Aw (i:=0) (off:=0) (l:=[.cells (aN x).cells]) (x:=aN x) (by kernel_rfl) rfl (by kernel_rfl)) rfl rfl ?_;refine cx rfl ?_;refine c9 (x:= .cY k) (by kernel_rfl) rfl rfl ?_;refine cx rfl ?_;rw[nC,List.map_append]at qj;have xM:=Y2 _ _ qj;have hw:=nR x (apW (aW hd)) k hc _ (by rw[c1];exact c2) (by rw[c1];exact hk) xM;have hw2:=acW hw [.cells (aN x).cells] (by rw[c1];exact c2) (by
    rw[c1];show((aN x).aQ h.length&&((AV.cY k).aQ h.length&&true))=true;rw[show(aN x).aQ h.length=true by kernel_rfl];simp [AV.aQ,cn];omega) (λr h' hh=>by
    obtain⟨b,rfl,_,q1,q2⟩:=hh;exact⟨q1,q2,rfl⟩)
   refine UB (g:=198) (c7:=[]) rfl rfl rfl ?_;refine hw2.mono λr h' hh=> ?_;obtain⟨h2,⟨b,rfl,q0,q1,q2⟩,rfl⟩:=hh;refine cx rfl ?_;refine c9 (x:= .d (.v (.bool (!b)))) (by kernel_rfl) rfl rfl ?_;refine dL ?_;cases b with
   |false=>
    refine rG (by kernel_rfl) ?_
    repeat refine bW ?_
    refine fP ?_;refine cx rfl ?_;refine c9 (x:= .d (.v (.bool false))) (by kernel_rfl) rfl rfl ?_;refine dL ?_;refine gN (lE (jN (jN (lE (jN ?_)))));refine Fy (h1:=h2) (by rw[q1,c1]) (by rw[c1]at q2;exact q2) ?_;exact⟨rfl,false,rfl,q0⟩
   |true=>
    refine rC (by kernel_rfl) ?_;refine jn ?_;refine jK ?_;refine dL ?_;simp only[cond_true]at q0;refine fP ?_;refine cx rfl ?_;refine c9 (x:= .d (.v (.int .i64 ((i+1:Nat):Int)))) (by
     show some ((.d (.v (.int .i64 (bl ((i:Int)+1)))):AV),HD.same)=_;have:=bE hd rfl pL;unfold ar at this;rw[this]) rfl rfl ?_
    refine cx rfl ?_;refine c9 (x:= .d (.v (.int .i64 ((i+1:Nat):Int)))) (by kernel_rfl) rfl rfl ?_;refine dL ?_;have e1:h2.length=h.length:=by rw[q1,c1]
    have e2:h2.all (an.aQ h2.length)=true:=by rw[q1];exact q2
    refine⟨?_,(i+1,rest,h2),?_,⟨tW hd,⟨e1,by rw[<-e1];exact e2⟩,q0⟩,aqv _⟩
    ·rw[<-e1];exact DU _ e2 (by
       show(((AV.cY k).bw h2.length).aQ h2.length&&(true&&(true&&(true&&true))))=true;rw[e1];simp [AV.bw,AV.aQ,cn];omega)
    ·rw[<-e1];exact EX _ e2
mutual
theorem W6:(e:au)->Mc e
 |⟨_,_,_,_,_,_,xs⟩=>afS _ (VX xs)
theorem VX:(l:aqx au)->∀x∈l,Mc x
 |[],_,h=>absurd h aqp
 |x::l,y,h=>(aqd.1 h).elim (λe=>e▸W6 x) (VX l y)
end
theorem Q6{P:aqA}{fn:Func}{n:Nat}{t:aqx (Nat×AV)}{H h1:aqx an}{K:AV->aqx an->Prop}(k1:h1.length=H.length)(k2:h1.all (an.aQ H.length)=true)(hr:nh P ⟨n,t,h1⟩ fn.results.toList λrs=>((kP rs).bw h1.length).aQ h1.length=true/\K ((kP rs).bw h1.length) h1):JG P fn H.length K .normal ⟨n,t,h1⟩:=by
 have:=XB (P:=P) (fn:=fn) (n:=n) (t:=t) (l:=[]) (K:=K) k1 k2;rw[ap4]at this;exact this hr
theorem adg{P:aqA}{fn:Func}{n:Nat}{t:aqx (Nat×AV)}{H h1:aqx an}{K:AV->aqx an->Prop}(k1:h1.length=H.length)(k2:h1.all (an.aQ H.length)=true)(hr:nh P ⟨n,t,h1⟩ fn.results.toList λrs=>((kP rs).bw h1.length).aQ h1.length=true/\K ((kP rs).bw h1.length) h1):JG P fn H.length K .ret ⟨n,t,h1⟩:=Q6 k1 k2 hr
theorem WT(e:au):N9 Tryz.prog 197 [.bJ [e7 e] 0 0] ((cM e).map aN):=by
 intro k h C qx hk hs;refine B3 h.length Tryz.func197 rfl (by kernel_rfl) (apU _) ?_;show bu Tryz.prog none h.length _ _ ⟨6,[(0, .cY k),(1, .bJ [e7 e] 0 0)],h⟩;refine fP ?_;refine cx rfl ?_;refine c9 (x:=aN e) (by kernel_rfl) rfl rfl ?_;refine cx rfl ?_;refine c9 (x:= .cY k) (by kernel_rfl) rfl rfl ?_;refine cx rfl ?_;refine UB (g:=198) (c7:=[]) rfl rfl rfl ?_;refine(W6 e k h C qx hk hs).mono λr h' hh=> ?_;obtain⟨b,rfl,q0,q1,q2⟩:=hh;refine Q6 (n:=6) (t:=[(5, .d (.v (.bool b))),(4, .cY k),(3,aN e),(0, .cY k),(1, .bJ [e7 e] 0 0)]) q1 q2 ?_;exact⟨rfl,b,q0⟩
def uA(x:bH):aqx aR:=x.aS::x.bO
def nE(e:au):aqx aR:=e.aS::e.xIdx.flatMap uA
theorem aiS(e:au):N9 Tryz.prog 241 [.bJ [e7 e] 0 0] ((nE e).map cE):=by
 intro k h C qx hk PM;have hs:=Sz _ qx PM;refine B3 h.length Tryz.func241 rfl (by kernel_rfl) (apU _) ?_;show bu Tryz.prog none h.length _ _ ⟨37,[(0, .cY k),(1, .bJ [e7 e] 0 0)],h⟩
 repeat refine bW ?_
 refine fP ?_;refine cx rfl ?_;refine c9 (x:= .cY k) (by kernel_rfl) rfl rfl ?_;refine cx rfl ?_;refine c9 (x:= .bJ [e7 e] 0 9) (by kernel_rfl) rfl rfl ?_;refine cx rfl ?_;refine c9 (x:=cE e.aS) (by kernel_rfl) rfl rfl ?_;refine cx rfl ?_;rw[nE,ap8]at hs;refine Hr (k:=k) (x:=cE e.aS) rfl rfl (by kernel_rfl) (by kernel_rfl) rfl rfl ?_;refine YS.mono hs λb h1 hh=> ?_;obtain⟨⟨k1,k2⟩,k3⟩:=hh;refine cx rfl ?_;refine c9 (x:= .d (.v (.bool (!b)))) (by kernel_rfl) rfl rfl ?_;refine dL ?_;cases b with
 |false=>
  refine rG (by kernel_rfl) ?_;refine gN (jN ?_);exact adg k1 k2 ⟨rfl,false,k3.1⟩
 |true=>
  refine rC (by kernel_rfl) ?_;refine jn ?_;refine dL ?_;simp only[cond_true]at k3
  repeat refine bW ?_
  refine fP ?_;refine cx rfl ?_;refine c9 (x:= .bJ [e7 e] 0 11) (by kernel_rfl) rfl rfl ?_;refine cx rfl ?_;refine c9 (x:= .d (.sl (cZ e.xIdx))) (by kernel_rfl) rfl rfl ?_;refine cx rfl ?_;refine c9 (x:= .d (.v (.int .i64 (cZ e.xIdx).length))) (by kernel_rfl) rfl rfl ?_;refine cx rfl ?_;refine c9 (x:= .d (.v (.int .i64 0))) (by kernel_rfl) rfl rfl ?_;refine dL ?_;refine CM 13 (cZ e.xIdx) (by kernel_rfl) λbQ=> ?_;have pL:e.xIdx.length<=maxLen:=by rw[<-fx];exact JS bQ
  rw[fx];refine ky ?_;refine NG (ι:=Nat×aqx bH×aqx an) [0,13,14,15] h.length (λi=>⟨37,[(0, .cY k),(13, .d (.sl (cZ e.xIdx))),(14, .d (.v (.int .i64 e.xIdx.length))),(15, .d (.v (.int .i64 i.1)))],i.2.2⟩)
    (λi=>e.xIdx.drop i.1=i.2.1/\vw h i.2.2/\mU Tryz.prog k ((i.2.1.flatMap uA).map cE) (λb h2=>C b h2/\vw h h2) i.2.2) (λi=>i.2.1.length) (0,e.xIdx,h1) (apU _) ?_ ?_ ⟨rfl,⟨k1,k2⟩,k3⟩ ?_
  ·rw[<-k1];exact aaz _ (by rw[k1];exact k2) (by
     show(((AV.cY k).bw h1.length).aQ h1.length&&(true&&(true&&(true&&true))))=true;rw[k1,MG hk];rfl)
  ·rw[<-k1];exact YZ _ (by rw[k1];exact k2)
  rintro⟨i,rest,hc⟩ ⟨hd,⟨c1,c2⟩,qj⟩;simp only at hd c1 c2 qj ⊢
  repeat refine bW ?_
  refine fP ?_;refine cx rfl ?_;refine c9 (x:= .d (.v (.bool (decide ((i:Int)<(e.xIdx.length:Int)))))) (by kernel_rfl) rfl rfl ?_;refine dL ?_
  repeat refine bW ?_
  cases rest with
  |nil=>
   rw[bj hd];refine rC (by kernel_rfl) ?_;refine wJ (wH (wH (CA rfl ?_)));rw[List.flatMap_nil,List.map_nil]at qj;exact Q6 c1 c2 ⟨rfl,true,qj.1⟩
  |cons x rest=>
   rw[bk hd];refine rG (by kernel_rfl) ?_;refine jn ?_;refine dL ?_
   repeat refine bW ?_
   refine ky ?_
   repeat refine bW ?_
   refine fP ?_;refine cx rfl ?_;rw[<-ap4 hc];refine c9 (SQ (q:=i) (e:=111) (k:=4) rfl rfl (by kernel_rfl) (gx (aW hd)) rfl) rfl rfl ?_;refine cx rfl ?_;refine c9 (x:=fZ x) (by kernel_rfl) rfl rfl ?_;refine cx rfl ?_;refine Eo (Ng (l:=[]) (by kernel_rfl)) rfl rfl JK ?_;refine cx rfl ?_;refine Rp (NS (i:=0) (off:=0) (k:=4) (l:=[_]) (v:=fZ x) (bP:=(fZ x).cells) (by kernel_rfl) rfl (by kernel_rfl) rfl (by kernel_rfl) (by kernel_rfl)) rfl Oa ?_;refine dL ?_
   repeat refine bW ?_
   refine fP ?_;refine cx rfl ?_;refine c9 (x:= .cY k) (by kernel_rfl) rfl rfl ?_;refine cx rfl ?_;refine c9 (x:= .ptr (hc.length+0) 0) (by kernel_rfl) rfl rfl ?_;refine cx rfl ?_;refine c9 (Aw (i:=0) (off:=0) (l:=[.cells (fZ x).cells]) (x:=cE x.aS) (by kernel_rfl) rfl (by kernel_rfl)) rfl rfl ?_;refine cx rfl ?_;rw[List.flatMap_cons,uA,List.cons_append,ap8]at qj;have hy:=Q1 qj [.cells (fZ x).cells] (by rw[c1];exact c2) (by kernel_rfl) (λb h' hh=>hh.1);refine Hr (k:=k) (x:=cE x.aS) rfl rfl (by kernel_rfl) (by kernel_rfl) rfl rfl ?_;refine hy.mono λb h' hh=> ?_;obtain⟨h2,⟨⟨p1,p2⟩,p3⟩,rfl⟩:=hh;refine cx rfl ?_;refine c9 (x:= .d (.v (.bool (!b)))) (by kernel_rfl) rfl rfl ?_;refine dL ?_;have q1:h2.length=h.length:=by rw[p1,c1]
   have q2:h2.all (an.aQ h.length)=true:=by rw[c1]at p2;exact p2
   cases b with
   |false=>
    refine rG (by kernel_rfl) ?_;refine gN ?_
    repeat (first|(with_reducible refine jN ?_)|(with_reducible refine lE ?_))
    exact Fy q1 q2 ⟨rfl,false,p3.1⟩
   |true=>
    refine rC (by kernel_rfl) ?_;refine jn ?_;refine dL ?_;simp only[cond_true]at p3
    repeat refine bW ?_
    refine fP ?_;refine cx rfl ?_;refine c9 (x:= .ptr (hc.length+0) 3) (by kernel_rfl) rfl rfl ?_;refine cx rfl ?_;refine c9 (Aw (h:=h2) (i:=0) (off:=3) (l:=[.cells (fZ x).cells]) (x:= .d (.sl (c6 x.bO))) (by rw[p1];rfl) rfl (by kernel_rfl)) rfl rfl ?_;refine cx rfl ?_;refine c9 (x:= .d (.v (.int .i64 (c6 x.bO).length))) (by kernel_rfl) rfl rfl ?_;refine cx rfl ?_;refine c9 (x:= .d (.v (.int .i64 0))) (by kernel_rfl) rfl rfl ?_;refine dL ?_;refine CM 25 (c6 x.bO) (by kernel_rfl) λalO=> ?_;have alI:x.bO.length<=maxLen:=by rw[<-dT];exact JS alO
    rw[dT];refine ky ?_;refine NG (ι:=Nat×aqx aR×aqx an) [0,13,14,15,25,26,27] h.length (λj=>⟨37,[(0, .cY k),(13, .d (.sl (cZ e.xIdx))),(14, .d (.v (.int .i64 e.xIdx.length))),(15, .d (.v (.int .i64 i))),(25, .d (.sl (c6 x.bO))),(26, .d (.v (.int .i64 x.bO.length))),(27, .d (.v (.int .i64 j.1)))],j.2.2⟩)
      (λj=>x.bO.drop j.1=j.2.1/\vw h j.2.2/\mU Tryz.prog k ((j.2.1++rest.flatMap uA).map cE) (λb h2=>C b h2/\vw h h2) j.2.2) (λj=>j.2.1.length) (0,x.bO,h2) (apU _) ?_ ?_ ⟨rfl,⟨q1,q2⟩,p3⟩ ?_
    ·rw[<-q1];exact DU _ (by rw[q1];exact q2) (by
       show(((AV.cY k).bw h2.length).aQ h2.length&&(true&&(true&&(true&&(true&&(true&&(true&&true)))))))=true;rw[q1,MG hk];rfl)
    ·rw[<-q1];exact EX _ (by rw[q1];exact q2)
    rintro⟨j,r2,hb⟩ ⟨mR,⟨b1,b2⟩,xM⟩;simp only at mR b1 b2 xM ⊢
    repeat refine bW ?_
    refine fP ?_;refine cx rfl ?_;refine c9 (x:= .d (.v (.bool (decide ((j:Int)<(x.bO.length:Int)))))) (by kernel_rfl) rfl rfl ?_;refine dL ?_
    repeat refine bW ?_
    cases r2 with
    |nil=>
     rw[bj mR];refine rC (by kernel_rfl) ?_;refine wJ (wH (wH (CA rfl ?_)));refine jK ?_;refine dL ?_;rw[List.nil_append]at xM;refine fP ?_;refine cx rfl ?_;refine c9 (x:= .d (.v (.int .i64 ((i+1:Nat):Int)))) (by
       show some ((.d (.v (.int .i64 (bl ((i:Int)+1)))):AV),HD.same)=_;have:=bE hd rfl pL;unfold ar at this;rw[this]) rfl rfl ?_
     refine cx rfl ?_;refine c9 (x:= .d (.v (.int .i64 ((i+1:Nat):Int)))) (by kernel_rfl) rfl rfl ?_;refine dL ?_;refine⟨?_,(i+1,rest,hb),?_,⟨tW hd,⟨b1,b2⟩,xM⟩,aqv _⟩
     ·rw[<-b1];exact aaz _ (by rw[b1];exact b2) (by
        show(((AV.cY k).bw hb.length).aQ hb.length&&(true&&(true&&(true&&true))))=true;rw[b1,MG hk];rfl)
     ·rw[<-b1];exact YZ _ (by rw[b1];exact b2)
    |cons y r2=>
     rw[bk mR];refine rG (by kernel_rfl) ?_;refine jn ?_;refine dL ?_
     repeat refine bW ?_
     refine ky ?_
     repeat refine bW ?_
     refine fP ?_;refine cx rfl ?_;rw[<-ap4 hb];refine c9 (SQ (q:=j) (e:=52) (k:=2) rfl rfl (by kernel_rfl) (k9 (aW mR)) rfl) rfl rfl ?_;refine cx rfl ?_;refine c9 (x:=cE y) (by kernel_rfl) rfl rfl ?_;refine cx rfl ?_;refine Eo (Ng (l:=[]) (by kernel_rfl)) rfl rfl JK ?_;refine cx rfl ?_;refine Rp (NS (i:=0) (off:=0) (k:=2) (l:=[_]) (v:=cE y) (bP:=(cE y).cells) (by kernel_rfl) rfl (by kernel_rfl) rfl (by kernel_rfl) (by kernel_rfl)) rfl Oa ?_;refine dL ?_
     repeat refine bW ?_
     refine fP ?_;refine cx rfl ?_;refine c9 (x:= .cY k) (by kernel_rfl) rfl rfl ?_;refine cx rfl ?_;refine c9 (Aw (i:=0) (off:=0) (l:=[.cells (cE y).cells]) (x:=cE y) (by kernel_rfl) rfl (by kernel_rfl)) rfl rfl ?_;refine cx rfl ?_;rw[List.cons_append,ap8]at xM;have NU:=Q1 xM [.cells (cE y).cells] (by rw[b1];exact b2) (by kernel_rfl) (λb h' hh=>hh.1);refine Hr (k:=k) (x:=cE y) rfl rfl (by kernel_rfl) (by kernel_rfl) rfl rfl ?_;refine NU.mono λb h' hh=> ?_;obtain⟨h3,⟨⟨r1,r3⟩,r4⟩,rfl⟩:=hh;refine cx rfl ?_;refine c9 (x:= .d (.v (.bool (!b)))) (by kernel_rfl) rfl rfl ?_;refine dL ?_;have u1:h3.length=h.length:=by rw[r1,b1]
     have u2:h3.all (an.aQ h.length)=true:=by rw[b1]at r3;exact r3
     cases b with
     |false=>
      refine rG (by kernel_rfl) ?_;refine gN ?_
      repeat (first|(with_reducible refine jN ?_)|(with_reducible refine lE ?_))
      exact Fy u1 u2 ⟨rfl,false,r4.1⟩
     |true=>
      refine rC (by kernel_rfl) ?_;refine jn ?_;refine jK ?_;refine dL ?_;simp only[cond_true]at r4;refine fP ?_;refine cx rfl ?_;refine c9 (x:= .d (.v (.int .i64 ((j+1:Nat):Int)))) (by
       show some ((.d (.v (.int .i64 (bl ((j:Int)+1)))):AV),HD.same)=_;have:=bE mR rfl alI;unfold ar at this;rw[this]) rfl rfl ?_
      refine cx rfl ?_;refine c9 (x:= .d (.v (.int .i64 ((j+1:Nat):Int)))) (by kernel_rfl) rfl rfl ?_;refine dL ?_;refine⟨?_,(j+1,r2,h3),?_,⟨tW mR,⟨u1,u2⟩,r4⟩,aqv _⟩
      ·rw[<-u1];exact DU _ (by rw[u1];exact u2) (by
         show(((AV.cY k).bw h3.length).aQ h3.length&&(true&&(true&&(true&&(true&&(true&&(true&&true)))))))=true;rw[u1,MG hk];rfl)
      ·rw[<-u1];exact EX _ (by rw[u1];exact u2)
theorem aiY(v1:au):ij Tryz.prog 168 [(aN v1)] (·= .fn 197 [.bJ [e7 v1] 0 0]):=by
 refine YA (r:= .fn 197 [(.ptr 0 0)]) (h:=[.cells (aN v1).cells]) ?_ (by kernel_rfl) rfl;refine Ab 1 Tryz.func168 rfl (by kernel_rfl) (apR rfl) ?_;refine zw (s':=⟨4,[(0,(aN v1))],[]⟩) (by kernel_rfl) ?_;refine bW ?_;refine rg [] [(1,(.ptr 0 0))] [.cells (aN v1).cells] (by kernel_rfl) ?_;refine bW ?_;refine rg [] [(2,(.fn 197 [(.ptr 0 0)]))] [.cells (aN v1).cells] (by kernel_rfl) ?_;refine gN ?_;exact Fa (by kernel_rfl)
theorem ahL(v1:au):ij Tryz.prog 204 [(aN v1)] (·= .fn 241 [.bJ [e7 v1] 0 0]):=by
 refine YA (r:= .fn 241 [(.ptr 0 0)]) (h:=[.cells (aN v1).cells]) ?_ (by kernel_rfl) rfl;refine Ab 1 Tryz.func204 rfl (by kernel_rfl) (apR rfl) ?_;refine zw (s':=⟨4,[(0,(aN v1))],[]⟩) (by kernel_rfl) ?_;refine bW ?_;refine rg [] [(1,(.ptr 0 0))] [.cells (aN v1).cells] (by kernel_rfl) ?_;refine bW ?_;refine rg [] [(2,(.fn 241 [(.ptr 0 0)]))] [.cells (aN v1).cells] (by kernel_rfl) ?_;refine gN ?_;exact Fa (by kernel_rfl)
end Go.Proofs.YtmkmibahjanejaaGreatDoor
namespace Go.Proofs.YtmkmibahjanejaaGreatDoor
open Go.RowKit Go.Shelf
set_option maxRecDepth 100000
def air:Ren where
 f:=fun
  |157=>195
  |229=>228
  |199=>229
  |261=>254
  |311=>269
  |312=>270
  |n=>n
 t:=fun
  |9=>9
  |31=>22
  |3=>3
  |5=>5
  |4=>4
  |119=>252
  |0=>0
  |40=>175
  |152=>264
  |21=>21
  |154=>266
  |51=>204
  |141=>268
  |196=>283
  |193=>280
  |198=>286
  |49=>284
  |194=>281
  |201=>289
  |226=>293
  |46=>165
  |227=>294
  |n=>n
 g:=fun
  |0=>1
  |6=>4
  |n=>n
def oG:aqx aqy:=[bs [115,105,122,101],bs [119,104,101,114,101],bs [105,110],bs [100,101,102],bs [111,117,116],bs [115,117,109],bs [112,114,111,100],bs [109,105,110],bs [109,97,120],bs [115,99,97,110],bs [111,118,101,114],bs [105,102],bs [99,97,115,116],bs [102,114,97,99],bs [105,110,116],bs [102,105,120],bs [99,101,105,108],bs [102,108,111,111,114],bs [122,101,114,111],bs [101,118,101,110],bs [115,97,116],bs [119,114,97,112]]
theorem agM:Lays.n157 Tryz.prog air:=by
 constructor<;>first|kernel_rfl|(intro w;rfl)
def Fx:aqy:=⟨#[115,105,122,101,32,119,104,101,114,101,32,105,110,32,100,101,102,32,111,117,116,32,115,117,109,32,112,114,111,100,32,109,105,110,32,109,97,120,32,115,99,97,110,32,111,118,101,114,32,105,102,32,99,97,115,116,32,102,114,97,99,32,105,110,116,32,102,105,120,32,99,101,105,108,32,102,108,111,111,114,32,122,101,114,111,32,101,118,101,110,32,115,97,116,32,119,114,97,112]⟩
theorem akA(w:aqC)(hT:∀c:Nat,c<256->w.cell? ⟨1,c,none⟩=some (.int .u8 (if Lib.isSp (UInt8.ofNat c)then 1 else 0))):
 Calls Tryz.prog 195 #[.string Fx] w λe w'=>e= .returned (.slice (some ⟨w.heap.size,0,none⟩) 22 22)/\w'=w.alloc (.cells (oG.map Value.string).toArray 9):=by
 have ha:(Fx.data.toList.all λb=>decide (b.toNat<128))=true:=by kernel_rfl
 have h:=Any.strings_Fields_core agM (by kernel_rfl) Fx w (of_decide_eq_true (by kernel_rfl)) (λj b hb=>of_decide_eq_true (ap9.1 ha b (apW hb))) hT;have e1:(Lib.fields Fx.data.toList).length=22:=by kernel_rfl
 have e2:((Lib.fields Fx.data.toList).map λl=>Value.string ⟨l.toArray⟩)=oG.map Value.string:=by kernel_rfl
 rw[e1,e2]at h;exact h
theorem ajk(w:aqC)(hT:∀c:Nat,c<256->w.cell? ⟨1,c,none⟩=some (.int .u8 (if Lib.isSp (UInt8.ofNat c)then 1 else 0))):
 Calls Tryz.prog 165 #[] w λe w'=>e= .returned (.slice (some ⟨w.heap.size,0,none⟩) 22 22)/\w'=w.alloc (.cells (oG.map Value.string).toArray 9):=by
 go_enter Tryz.func165,Tryz.ntmps165
 go_wp2_with (go_at_call 195;refine(akA _ hT).mono ?_;rintro e w' ⟨rfl,rfl⟩)
 go_ret
 exact⟨rfl,rfl⟩
theorem aoo:∀c:Nat,c<256->(qm FL)[c]?=some (.int .u8 (if Lib.isSp (UInt8.ofNat c)then 1 else 0)):=λc hc=>by
 rw[show qm FL=(List.range 256).map λc=>Value.int .u8 (if Lib.isSp (UInt8.ofNat c)then 1 else 0) by kernel_rfl,apQ,List.getElem?_range hc];rfl
theorem amD:ij Tryz.prog 165 [] (·= .d (.sl (b6 oG))):=by
 refine⟨by kernel_rfl,λG w vs hi hl hr=> ?_⟩;obtain rfl:vs= #[]:=Array.size_eq_zero_iff.1 hl;refine(ajk w λc hc=> ?_).mono λe w' hp=> ?_
 ·exact(hi.gl.1 1 (qm FL) apP c _ (aoo c hc)).2
 ·obtain⟨rfl,rfl⟩:=hp;obtain⟨i1,i2⟩:=WM hi (.cells (oG.map Value.string).toArray 9) 22;have El:Rd (G.vo w.heap.size 22).S (w.alloc (.cells (oG.map Value.string).toArray 9)) 1 (b6 oG) (oG.map Value.string):=
   ⟨rfl,λx hx=>(by obtain⟨y,_,rfl⟩:=List.mem_map.1 hx;rfl),λu hu=>(by obtain⟨y,_,rfl⟩:=List.mem_map.1 hu;rfl),λi j x d hx hd=>by
    rw[q9,apQ]at hx;cases hk:oG[i]? with
    |none=>rw[hk]at hx;cases hx
    |some y=>
     rw[hk]at hx;cases hx;cases j with
     |zero=>cases hd;exact⟨.string y,by rw[Nat.mul_one,Nat.add_zero,apQ,hk];rfl, .v _⟩
     |succ j=>cases hd⟩
  have hp:=El.GU w.heap.size 22 (by decide) (by decide) (λo ho=> .inr ⟨rfl,ho⟩) (λo u hu=>by
   rw[World.cell?_alloc_new,List.getElem?_toArray];exact hu)
  exact⟨_,_,_,_,rfl,i1,apU _,i2, .d hp,rfl,rfl⟩
end Go.Proofs.YtmkmibahjanejaaGreatDoor
namespace Go.Proofs.YtmkmibahjanejaaGreatDoor
open Go.RowKit
set_option maxRecDepth 1000000
end Go.Proofs.YtmkmibahjanejaaGreatDoor
