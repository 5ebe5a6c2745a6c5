/-
  Part 4 of the proof: AbsDat, IterE, KwS, AbsKern.
-/
import Derived.Test.YtdchibpnjpnkoaaGreatDoorPp3
import Derived.Test.YtdchibpnjpnkoaaGreatDoorProg
import Derived.WalkKit
import Derived.Shelf.Strings.Fields
import Derived.KernelRfl
namespace Go.Proofs.YtdchibpnjpnkoaaGreatDoor
open Go.RowKit
set_option linter.unusedVariables false
def dp(x:aso):asn D:=[.v (.string x)]
def cb(l:asn aso):asn (asn D):=l.map dp
theorem oU(l:asn aso):cb l=l.map dp:=rfl
theorem gC{l:asn aso}:(cb l).length=l.length:=by rw[oU,arD]
theorem na{l:asn aso}{k:Nat}{x:aso}(h:l[k]?=some x):(cb l)[k]?=some (dp x):=by rw[oU,arF,h];rfl
theorem an8{a b:asn aso}:cb a++cb b=cb (a++b):=by rw[oU,oU,oU,List.map_append]
theorem CA{l:asn aso}:∀c∈cb l,c.length=1:=by
 intro c hc;rw[oU]at hc;obtain⟨x,_,rfl⟩:=List.mem_map.1 hc;rfl
theorem RF{l:asn aso}{k n:Nat}:((cb l).take n).drop k=cb ((l.take n).drop k):=by rw[oU,oU,List.map_drop,List.map_take]
def TV(x:Int):asn D:=[.v (.int .i64 x)]
def ng(l:asn Int):asn (asn D):=l.map TV
theorem CQ(l:asn Int):ng l=l.map TV:=rfl
theorem Ea{l:asn Int}:(ng l).length=l.length:=by rw[CQ,arD]
theorem Py{l:asn Int}{k:Nat}{x:Int}(h:l[k]?=some x):(ng l)[k]?=some (TV x):=by rw[CQ,arF,h];rfl
theorem anp{a b:asn Int}:ng a++ng b=ng (a++b):=by rw[CQ,CQ,CQ,List.map_append]
theorem afZ{l:asn Int}:∀c∈ng l,c.length=1:=by
 intro c hc;rw[CQ]at hc;obtain⟨x,_,rfl⟩:=List.mem_map.1 hc;rfl
structure bB where
 aC:ByteArray
 dE:Int64
def zw(x:bB):asn D:=[.v (.string x.aC), .v (.int .i64 x.dE.toInt)]
def NI(x:bB):AV:= .agg [.d (.v (.string x.aC)), .d (.v (.int .i64 x.dE.toInt))]
structure aE where
 aO:Int
 bo:Int
 bE:Int
 bN:Int
 bM:Int
def Je(x:aE):asn D:=[.v (.int .i64 x.aO), .v (.int .i64 x.bo), .v (.int .i64 x.bE), .v (.int .i64 x.bN), .v (.int .i64 x.bM)]
def bY(x:aE):AV:= .agg [.d (.v (.int .i64 x.aO)), .d (.v (.int .i64 x.bo)), .d (.v (.int .i64 x.bE)), .d (.v (.int .i64 x.bN)), .d (.v (.int .i64 x.bM))]
structure aG where
 xN:Int64
 xD:Int64
def L3(x:aG):asn D:=[.v (.int .i64 x.xN.toInt), .v (.int .i64 x.xD.toInt)]
def a8(x:aG):AV:= .agg [.d (.v (.int .i64 x.xN.toInt)), .d (.v (.int .i64 x.xD.toInt))]
structure gS where
 yT:aE
 dQ:Bool
def mG(x:gS):AV:= .agg [.d (.v (.int .i64 x.yT.aO)), .d (.v (.int .i64 x.yT.bo)), .d (.v (.int .i64 x.yT.bE)), .d (.v (.int .i64 x.yT.bN)), .d (.v (.int .i64 x.yT.bM)), .d (.v (.bool x.dQ))]
structure iN where
 xT:aE
 zt:Bool
def iF(x:iN):AV:= .agg [.d (.v (.int .i64 x.xT.aO)), .d (.v (.int .i64 x.xT.bo)), .d (.v (.int .i64 x.xT.bE)), .d (.v (.int .i64 x.xT.bN)), .d (.v (.int .i64 x.xT.bM)), .d (.v (.bool x.zt))]
def cz(l:asn bB):asn (asn D):=l.map zw
theorem tz(l:asn bB):cz l=l.map zw:=rfl
theorem dL{l:asn bB}:(cz l).length=l.length:=by rw[tz,arD]
theorem ga{l:asn bB}{k:Nat}{x:bB}(h:l[k]?=some x):(cz l)[k]?=some (zw x):=by rw[tz,arF,h];rfl
theorem am6{a b:asn bB}:cz a++cz b=cz (a++b):=by rw[tz,tz,tz,List.map_append]
theorem Cr{l:asn bB}:∀c∈cz l,c.length=2:=by
 intro c hc;rw[tz]at hc;obtain⟨x,_,rfl⟩:=List.mem_map.1 hc;rfl
theorem IG{l:asn bB}{k:Nat}:(cz l).drop k=cz (l.drop k):=by rw[tz,tz,List.map_drop]
def nE(l:asn aE):asn (asn D):=l.map Je
theorem Bf(l:asn aE):nE l=l.map Je:=rfl
theorem anz{l:asn aE}:(nE l).length=l.length:=by rw[Bf,arD]
theorem lF{l:asn aE}{k:Nat}{x:aE}(h:l[k]?=some x):(nE l)[k]?=some (Je x):=by rw[Bf,arF,h];rfl
theorem alV{a b:asn aE}:nE a++nE b=nE (a++b):=by rw[Bf,Bf,Bf,List.map_append]
theorem ae9{l:asn aE}:∀c∈nE l,c.length=5:=by
 intro c hc;rw[Bf]at hc;obtain⟨x,_,rfl⟩:=List.mem_map.1 hc;rfl
def rQ(l:asn aG):asn (asn D):=l.map L3
theorem Au(l:asn aG):rQ l=l.map L3:=rfl
theorem VZ{l:asn aG}:(rQ l).length=l.length:=by rw[Au,arD]
theorem ahg{l:asn aG}{k:Nat}{x:aG}(h:l[k]?=some x):(rQ l)[k]?=some (L3 x):=by rw[Au,arF,h];rfl
theorem aeH{a b:asn aG}:rQ a++rQ b=rQ (a++b):=by rw[Au,Au,Au,List.map_append]
theorem ai0{l:asn aG}:∀c∈rQ l,c.length=2:=by
 intro c hc;rw[Au]at hc;obtain⟨x,_,rfl⟩:=List.mem_map.1 hc;rfl
structure aH where
 xK:Int64
 xL:List bB
def kQ(x:aH):asn D:=[.v (.int .i64 x.xK.toInt), .sl (cz x.xL)]
def bZ(x:aH):AV:= .agg [.d (.v (.int .i64 x.xK.toInt)), .d (.sl (cz x.xL))]
structure di where
 aM:aH
 nP:Bool
def G4(x:di):asn D:=[.v (.int .i64 x.aM.xK.toInt), .sl (cz x.aM.xL), .v (.bool x.nP)]
def pM(x:di):AV:= .agg [.d (.v (.int .i64 x.aM.xK.toInt)), .d (.sl (cz x.aM.xL)), .d (.v (.bool x.nP))]
structure cT where
 aC:ByteArray
 eZ:aH
def Fs(x:cT):asn D:=[.v (.string x.aC), .v (.int .i64 x.eZ.xK.toInt), .sl (cz x.eZ.xL)]
def Sa(x:cT):AV:= .agg [.d (.v (.string x.aC)), .d (.v (.int .i64 x.eZ.xK.toInt)), .d (.sl (cz x.eZ.xL))]
def fa(l:asn di):asn (asn D):=l.map G4
theorem yD(l:asn di):fa l=l.map G4:=rfl
theorem mE{l:asn di}:(fa l).length=l.length:=by rw[yD,arD]
theorem BD{l:asn di}{k:Nat}{x:di}(h:l[k]?=some x):(fa l)[k]?=some (G4 x):=by rw[yD,arF,h];rfl
theorem akR{a b:asn di}:fa a++fa b=fa (a++b):=by rw[yD,yD,yD,List.map_append]
theorem alC{l:asn di}:∀c∈fa l,c.length=3:=by
 intro c hc;rw[yD]at hc;obtain⟨x,_,rfl⟩:=List.mem_map.1 hc;rfl
def dk(l:asn aH):asn (asn D):=l.map kQ
theorem tJ(l:asn aH):dk l=l.map kQ:=rfl
theorem dR{l:asn aH}:(dk l).length=l.length:=by rw[tJ,arD]
theorem kT{l:asn aH}{k:Nat}{x:aH}(h:l[k]?=some x):(dk l)[k]?=some (kQ x):=by rw[tJ,arF,h];rfl
theorem age{a b:asn aH}:dk a++dk b=dk (a++b):=by rw[tJ,tJ,tJ,List.map_append]
theorem Wk{l:asn aH}:∀c∈dk l,c.length=2:=by
 intro c hc;rw[tJ]at hc;obtain⟨x,_,rfl⟩:=List.mem_map.1 hc;rfl
def eV(l:asn cT):asn (asn D):=l.map Fs
theorem y6(l:asn cT):eV l=l.map Fs:=rfl
theorem fE{l:asn cT}:(eV l).length=l.length:=by rw[y6,arD]
theorem mK{l:asn cT}{k:Nat}{x:cT}(h:l[k]?=some x):(eV l)[k]?=some (Fs x):=by rw[y6,arF,h];rfl
theorem ahE{a b:asn cT}:eV a++eV b=eV (a++b):=by rw[y6,y6,y6,List.map_append]
theorem ajz{l:asn cT}:∀c∈eV l,c.length=3:=by
 intro c hc;rw[y6]at hc;obtain⟨x,_,rfl⟩:=List.mem_map.1 hc;rfl
def QP(x:asn cT):asn D:=[.sl (eV x)]
def oP(l:asn (asn cT)):asn (asn D):=l.map QP
theorem BK(l:asn (asn cT)):oP l=l.map QP:=rfl
theorem P5{l:asn (asn cT)}:(oP l).length=l.length:=by rw[BK,arD]
theorem ZZ{l:asn (asn cT)}{k:Nat}{x:(asn cT)}(h:l[k]?=some x):(oP l)[k]?=some (QP x):=by rw[BK,arF,h];rfl
theorem amH{a b:asn (asn cT)}:oP a++oP b=oP (a++b):=by rw[BK,BK,BK,List.map_append]
theorem amk{l:asn (asn cT)}:∀c∈oP l,c.length=1:=by
 intro c hc;rw[BK]at hc;obtain⟨x,_,rfl⟩:=List.mem_map.1 hc;rfl
structure dh where
 aC:ByteArray
 ay:aE
 bI:List aH
def E2(x:dh):asn D:=[.v (.string x.aC), .v (.int .i64 x.ay.aO), .v (.int .i64 x.ay.bo), .v (.int .i64 x.ay.bE), .v (.int .i64 x.ay.bN), .v (.int .i64 x.ay.bM), .sl (dk x.bI)]
def tp(x:dh):AV:= .agg [.d (.v (.string x.aC)), .d (.v (.int .i64 x.ay.aO)), .d (.v (.int .i64 x.ay.bo)), .d (.v (.int .i64 x.ay.bE)), .d (.v (.int .i64 x.ay.bN)), .d (.v (.int .i64 x.ay.bM)), .d (.sl (dk x.bI))]
structure aZ where
 aM:aH
 bS:ByteArray
 bH:List aH
def fZ(x:aZ):asn D:=[.v (.int .i64 x.aM.xK.toInt), .sl (cz x.aM.xL), .v (.string x.bS), .sl (dk x.bH)]
def aIndex(x:aZ):AV:= .agg [.d (.v (.int .i64 x.aM.xK.toInt)), .d (.sl (cz x.aM.xL)), .d (.v (.string x.bS)), .d (.sl (dk x.bH))]
def fY(l:asn dh):asn (asn D):=l.map E2
theorem yq(l:asn dh):fY l=l.map E2:=rfl
theorem kN{l:asn dh}:(fY l).length=l.length:=by rw[yq,arD]
theorem lT{l:asn dh}{k:Nat}{x:dh}(h:l[k]?=some x):(fY l)[k]?=some (E2 x):=by rw[yq,arF,h];rfl
theorem aoq{a b:asn dh}:fY a++fY b=fY (a++b):=by rw[yq,yq,yq,List.map_append]
theorem ae4{l:asn dh}:∀c∈fY l,c.length=7:=by
 intro c hc;rw[yq]at hc;obtain⟨x,_,rfl⟩:=List.mem_map.1 hc;rfl
def cU(l:asn aZ):asn (asn D):=l.map fZ
theorem sb(l:asn aZ):cU l=l.map fZ:=rfl
theorem eD{l:asn aZ}:(cU l).length=l.length:=by rw[sb,arD]
theorem gX{l:asn aZ}{k:Nat}{x:aZ}(h:l[k]?=some x):(cU l)[k]?=some (fZ x):=by rw[sb,arF,h];rfl
theorem ad9{a b:asn aZ}:cU a++cU b=cU (a++b):=by rw[sb,sb,sb,List.map_append]
theorem Vc{l:asn aZ}:∀c∈cU l,c.length=4:=by
 intro c hc;rw[sb]at hc;obtain⟨x,_,rfl⟩:=List.mem_map.1 hc;rfl
structure an where
 ar:Int
 aC:ByteArray
 bD:aG
 ay:aE
 aM:aH
 xIdx:List aZ
 ax:List an
mutual
def O0:an->asn D
 |⟨ar,aC,bD,ay,aM,xIdx,ax⟩=>[.v (.int .i64 ar), .v (.string aC), .v (.int .i64 bD.xN.toInt), .v (.int .i64 bD.xD.toInt), .v (.int .i64 ay.aO), .v (.int .i64 ay.bo), .v (.int .i64 ay.bE), .v (.int .i64 ay.bN), .v (.int .i64 ay.bM), .v (.int .i64 aM.xK.toInt), .sl (cz aM.xL), .sl (cU xIdx), .sl (dn ax)]
def dn:asn an->asn (asn D)
 |[]=>[]
 |x::l=>O0 x::dn l
end
def dd(x:an):asn D:=[.v (.int .i64 x.ar), .v (.string x.aC), .v (.int .i64 x.bD.xN.toInt), .v (.int .i64 x.bD.xD.toInt), .v (.int .i64 x.ay.aO), .v (.int .i64 x.ay.bo), .v (.int .i64 x.ay.bE), .v (.int .i64 x.ay.bN), .v (.int .i64 x.ay.bM), .v (.int .i64 x.aM.xK.toInt), .sl (cz x.aM.xL), .sl (cU x.xIdx), .sl (dn x.ax)]
theorem ahm(x:an):O0 x=dd x:=by cases x;simp only[O0];rfl
theorem gh:∀l:asn an,dn l=l.map dd
 |[]=>by simp [dn]
 |x::l=>by simp [dn,ahm,gh l]
theorem dZ{l:asn an}:(dn l).length=l.length:=by rw[gh,arD]
theorem bx{l:asn an}{k:Nat}{x:an}(h:l[k]?=some x):(dn l)[k]?=some (dd x):=by rw[gh,arF,h];rfl
theorem aeA{a b:asn an}:dn a++dn b=dn (a++b):=by rw[gh,gh,gh,List.map_append]
theorem Jc{l:asn an}:∀c∈dn l,c.length=13:=by
 intro c hc;rw[gh]at hc;obtain⟨x,_,rfl⟩:=List.mem_map.1 hc;rfl
def aA(x:an):AV:= .agg [.d (.v (.int .i64 x.ar)), .d (.v (.string x.aC)), .d (.v (.int .i64 x.bD.xN.toInt)), .d (.v (.int .i64 x.bD.xD.toInt)), .d (.v (.int .i64 x.ay.aO)), .d (.v (.int .i64 x.ay.bo)), .d (.v (.int .i64 x.ay.bE)), .d (.v (.int .i64 x.ay.bN)), .d (.v (.int .i64 x.ay.bM)), .d (.v (.int .i64 x.aM.xK.toInt)), .d (.sl (cz x.aM.xL)), .d (.sl (cU x.xIdx)), .d (.sl (dn x.ax))]
structure bR where
 aC:ByteArray
 ay:aE
 bI:List cT
 cl:List cT
 dy:Int
 cr:an
def gq(x:bR):asn D:=[.v (.string x.aC), .v (.int .i64 x.ay.aO), .v (.int .i64 x.ay.bo), .v (.int .i64 x.ay.bE), .v (.int .i64 x.ay.bN), .v (.int .i64 x.ay.bM), .sl (eV x.bI), .sl (eV x.cl), .v (.int .i64 x.dy), .v (.int .i64 x.cr.ar), .v (.string x.cr.aC), .v (.int .i64 x.cr.bD.xN.toInt), .v (.int .i64 x.cr.bD.xD.toInt), .v (.int .i64 x.cr.ay.aO), .v (.int .i64 x.cr.ay.bo), .v (.int .i64 x.cr.ay.bE), .v (.int .i64 x.cr.ay.bN), .v (.int .i64 x.cr.ay.bM), .v (.int .i64 x.cr.aM.xK.toInt), .sl (cz x.cr.aM.xL), .sl (cU x.cr.xIdx), .sl (dn x.cr.ax)]
def gN(x:bR):AV:= .agg [.d (.v (.string x.aC)), .d (.v (.int .i64 x.ay.aO)), .d (.v (.int .i64 x.ay.bo)), .d (.v (.int .i64 x.ay.bE)), .d (.v (.int .i64 x.ay.bN)), .d (.v (.int .i64 x.ay.bM)), .d (.sl (eV x.bI)), .d (.sl (eV x.cl)), .d (.v (.int .i64 x.dy)), .d (.v (.int .i64 x.cr.ar)), .d (.v (.string x.cr.aC)), .d (.v (.int .i64 x.cr.bD.xN.toInt)), .d (.v (.int .i64 x.cr.bD.xD.toInt)), .d (.v (.int .i64 x.cr.ay.aO)), .d (.v (.int .i64 x.cr.ay.bo)), .d (.v (.int .i64 x.cr.ay.bE)), .d (.v (.int .i64 x.cr.ay.bN)), .d (.v (.int .i64 x.cr.ay.bM)), .d (.v (.int .i64 x.cr.aM.xK.toInt)), .d (.sl (cz x.cr.aM.xL)), .d (.sl (cU x.cr.xIdx)), .d (.sl (dn x.cr.ax))]
structure fm where
 yE:an
 kZ:gS
def dm(x:fm):AV:= .agg [.d (.v (.int .i64 x.yE.ar)), .d (.v (.string x.yE.aC)), .d (.v (.int .i64 x.yE.bD.xN.toInt)), .d (.v (.int .i64 x.yE.bD.xD.toInt)), .d (.v (.int .i64 x.yE.ay.aO)), .d (.v (.int .i64 x.yE.ay.bo)), .d (.v (.int .i64 x.yE.ay.bE)), .d (.v (.int .i64 x.yE.ay.bN)), .d (.v (.int .i64 x.yE.ay.bM)), .d (.v (.int .i64 x.yE.aM.xK.toInt)), .d (.sl (cz x.yE.aM.xL)), .d (.sl (cU x.yE.xIdx)), .d (.sl (dn x.yE.ax)), .d (.v (.int .i64 x.kZ.yT.aO)), .d (.v (.int .i64 x.kZ.yT.bo)), .d (.v (.int .i64 x.kZ.yT.bE)), .d (.v (.int .i64 x.kZ.yT.bN)), .d (.v (.int .i64 x.kZ.yT.bM)), .d (.v (.bool x.kZ.dQ))]
def fO(l:asn bR):asn (asn D):=l.map gq
theorem o0(l:asn bR):fO l=l.map gq:=rfl
theorem ji{l:asn bR}:(fO l).length=l.length:=by rw[o0,arD]
theorem lf{l:asn bR}{k:Nat}{x:bR}(h:l[k]?=some x):(fO l)[k]?=some (gq x):=by rw[o0,arF,h];rfl
theorem ajJ{a b:asn bR}:fO a++fO b=fO (a++b):=by rw[o0,o0,o0,List.map_append]
theorem I3{l:asn bR}:∀c∈fO l,c.length=22:=by
 intro c hc;rw[o0]at hc;obtain⟨x,_,rfl⟩:=List.mem_map.1 hc;rfl
theorem Y0{l:asn bR}{k n:Nat}:((fO l).take n).drop k=fO ((l.take n).drop k):=by rw[o0,o0,List.map_drop,List.map_take]
structure bp where
 bO:List ByteArray
 dj:List di
 bA:List dh
 aU:List bR
 dz:List ByteArray
def anS(x:bp):asn D:=[.sl (cb x.bO), .sl (fa x.dj), .sl (fY x.bA), .sl (fO x.aU), .sl (cb x.dz)]
def dH(x:bp):AV:= .agg [.d (.sl (cb x.bO)), .d (.sl (fa x.dj)), .d (.sl (fY x.bA)), .d (.sl (fO x.aU)), .d (.sl (cb x.dz))]
def bq(s:aso):AV:= .d (.v (.string s))
def aw(n:Int):AV:= .d (.v (.int .i64 n))
def aW(n:Int64):AV:= .d (.v (.int .i64 n.toInt))
def az(b:Bool):AV:= .d (.v (.bool b))
abbrev aI(n:Int):Int:=IntKind.i64.wrap n
theorem Cs(a:Int):IntKind.i64.wrap a=a.bmod (2^64):=by
 rw[IntKind.wrap_i64,Int.bmod_def];omega
theorem fM(a:Int):aw (aI a)=aW (Int64.ofInt a):=by
 unfold aw aW aI;rw[Cs,Int64.toInt_ofInt]
theorem mY(a b:Int64):aw (aI (a.toInt+b.toInt))=aW (a+b):=by
 unfold aw aW aI;rw[Cs,Int64.toInt_add]
theorem jX(a b:Int64):aw (aI (a.toInt-b.toInt))=aW (a-b):=by
 unfold aw aW aI;rw[Cs,Int64.toInt_sub]
theorem eY(a b:Int64):aw (aI (a.toInt*b.toInt))=aW (a*b):=by
 unfold aw aW aI;rw[Cs,Int64.toInt_mul]
theorem lX(a:Int64):aw (aI (0-a.toInt))=aW (-a):=by
 unfold aw aW aI;rw[Cs,Int64.toInt_neg,Int.zero_sub]
theorem XQ{a:Int}(h:aI a=a):aw a=aW (Int64.ofInt a):=by
 rw[<-fM,h]
theorem ajb(a:Int)(m:Nat)(h1: -9223372036854775808<=a)(h2:a<9223372036854775808): -9223372036854775808<=a.fdiv (2^m)/\a.fdiv (2^m)<9223372036854775808:=by
 have hp:(0:Int)<2^m:=Int.pow_pos (by decide);rw[Int.fdiv_eq_ediv_of_nonneg _ (Int.le_of_lt hp)];generalize (2:Int)^m=p at*;by_cases h:0<=a
 ·have h3:=Int.ediv_nonneg h (Int.le_of_lt hp);have h4:=Int.ediv_le_self p h;omega
 ·have h3:a / p<0:=Int.ediv_neg_of_neg_of_pos (by omega) hp;have h4:a<=a / p:=by
   refine(Int.le_ediv_iff_mul_le hp).2 ?_;have:=Int.mul_le_mul_of_nonpos_left (a:=a) (b:=p) (c:=1) (by omega) (by omega);omega
  omega
theorem afC(a:Int64)(m:Nat):aw (a.toInt.fdiv (2^m))=aW (Int64.ofInt (a.toInt.fdiv (2^m))):=by
 refine XQ ?_;have h:=ajb a.toInt m (by have:=a.le_toInt;simpa using this) (by have:=a.toInt_lt;simpa using this);unfold aI;rw[IntKind.wrap_i64];omega
theorem JM(a:Int64)(b:Int):aw (a.toInt.tmod b)=aW (Int64.ofInt (a.toInt.tmod b)):=by
 refine XQ ?_;unfold aI;rw[IntKind.wrap_i64];have h1:=a.le_toInt;have h2:=a.toInt_lt;have h3:=Int.natAbs_tmod a.toInt b;have h4:(a.toInt.tmod b).natAbs<=a.toInt.natAbs:=by rw[h3];exact Nat.mod_le _ _
 have h7: -9223372036854775808<=a.toInt/\a.toInt<=9223372036854775807:=by omega
 clear h1 h2 h3;by_cases h5:0<=a.toInt
 ·have:=Int.tmod_nonneg b h5;generalize a.toInt.tmod b=x at*;omega
 ·have h6:=Int.tmod_nonneg b (show 0<=-a.toInt by omega);rw[Int.neg_tmod]at h6;generalize a.toInt.tmod b=x at*;omega
theorem ca{α:Type}{l:asn α}{k:Nat}{x:α}{xs:asn α}{n:Nat}(hd:l.drop k=x::xs)(hn:l.length=n)(hl:n<=maxLen):aw (aI ((k:Int)+1))=aw ((k+1:Nat):Int):=by
 have:(l.drop k).length=(x::xs).length:=by rw[hd]
 rw[List.length_drop,arB]at this;have h1:k<maxLen:=by omega
 unfold maxLen at h1;have e:IntKind.i64.wrap ((k:Int)+1)=((k+1:Nat):Int):=by rw[IntKind.wrap_i64];omega
 unfold aw aI;rw[e]
theorem ba{α:Type}{l:asn α}{k:Nat}{x:α}{xs:asn α}(hd:l.drop k=x::xs):l[k]?=some x:=by
 have:(l.drop k)[0]?=some x:=by rw[hd];rfl
 rwa [List.getElem?_drop]at this
theorem l6{α:Type}{l:asn α}{k:Nat}{x:α}{xs:asn α}(hd:l.drop k=x::xs):l.drop (k+1)=xs:=by
 rw[<-List.drop_drop,hd];rfl
theorem bU{α:Type}{l:asn α}{k:Nat}{x:α}{xs:asn α}(hd:l.drop k=x::xs):decide ((k:Int)<(l.length:Int))=true:=by
 have:(l.drop k).length=(x::xs).length:=by rw[hd]
 rw[List.length_drop,arB]at this;exact asf (by omega)
theorem b5{α:Type}{l:asn α}{k:Nat}(hd:l.drop k=[]):decide ((k:Int)<(l.length:Int))=false:=by
 have:=List.drop_eq_nil_iff.1 hd;exact asg (by omega)
theorem nv{n cE:Nat}(h:Nat.ble (n*cE) 140737488355328=true)(hb:1<=cE):n<=maxLen/\n*cE<=140737488355328:=by
 have h:=arG h;refine⟨?_,h⟩;unfold maxLen;have:=Nat.le_mul_of_pos_right n hb;omega
theorem cn:Tryz.prog.follows .mixedOrders=true:=by kernel_rfl
set_option maxRecDepth 100000
set_option maxHeartbeats 0
def qQ(a b:Int64):Int64:=if b.toInt>a.toInt then b else a
def wu(a b:Int64):Int64:=if b.toInt<a.toInt then b else a
theorem Y5(a b:Int64):(if b.toInt>a.toInt then b.toInt else a.toInt)=(qQ a b).toInt:=by unfold qQ;split<;>rfl
theorem ajs(a b:Int64):(if b.toInt<a.toInt then b.toInt else a.toInt)=(wu a b).toInt:=by unfold wu;split<;>rfl
theorem Wx(a b:Int64):AV.d (.v (.int .i64 (if b.toInt>a.toInt then b.toInt else a.toInt)))=aW (qQ a b):=by rw[Y5];rfl
theorem ap0(a b:Int64):AV.d (.v (.int .i64 (if b.toInt<a.toInt then b.toInt else a.toInt)))=aW (wu a b):=by rw[ajs];rfl
mutual
def Rl:an->asn an
 |⟨o,n,v,t,l,i,xs⟩=>⟨o,n,v,t,l,i,xs⟩::jU xs
def jU:asn an->asn an
 |[]=>[]
 |x::l=>Rl x++jU l
end
def cW(e:an):asn an:=e::jU e.ax
theorem afX(e:an):Rl e=cW e:=by cases e;simp only[Rl];rfl
theorem Ax(x:an)(l:asn an):jU (x::l)=cW x++jU l:=by rw[jU,afX]
theorem QN{P:asq}{k:Nat}:∀(l:asn AV){C:Bool->asn ao->Prop}{h:asn ao},h.all (ao.aQ h.length)=true->mQ P k l C h->mQ P k l (λb h1=>C b h1/\vT h h1) h
 |[],_,_,hl,hs=>⟨hs,rfl,hl⟩
 |x::l,C,h,hl,hs=>YS.mono hs λb h1 ⟨h2,h3⟩=>⟨h2,by
  cases b with
  |true=>exact Wv l (λb h4 ⟨h5,h6,h7⟩=>⟨h5,by rw[h6,h2.1],by rw[h2.1]at h7;exact h7⟩) (QN l (by rw[h2.1];exact h2.2) h3)
  |false=>exact⟨h3,h2⟩⟩
def L5(e:an):Prop:=∀(k:Nat)(h:asn ao)(C:Bool->asn ao->Prop),h.all (ao.aQ h.length)=true->k<h.length->mQ Tryz.prog k ((cW e).map aA) C h->cG Tryz.prog 88 [aA e, .dc k] h λr h1=>∃b,r= .d (.v (.bool b))/\C b h1/\vT h h1
theorem ac8{P:asq}{fn:Func}{n:Nat}{t:asn (Nat×AV)}{H h1 l:asn ao}{K:AV->asn ao->Prop}(k1:h1.length=H.length)(k2:h1.all (ao.aQ H.length)=true)(hr:nr P ⟨n,t,h1++l⟩ fn.results.toList λrs=>((jK rs).bG h1.length).aQ h1.length=true/\K ((jK rs).bG h1.length) h1):rK P fn H.length K ⟨n,t,h1++l⟩:=by
 rw[<-k1]at k2 ⊢;exact ag3 k2 hr
theorem F2{P:asq}{fn:Func}{n:Nat}{t:asn (Nat×AV)}{H h1 l:asn ao}{K:AV->asn ao->Prop}(k1:h1.length=H.length)(k2:h1.all (ao.aQ H.length)=true)(hr:nr P ⟨n,t,h1++l⟩ fn.results.toList λrs=>((jK rs).bG h1.length).aQ h1.length=true/\K ((jK rs).bG h1.length) h1):Mu P fn H.length K .ret ⟨n,t,h1++l⟩:=ac8 k1 k2 hr
theorem ap5(e:an)(xE:∀x∈e.ax,L5 x):L5 e:=by
 intro k h C qe hk hs;refine zZ h.length Tryz.func88 rfl (by kernel_rfl) (arJ _) ?_
 suffices hA:bJ Tryz.prog none h.length _ _ ⟨23,[(0,aA e),(1, .dc k)],h++[]⟩ by rw[arT]at hA;exact hA
 repeat refine bk ?_
 refine fD ?_;refine cw rfl ?_;refine D6 (ao2 (l:=[]) (v:=aA e) rfl (by kernel_rfl)) rfl rfl KE ?_;refine cw rfl ?_;refine cX (x:= .d (.v (.bool false))) (by kernel_rfl) rfl rfl ?_;refine cy ?_
 repeat refine bk ?_
 refine fD ?_;refine cw rfl ?_;refine cX (x:= .dc k) (by kernel_rfl) rfl rfl ?_;refine cw rfl ?_;refine cX (Cc (i:=0) (off:=0) (l:=[]++[.cells (aA e).cells]) (x:=aA e) (by kernel_rfl) rfl (by kernel_rfl)) rfl rfl ?_;refine cw rfl ?_;rw[cW,arX]at hs;have hy:=Rx (QN (aA e::_) qe hs) [.cells (aA e).cells] qe (by kernel_rfl) (λb h' hh=>hh.1);refine Iq (k:=k) (x:=aA e) rfl rfl (by kernel_rfl) (by kernel_rfl) rfl rfl ?_;refine hy.mono λb h' hh=> ?_;obtain⟨h1,⟨⟨k1,k2⟩,k3⟩,rfl⟩:=hh;refine cw rfl ?_;refine cX (x:= .d (.v (.bool (!b)))) (by kernel_rfl) rfl rfl ?_;refine cy ?_;cases b with
 |false=>
  refine nq (by kernel_rfl) ?_
  repeat refine bk ?_
  refine fD ?_;refine cw rfl ?_;refine cX (x:= .d (.v (.bool false))) (by kernel_rfl) rfl rfl ?_;refine cy ?_;refine eG (fV ?_);refine F2 k1 k2 ?_;exact⟨rfl,false,rfl,k3⟩
 |true=>
  refine nk (by kernel_rfl) ?_;refine fU ?_;refine cy ?_;simp only[cond_true]at k3
  repeat refine bk ?_
  refine fD ?_;refine cw rfl ?_;refine cX (x:= .ptr (h.length+0) 12) (by kernel_rfl) rfl rfl ?_;refine cw rfl ?_;refine cX (Cc (h:=h1) (i:=0) (off:=12) (l:=[.cells (aA e).cells]) (x:= .d (.sl (dn e.ax))) (by rw[k1];rfl) rfl (by kernel_rfl)) rfl rfl ?_;refine cw rfl ?_;refine cX (x:= .d (.v (.int .i64 (dn e.ax).length))) (by kernel_rfl) rfl rfl ?_;refine cw rfl ?_;refine cX (x:= .d (.v (.int .i64 0))) (by kernel_rfl) rfl rfl ?_;refine cy ?_;refine tS 12 (dn e.ax) (by kernel_rfl) λcf=> ?_;have pW:e.ax.length<=maxLen:=by rw[<-dZ];exact Hq cf
  rw[dZ]
  repeat refine bk ?_
  refine gP ?_;refine Uv (ι:=Nat×asn an×asn ao) [1,12,13,14] h.length (λi=>⟨23,[(1, .dc k),(12, .d (.sl (dn e.ax))),(13, .d (.v (.int .i64 e.ax.length))),(14, .d (.v (.int .i64 i.1)))],i.2.2⟩)
   (λi=>e.ax.drop i.1=i.2.1/\vT h i.2.2/\mQ Tryz.prog k ((jU i.2.1).map aA) (λb h2=>C b h2/\vT h h2) i.2.2) (λi=>i.2.1.length) (0,e.ax,h1) (arJ _) ?_ ?_ ⟨rfl,⟨k1,k2⟩,k3⟩ ?_
  ·rw[<-k1];exact Dl _ (by rw[k1];exact k2) (by
     show(((AV.dc k).bG h1.length).aQ h1.length&&(true&&(true&&(true&&true))))=true;rw[k1];simp [AV.bG,AV.aQ,cp];omega)
  ·rw[<-k1];exact FZ _ (by rw[k1];exact k2)
  rintro⟨i,rest,hc⟩ ⟨hd,⟨c1,c2⟩,pz⟩;simp only at hd c1 c2 pz ⊢
  repeat refine bk ?_
  refine fD ?_;refine cw rfl ?_;refine cX (x:= .d (.v (.bool (decide ((i:Int)<(e.ax.length:Int)))))) (by kernel_rfl) rfl rfl ?_;refine cy ?_;refine bk ?_;cases rest with
  |nil=>
   rw[b5 hd];refine nk (by kernel_rfl) ?_;refine n4 (jB (jB (pR rfl ?_)));refine cy ?_
   repeat refine bk ?_
   refine fD ?_;refine cw rfl ?_;rw[<-arT hc];refine cX (x:= .d (.v (.bool true))) (by kernel_rfl) rfl rfl ?_;refine cy ?_;refine eG ?_;refine F2 c1 c2 ?_;rw[jU,List.map_nil]at pz;exact⟨rfl,true,rfl,pz⟩
  |cons x rest=>
   rw[bU hd];refine nq (by kernel_rfl) ?_;refine fU ?_;refine cy ?_
   repeat refine bk ?_
   refine gP ?_
   repeat refine bk ?_
   refine fD ?_;refine cw rfl ?_;rw[<-arT hc];refine cX (SD (q:=i) (e:=51) (k:=13) rfl rfl (by kernel_rfl) (bx (ba hd)) rfl) rfl rfl ?_;refine cw rfl ?_;refine cX (x:=aA x) (by kernel_rfl) rfl rfl ?_;refine cw rfl ?_;refine D6 (PO (l:=[]) (by kernel_rfl)) rfl rfl KE ?_;refine cw rfl ?_;refine RW (QA (i:=0) (off:=0) (k:=13) (l:=[_]) (v:=aA x) (cm:=(aA x).cells) (by kernel_rfl) rfl (by kernel_rfl) rfl (by kernel_rfl) (by kernel_rfl)) rfl Tk ?_;refine cy ?_
   repeat refine bk ?_
   refine fD ?_;refine cw rfl ?_;refine cX (Cc (i:=0) (off:=0) (l:=[.cells (aA x).cells]) (x:=aA x) (by kernel_rfl) rfl (by kernel_rfl)) rfl rfl ?_;refine cw rfl ?_;refine cX (x:= .dc k) (by kernel_rfl) rfl rfl ?_;refine cw rfl ?_;rw[Ax,List.map_append]at pz;have y7:=acH _ _ pz;have hw:=xE x (arL (ba hd)) k hc _ (by rw[c1];exact c2) (by rw[c1];exact hk) y7;have hw2:=ama hw [.cells (aA x).cells] (by rw[c1];exact c2) (by
    rw[c1];show((aA x).aQ h.length&&((AV.dc k).aQ h.length&&true))=true;rw[show(aA x).aQ h.length=true by kernel_rfl];simp [AV.aQ,cp];omega) (λr h' hh=>by
    obtain⟨b,rfl,_,q1,q2⟩:=hh;exact⟨q1,q2,rfl⟩)
   refine XR (g:=88) (dF:=[]) rfl rfl rfl ?_;refine hw2.mono λr h' hh=> ?_;obtain⟨h2,⟨b,rfl,q0,q1,q2⟩,rfl⟩:=hh;refine cw rfl ?_;refine cX (x:= .d (.v (.bool (!b)))) (by kernel_rfl) rfl rfl ?_;refine cy ?_;cases b with
   |false=>
    refine nq (by kernel_rfl) ?_
    repeat refine bk ?_
    refine fD ?_;refine cw rfl ?_;refine cX (x:= .d (.v (.bool false))) (by kernel_rfl) rfl rfl ?_;refine cy ?_;refine eG (gW (fV (fV (gW (fV ?_)))));refine F2 (h1:=h2) (by rw[q1,c1]) (by rw[c1]at q2;exact q2) ?_;exact⟨rfl,false,rfl,q0⟩
   |true=>
    refine nk (by kernel_rfl) ?_;refine fU ?_;refine lC ?_;refine cy ?_;simp only[cond_true]at q0;refine fD ?_;refine cw rfl ?_;refine cX (x:= .d (.v (.int .i64 ((i+1:Nat):Int)))) (by
     show some ((.d (.v (.int .i64 (aI ((i:Int)+1)))):AV),HD.same)=_;have:=ca hd rfl pW;unfold aw at this;rw[this]) rfl rfl ?_
    refine cw rfl ?_;refine cX (x:= .d (.v (.int .i64 ((i+1:Nat):Int)))) (by kernel_rfl) rfl rfl ?_;refine cy ?_;have e1:h2.length=h.length:=by rw[q1,c1]
    have e2:h2.all (ao.aQ h2.length)=true:=by rw[q1];exact q2
    refine⟨?_,(i+1,rest,h2),?_,⟨l6 hd,⟨e1,by rw[<-e1];exact e2⟩,q0⟩,asl _⟩
    ·rw[<-e1];exact Dl _ e2 (by
       show(((AV.dc k).bG h2.length).aQ h2.length&&(true&&(true&&(true&&true))))=true;rw[e1];simp [AV.bG,AV.aQ,cp];omega)
    ·rw[<-e1];exact FZ _ e2
mutual
theorem adX:(e:an)->L5 e
 |⟨_,_,_,_,_,_,xs⟩=>ap5 _ (Yr xs)
theorem Yr:(l:asn an)->∀x∈l,L5 x
 |[],_,h=>absurd h ase
 |x::l,y,h=>(ar2.1 h).elim (λe=>e▸adX x) (Yr l y)
end
theorem RC{P:asq}{fn:Func}{n:Nat}{t:asn (Nat×AV)}{H h1:asn ao}{K:AV->asn ao->Prop}(k1:h1.length=H.length)(k2:h1.all (ao.aQ H.length)=true)(hr:nr P ⟨n,t,h1⟩ fn.results.toList λrs=>((jK rs).bG h1.length).aQ h1.length=true/\K ((jK rs).bG h1.length) h1):Mu P fn H.length K .normal ⟨n,t,h1⟩:=by
 have:=ac8 (P:=P) (fn:=fn) (n:=n) (t:=t) (l:=[]) (K:=K) k1 k2;rw[arT]at this;exact this hr
theorem akW{P:asq}{fn:Func}{n:Nat}{t:asn (Nat×AV)}{H h1:asn ao}{K:AV->asn ao->Prop}(k1:h1.length=H.length)(k2:h1.all (ao.aQ H.length)=true)(hr:nr P ⟨n,t,h1⟩ fn.results.toList λrs=>((jK rs).bG h1.length).aQ h1.length=true/\K ((jK rs).bG h1.length) h1):Mu P fn H.length K .ret ⟨n,t,h1⟩:=RC k1 k2 hr
theorem XZ(e:an):Ps Tryz.prog 87 [.bP [dd e] 0 0] ((cW e).map aA):=by
 intro k h C qe hk hs;refine zZ h.length Tryz.func87 rfl (by kernel_rfl) (arJ _) ?_;show bJ Tryz.prog none h.length _ _ ⟨6,[(0, .dc k),(1, .bP [dd e] 0 0)],h⟩;refine fD ?_;refine cw rfl ?_;refine cX (x:=aA e) (by kernel_rfl) rfl rfl ?_;refine cw rfl ?_;refine cX (x:= .dc k) (by kernel_rfl) rfl rfl ?_;refine cw rfl ?_;refine XR (g:=88) (dF:=[]) rfl rfl rfl ?_;refine(adX e k h C qe hk hs).mono λr h' hh=> ?_;obtain⟨b,rfl,q0,q1,q2⟩:=hh;refine RC (n:=6) (t:=[(5, .d (.v (.bool b))),(4, .dc k),(3,aA e),(0, .dc k),(1, .bP [dd e] 0 0)]) q1 q2 ?_;exact⟨rfl,b,q0⟩
def y4(x:aZ):asn aH:=x.aM::x.bH
def o8(e:an):asn aH:=e.aM::e.xIdx.flatMap y4
theorem aeV(e:an):Ps Tryz.prog 139 [.bP [dd e] 0 0] ((o8 e).map bZ):=by
 intro k h C qe hk Un;have hs:=QN _ qe Un;refine zZ h.length Tryz.func139 rfl (by kernel_rfl) (arJ _) ?_;show bJ Tryz.prog none h.length _ _ ⟨37,[(0, .dc k),(1, .bP [dd e] 0 0)],h⟩
 repeat refine bk ?_
 refine fD ?_;refine cw rfl ?_;refine cX (x:= .dc k) (by kernel_rfl) rfl rfl ?_;refine cw rfl ?_;refine cX (x:= .bP [dd e] 0 9) (by kernel_rfl) rfl rfl ?_;refine cw rfl ?_;refine cX (x:=bZ e.aM) (by kernel_rfl) rfl rfl ?_;refine cw rfl ?_;rw[o8,arX]at hs;refine Iq (k:=k) (x:=bZ e.aM) rfl rfl (by kernel_rfl) (by kernel_rfl) rfl rfl ?_;refine YS.mono hs λb h1 hh=> ?_;obtain⟨⟨k1,k2⟩,k3⟩:=hh;refine cw rfl ?_;refine cX (x:= .d (.v (.bool (!b)))) (by kernel_rfl) rfl rfl ?_;refine cy ?_;cases b with
 |false=>
  refine nq (by kernel_rfl) ?_;refine eG (fV ?_);exact akW k1 k2 ⟨rfl,false,k3.1⟩
 |true=>
  refine nk (by kernel_rfl) ?_;refine fU ?_;refine cy ?_;simp only[cond_true]at k3
  repeat refine bk ?_
  refine fD ?_;refine cw rfl ?_;refine cX (x:= .bP [dd e] 0 11) (by kernel_rfl) rfl rfl ?_;refine cw rfl ?_;refine cX (x:= .d (.sl (cU e.xIdx))) (by kernel_rfl) rfl rfl ?_;refine cw rfl ?_;refine cX (x:= .d (.v (.int .i64 (cU e.xIdx).length))) (by kernel_rfl) rfl rfl ?_;refine cw rfl ?_;refine cX (x:= .d (.v (.int .i64 0))) (by kernel_rfl) rfl rfl ?_;refine cy ?_;refine tS 13 (cU e.xIdx) (by kernel_rfl) λcf=> ?_;have pW:e.xIdx.length<=maxLen:=by rw[<-eD];exact Hq cf
  rw[eD];refine gP ?_;refine Uv (ι:=Nat×asn aZ×asn ao) [0,13,14,15] h.length (λi=>⟨37,[(0, .dc k),(13, .d (.sl (cU e.xIdx))),(14, .d (.v (.int .i64 e.xIdx.length))),(15, .d (.v (.int .i64 i.1)))],i.2.2⟩)
    (λi=>e.xIdx.drop i.1=i.2.1/\vT h i.2.2/\mQ Tryz.prog k ((i.2.1.flatMap y4).map bZ) (λb h2=>C b h2/\vT h h2) i.2.2) (λi=>i.2.1.length) (0,e.xIdx,h1) (arJ _) ?_ ?_ ⟨rfl,⟨k1,k2⟩,k3⟩ ?_
  ·rw[<-k1];exact ace _ (by rw[k1];exact k2) (by
     show(((AV.dc k).bG h1.length).aQ h1.length&&(true&&(true&&(true&&true))))=true;rw[k1,Iu hk];rfl)
  ·rw[<-k1];exact YL _ (by rw[k1];exact k2)
  rintro⟨i,rest,hc⟩ ⟨hd,⟨c1,c2⟩,pz⟩;simp only at hd c1 c2 pz ⊢
  repeat refine bk ?_
  refine fD ?_;refine cw rfl ?_;refine cX (x:= .d (.v (.bool (decide ((i:Int)<(e.xIdx.length:Int)))))) (by kernel_rfl) rfl rfl ?_;refine cy ?_
  repeat refine bk ?_
  cases rest with
  |nil=>
   rw[b5 hd];refine nk (by kernel_rfl) ?_;refine n4 (jB (jB (pR rfl ?_)));rw[List.flatMap_nil,List.map_nil]at pz;exact RC c1 c2 ⟨rfl,true,pz.1⟩
  |cons x rest=>
   rw[bU hd];refine nq (by kernel_rfl) ?_;refine fU ?_;refine cy ?_
   repeat refine bk ?_
   refine gP ?_
   repeat refine bk ?_
   refine fD ?_;refine cw rfl ?_;rw[<-arT hc];refine cX (SD (q:=i) (e:=59) (k:=4) rfl rfl (by kernel_rfl) (gX (ba hd)) rfl) rfl rfl ?_;refine cw rfl ?_;refine cX (x:=aIndex x) (by kernel_rfl) rfl rfl ?_;refine cw rfl ?_;refine D6 (PO (l:=[]) (by kernel_rfl)) rfl rfl KE ?_;refine cw rfl ?_;refine RW (QA (i:=0) (off:=0) (k:=4) (l:=[_]) (v:=aIndex x) (cm:=(aIndex x).cells) (by kernel_rfl) rfl (by kernel_rfl) rfl (by kernel_rfl) (by kernel_rfl)) rfl Tk ?_;refine cy ?_
   repeat refine bk ?_
   refine fD ?_;refine cw rfl ?_;refine cX (x:= .dc k) (by kernel_rfl) rfl rfl ?_;refine cw rfl ?_;refine cX (x:= .ptr (hc.length+0) 0) (by kernel_rfl) rfl rfl ?_;refine cw rfl ?_;refine cX (Cc (i:=0) (off:=0) (l:=[.cells (aIndex x).cells]) (x:=bZ x.aM) (by kernel_rfl) rfl (by kernel_rfl)) rfl rfl ?_;refine cw rfl ?_;rw[List.flatMap_cons,y4,List.cons_append,arX]at pz;have hy:=Rx pz [.cells (aIndex x).cells] (by rw[c1];exact c2) (by kernel_rfl) (λb h' hh=>hh.1);refine Iq (k:=k) (x:=bZ x.aM) rfl rfl (by kernel_rfl) (by kernel_rfl) rfl rfl ?_;refine hy.mono λb h' hh=> ?_;obtain⟨h2,⟨⟨p1,p2⟩,p3⟩,rfl⟩:=hh;refine cw rfl ?_;refine cX (x:= .d (.v (.bool (!b)))) (by kernel_rfl) rfl rfl ?_;refine cy ?_;have q1:h2.length=h.length:=by rw[p1,c1]
   have q2:h2.all (ao.aQ h.length)=true:=by rw[c1]at p2;exact p2
   cases b with
   |false=>
    refine nq (by kernel_rfl) ?_;refine eG ?_
    repeat (first|(with_reducible refine fV ?_)|(with_reducible refine gW ?_))
    exact F2 q1 q2 ⟨rfl,false,p3.1⟩
   |true=>
    refine nk (by kernel_rfl) ?_;refine fU ?_;refine cy ?_;simp only[cond_true]at p3
    repeat refine bk ?_
    refine fD ?_;refine cw rfl ?_;refine cX (x:= .ptr (hc.length+0) 3) (by kernel_rfl) rfl rfl ?_;refine cw rfl ?_;refine cX (Cc (h:=h2) (i:=0) (off:=3) (l:=[.cells (aIndex x).cells]) (x:= .d (.sl (dk x.bH))) (by rw[p1];rfl) rfl (by kernel_rfl)) rfl rfl ?_;refine cw rfl ?_;refine cX (x:= .d (.v (.int .i64 (dk x.bH).length))) (by kernel_rfl) rfl rfl ?_;refine cw rfl ?_;refine cX (x:= .d (.v (.int .i64 0))) (by kernel_rfl) rfl rfl ?_;refine cy ?_;refine tS 25 (dk x.bH) (by kernel_rfl) λapI=> ?_;have agG:x.bH.length<=maxLen:=by rw[<-dR];exact Hq apI
    rw[dR];refine gP ?_;refine Uv (ι:=Nat×asn aH×asn ao) [0,13,14,15,25,26,27] h.length (λj=>⟨37,[(0, .dc k),(13, .d (.sl (cU e.xIdx))),(14, .d (.v (.int .i64 e.xIdx.length))),(15, .d (.v (.int .i64 i))),(25, .d (.sl (dk x.bH))),(26, .d (.v (.int .i64 x.bH.length))),(27, .d (.v (.int .i64 j.1)))],j.2.2⟩)
      (λj=>x.bH.drop j.1=j.2.1/\vT h j.2.2/\mQ Tryz.prog k ((j.2.1++rest.flatMap y4).map bZ) (λb h2=>C b h2/\vT h h2) j.2.2) (λj=>j.2.1.length) (0,x.bH,h2) (arJ _) ?_ ?_ ⟨rfl,⟨q1,q2⟩,p3⟩ ?_
    ·rw[<-q1];exact Dl _ (by rw[q1];exact q2) (by
       show(((AV.dc k).bG h2.length).aQ h2.length&&(true&&(true&&(true&&(true&&(true&&(true&&true)))))))=true;rw[q1,Iu hk];rfl)
    ·rw[<-q1];exact FZ _ (by rw[q1];exact q2)
    rintro⟨j,r2,hb⟩ ⟨nK,⟨b1,b2⟩,y7⟩;simp only at nK b1 b2 y7 ⊢
    repeat refine bk ?_
    refine fD ?_;refine cw rfl ?_;refine cX (x:= .d (.v (.bool (decide ((j:Int)<(x.bH.length:Int)))))) (by kernel_rfl) rfl rfl ?_;refine cy ?_
    repeat refine bk ?_
    cases r2 with
    |nil=>
     rw[b5 nK];refine nk (by kernel_rfl) ?_;refine n4 (jB (jB (pR rfl ?_)));refine lC ?_;refine cy ?_;rw[List.nil_append]at y7;refine fD ?_;refine cw rfl ?_;refine cX (x:= .d (.v (.int .i64 ((i+1:Nat):Int)))) (by
       show some ((.d (.v (.int .i64 (aI ((i:Int)+1)))):AV),HD.same)=_;have:=ca hd rfl pW;unfold aw at this;rw[this]) rfl rfl ?_
     refine cw rfl ?_;refine cX (x:= .d (.v (.int .i64 ((i+1:Nat):Int)))) (by kernel_rfl) rfl rfl ?_;refine cy ?_;refine⟨?_,(i+1,rest,hb),?_,⟨l6 hd,⟨b1,b2⟩,y7⟩,asl _⟩
     ·rw[<-b1];exact ace _ (by rw[b1];exact b2) (by
        show(((AV.dc k).bG hb.length).aQ hb.length&&(true&&(true&&(true&&true))))=true;rw[b1,Iu hk];rfl)
     ·rw[<-b1];exact YL _ (by rw[b1];exact b2)
    |cons y r2=>
     rw[bU nK];refine nq (by kernel_rfl) ?_;refine fU ?_;refine cy ?_
     repeat refine bk ?_
     refine gP ?_
     repeat refine bk ?_
     refine fD ?_;refine cw rfl ?_;rw[<-arT hb];refine cX (SD (q:=j) (e:=36) (k:=2) rfl rfl (by kernel_rfl) (kT (ba nK)) rfl) rfl rfl ?_;refine cw rfl ?_;refine cX (x:=bZ y) (by kernel_rfl) rfl rfl ?_;refine cw rfl ?_;refine D6 (PO (l:=[]) (by kernel_rfl)) rfl rfl KE ?_;refine cw rfl ?_;refine RW (QA (i:=0) (off:=0) (k:=2) (l:=[_]) (v:=bZ y) (cm:=(bZ y).cells) (by kernel_rfl) rfl (by kernel_rfl) rfl (by kernel_rfl) (by kernel_rfl)) rfl Tk ?_;refine cy ?_
     repeat refine bk ?_
     refine fD ?_;refine cw rfl ?_;refine cX (x:= .dc k) (by kernel_rfl) rfl rfl ?_;refine cw rfl ?_;refine cX (Cc (i:=0) (off:=0) (l:=[.cells (bZ y).cells]) (x:=bZ y) (by kernel_rfl) rfl (by kernel_rfl)) rfl rfl ?_;refine cw rfl ?_;rw[List.cons_append,arX]at y7;have KW:=Rx y7 [.cells (bZ y).cells] (by rw[b1];exact b2) (by kernel_rfl) (λb h' hh=>hh.1);refine Iq (k:=k) (x:=bZ y) rfl rfl (by kernel_rfl) (by kernel_rfl) rfl rfl ?_;refine KW.mono λb h' hh=> ?_;obtain⟨h3,⟨⟨r1,r3⟩,r4⟩,rfl⟩:=hh;refine cw rfl ?_;refine cX (x:= .d (.v (.bool (!b)))) (by kernel_rfl) rfl rfl ?_;refine cy ?_;have u1:h3.length=h.length:=by rw[r1,b1]
     have u2:h3.all (ao.aQ h.length)=true:=by rw[b1]at r3;exact r3
     cases b with
     |false=>
      refine nq (by kernel_rfl) ?_;refine eG ?_
      repeat (first|(with_reducible refine fV ?_)|(with_reducible refine gW ?_))
      exact F2 u1 u2 ⟨rfl,false,r4.1⟩
     |true=>
      refine nk (by kernel_rfl) ?_;refine fU ?_;refine lC ?_;refine cy ?_;simp only[cond_true]at r4;refine fD ?_;refine cw rfl ?_;refine cX (x:= .d (.v (.int .i64 ((j+1:Nat):Int)))) (by
       show some ((.d (.v (.int .i64 (aI ((j:Int)+1)))):AV),HD.same)=_;have:=ca nK rfl agG;unfold aw at this;rw[this]) rfl rfl ?_
      refine cw rfl ?_;refine cX (x:= .d (.v (.int .i64 ((j+1:Nat):Int)))) (by kernel_rfl) rfl rfl ?_;refine cy ?_;refine⟨?_,(j+1,r2,h3),?_,⟨l6 nK,⟨u1,u2⟩,r4⟩,asl _⟩
      ·rw[<-u1];exact Dl _ (by rw[u1];exact u2) (by
         show(((AV.dc k).bG h3.length).aQ h3.length&&(true&&(true&&(true&&(true&&(true&&(true&&true)))))))=true;rw[u1,Iu hk];rfl)
      ·rw[<-u1];exact FZ _ (by rw[u1];exact u2)
theorem aes(v1:an):gD Tryz.prog 58 [(aA v1)] (·= .fn 87 [.bP [dd v1] 0 0]):=by
 refine ac5 (r:= .fn 87 [(.ptr 0 0)]) (h:=[.cells (aA v1).cells]) ?_ (by kernel_rfl) rfl;refine Ki 1 Tryz.func58 rfl (by kernel_rfl) (arG rfl) ?_;refine zx (s':=⟨4,[(0,(aA v1))],[]⟩) (by kernel_rfl) ?_;refine bk ?_;refine rg [] [(1,(.ptr 0 0))] [.cells (aA v1).cells] (by kernel_rfl) ?_;refine bk ?_;refine rg [] [(2,(.fn 87 [(.ptr 0 0)]))] [.cells (aA v1).cells] (by kernel_rfl) ?_;refine eG ?_;exact Ky (by kernel_rfl)
theorem ajD(v1:an):gD Tryz.prog 94 [(aA v1)] (·= .fn 139 [.bP [dd v1] 0 0]):=by
 refine ac5 (r:= .fn 139 [(.ptr 0 0)]) (h:=[.cells (aA v1).cells]) ?_ (by kernel_rfl) rfl;refine Ki 1 Tryz.func94 rfl (by kernel_rfl) (arG rfl) ?_;refine zx (s':=⟨4,[(0,(aA v1))],[]⟩) (by kernel_rfl) ?_;refine bk ?_;refine rg [] [(1,(.ptr 0 0))] [.cells (aA v1).cells] (by kernel_rfl) ?_;refine bk ?_;refine rg [] [(2,(.fn 139 [(.ptr 0 0)]))] [.cells (aA v1).cells] (by kernel_rfl) ?_;refine eG ?_;exact Ky (by kernel_rfl)
end Go.Proofs.YtdchibpnjpnkoaaGreatDoor
namespace Go.Proofs.YtdchibpnjpnkoaaGreatDoor
open Go.RowKit Go.Shelf
set_option maxRecDepth 100000
def aib:Ren where
 f:=fun
  |157=>204
  |229=>256
  |199=>257
  |261=>300
  |311=>313
  |312=>314
  |n=>n
 t:=fun
  |9=>9
  |31=>22
  |3=>3
  |5=>5
  |4=>4
  |119=>236
  |0=>0
  |40=>156
  |152=>257
  |21=>21
  |154=>259
  |51=>260
  |141=>262
  |196=>271
  |193=>268
  |198=>274
  |49=>272
  |194=>269
  |201=>277
  |226=>281
  |46=>214
  |227=>282
  |n=>n
 g:=fun
  |0=>0
  |6=>1
  |n=>n
def ny:asn aso:=[bs [115,105,122,101],bs [119,104,101,114,101],bs [105,110],bs [100,101,102],bs [111,117,116],bs [115,117,109],bs [112,114,111,100],bs [109,105,110],bs [109,97,120],bs [115,99,97,110],bs [111,118,101,114],bs [105,102],bs [99,97,115,116],bs [102,114,97,99],bs [105,110,116],bs [102,105,120],bs [99,101,105,108],bs [102,108,111,111,114],bs [122,101,114,111],bs [101,118,101,110],bs [115,97,116],bs [119,114,97,112]]
theorem aea:Lays.n157 Tryz.prog aib:=by
 constructor<;>first|kernel_rfl|(intro w;rfl)
def Dd:aso:=⟨#[115,105,122,101,32,119,104,101,114,101,32,105,110,32,100,101,102,32,111,117,116,32,115,117,109,32,112,114,111,100,32,109,105,110,32,109,97,120,32,115,99,97,110,32,111,118,101,114,32,105,102,32,99,97,115,116,32,102,114,97,99,32,105,110,116,32,102,105,120,32,99,101,105,108,32,102,108,111,111,114,32,122,101,114,111,32,101,118,101,110,32,115,97,116,32,119,114,97,112]⟩
theorem alb(w:ass)(hT:∀c:Nat,c<256->w.cell? ⟨0,c,none⟩=some (.int .u8 (if Lib.isSp (UInt8.ofNat c)then 1 else 0))):
 Calls Tryz.prog 204 #[.string Dd] w λe w'=>e= .returned (.slice (some ⟨w.heap.size,0,none⟩) 22 22)/\w'=w.alloc (.cells (ny.map Value.string).toArray 9):=by
 have ha:(Dd.data.toList.all λb=>decide (b.toNat<128))=true:=by kernel_rfl
 have h:=Any.strings_Fields_core aea (by kernel_rfl) Dd w (of_decide_eq_true (by kernel_rfl)) (λj b hb=>of_decide_eq_true (arY.1 ha b (arL hb))) hT;have e1:(Lib.fields Dd.data.toList).length=22:=by kernel_rfl
 have e2:((Lib.fields Dd.data.toList).map λl=>Value.string ⟨l.toArray⟩)=ny.map Value.string:=by kernel_rfl
 rw[e1,e2]at h;exact h
theorem anY(w:ass)(hT:∀c:Nat,c<256->w.cell? ⟨0,c,none⟩=some (.int .u8 (if Lib.isSp (UInt8.ofNat c)then 1 else 0))):
 Calls Tryz.prog 157 #[] w λe w'=>e= .returned (.slice (some ⟨w.heap.size,0,none⟩) 22 22)/\w'=w.alloc (.cells (ny.map Value.string).toArray 9):=by
 go_enter Tryz.func157,Tryz.ntmps157
 go_wp2_with (go_at_call 204;refine(alb _ hT).mono ?_;rintro e w' ⟨rfl,rfl⟩)
 go_ret
 exact⟨rfl,rfl⟩
theorem alR:∀c:Nat,c<256->(xf Gu)[c]?=some (.int .u8 (if Lib.isSp (UInt8.ofNat c)then 1 else 0)):=λc hc=>by
 rw[show xf Gu=(List.range 256).map λc=>Value.int .u8 (if Lib.isSp (UInt8.ofNat c)then 1 else 0) by kernel_rfl,arF,List.getElem?_range hc];rfl
theorem ant:gD Tryz.prog 157 [] (·= .d (.sl (cb ny))):=by
 refine⟨by kernel_rfl,λG w vs hi hl hr=> ?_⟩;obtain rfl:vs= #[]:=Array.size_eq_zero_iff.1 hl;refine(anY w λc hc=> ?_).mono λe w' hp=> ?_
 ·exact(hi.gl.1 0 (xf Gu) arE c _ (alR c hc)).2
 ·obtain⟨rfl,rfl⟩:=hp;obtain⟨i1,i2⟩:=ZS hi (.cells (ny.map Value.string).toArray 9) 22;have Hn:Rd (G.wm w.heap.size 22).S (w.alloc (.cells (ny.map Value.string).toArray 9)) 1 (cb ny) (ny.map Value.string):=
   ⟨rfl,λx hx=>(by obtain⟨y,_,rfl⟩:=List.mem_map.1 hx;rfl),λu hu=>(by obtain⟨y,_,rfl⟩:=List.mem_map.1 hu;rfl),λi j x d hx hd=>by
    rw[oU,arF]at hx;cases hk:ny[i]? with
    |none=>rw[hk]at hx;cases hx
    |some y=>
     rw[hk]at hx;cases hx;cases j with
     |zero=>cases hd;exact⟨.string y,by rw[Nat.mul_one,Nat.add_zero,arF,hk];rfl, .v _⟩
     |succ j=>cases hd⟩
  have hp:=Hn.Ir w.heap.size 22 (by decide) (by decide) (λo ho=> .inr ⟨rfl,ho⟩) (λo u hu=>by
   rw[World.cell?_alloc_new,List.getElem?_toArray];exact hu)
  exact⟨_,_,_,_,rfl,i1,arJ _,i2, .d hp,rfl,rfl⟩
end Go.Proofs.YtdchibpnjpnkoaaGreatDoor
namespace Go.Proofs.YtdchibpnjpnkoaaGreatDoor
open Go.RowKit
set_option maxRecDepth 1000000
end Go.Proofs.YtdchibpnjpnkoaaGreatDoor
