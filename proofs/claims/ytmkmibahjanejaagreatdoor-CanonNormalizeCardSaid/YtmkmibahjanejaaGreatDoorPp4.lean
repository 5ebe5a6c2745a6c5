/-
  Part 4 of the proof: AbsDat, IterE, KwS, AbsKern.
-/
import Derived.Test.YtmkmibahjanejaaGreatDoorPp3
import Derived.Test.YtmkmibahjanejaaGreatDoorProg
import Derived.WalkKit
import Derived.Shelf.Strings.Fields
import Derived.KernelRfl
namespace Go.Proofs.YtmkmibahjanejaaGreatDoor
open Go.RowKit
set_option linter.unusedVariables false
def Es(x:agL):agK D:=[.v (.string x)]
def bD(l:agK agL):agK (agK D):=l.map Es
theorem nE(l:agK agL):bD l=l.map Es:=rfl
theorem dI{l:agK agL}:(bD l).length=l.length:=by rw[nE,af0]
theorem ia{l:agK agL}{k:Nat}{x:agL}(h:l[k]?=some x):(bD l)[k]?=some (Es x):=by rw[nE,af2,h];rfl
theorem X4{a b:agK agL}:bD a++bD b=bD (a++b):=by rw[nE,nE,nE,List.map_append]
theorem D9{l:agK agL}:∀c∈bD l,c.length=1:=by
 intro c hc;rw[nE]at hc;obtain⟨x,_,rfl⟩:=List.mem_map.1 hc;rfl
theorem Hg{l:agK agL}{k n:Nat}:((bD l).take n).drop k=bD ((l.take n).drop k):=by rw[nE,nE,List.map_drop,List.map_take]
def I6(x:Int):agK D:=[.v (.int .i64 x)]
def lP(l:agK Int):agK (agK D):=l.map I6
theorem vO(l:agK Int):lP l=l.map I6:=rfl
theorem E2{l:agK Int}:(lP l).length=l.length:=by rw[vO,af0]
theorem Nr{l:agK Int}{k:Nat}{x:Int}(h:l[k]?=some x):(lP l)[k]?=some (I6 x):=by rw[vO,af2,h];rfl
theorem Yk{a b:agK Int}:lP a++lP b=lP (a++b):=by rw[vO,vO,vO,List.map_append]
theorem Uz{l:agK Int}:∀c∈lP l,c.length=1:=by
 intro c hc;rw[vO]at hc;obtain⟨x,_,rfl⟩:=List.mem_map.1 hc;rfl
structure aR where
 ak:ByteArray
 cO:Int64
def gO(x:aR):agK D:=[.v (.string x.ak), .v (.int .i64 x.cO.toInt)]
def wD(x:aR):J:= .agg [.d (.v (.string x.ak)), .d (.v (.int .i64 x.cO.toInt))]
structure bz where
 bO:Int
 bZ:Int
 cu:Int
 ct:Int
 cv:Int
def Ed(x:bz):agK D:=[.v (.int .i64 x.bO), .v (.int .i64 x.bZ), .v (.int .i64 x.cu), .v (.int .i64 x.ct), .v (.int .i64 x.cv)]
def dP(x:bz):J:= .agg [.d (.v (.int .i64 x.bO)), .d (.v (.int .i64 x.bZ)), .d (.v (.int .i64 x.cu)), .d (.v (.int .i64 x.ct)), .d (.v (.int .i64 x.cv))]
structure j5 where
 xN:Int64
 xD:Int64
def adA(x:j5):agK D:=[.v (.int .i64 x.xN.toInt), .v (.int .i64 x.xD.toInt)]
def oX(x:j5):J:= .agg [.d (.v (.int .i64 x.xN.toInt)), .d (.v (.int .i64 x.xD.toInt))]
structure lI where
 aD:ByteArray
 aC:ByteArray
 aw:ByteArray
 kV:ByteArray
def SH(x:lI):J:= .agg [.d (.v (.string x.aD)), .d (.v (.string x.aC)), .d (.v (.string x.aw)), .d (.v (.string x.kV))]
structure cW where
 b7:List ByteArray
 s9:List ByteArray
def fO(x:cW):J:= .agg [.d (.sl (bD x.b7)), .d (.sl (bD x.s9))]
def cw(l:agK aR):agK (agK D):=l.map gO
theorem kC(l:agK aR):cw l=l.map gO:=rfl
theorem dO{l:agK aR}:(cw l).length=l.length:=by rw[kC,af0]
theorem iY{l:agK aR}{k:Nat}{x:aR}(h:l[k]?=some x):(cw l)[k]?=some (gO x):=by rw[kC,af2,h];rfl
theorem aaY{a b:agK aR}:cw a++cw b=cw (a++b):=by rw[kC,kC,kC,List.map_append]
theorem rD{l:agK aR}:∀c∈cw l,c.length=2:=by
 intro c hc;rw[kC]at hc;obtain⟨x,_,rfl⟩:=List.mem_map.1 hc;rfl
theorem To{l:agK aR}{k:Nat}:(cw l).drop k=cw (l.drop k):=by rw[kC,kC,List.map_drop]
theorem S4{l:agK aR}{k n:Nat}:((cw l).take n).drop k=cw ((l.take n).drop k):=by rw[kC,kC,List.map_drop,List.map_take]
def kX(l:agK bz):agK (agK D):=l.map Ed
theorem vf(l:agK bz):kX l=l.map Ed:=rfl
theorem Wv{l:agK bz}:(kX l).length=l.length:=by rw[vf,af0]
theorem ju{l:agK bz}{k:Nat}{x:bz}(h:l[k]?=some x):(kX l)[k]?=some (Ed x):=by rw[vf,af2,h];rfl
theorem Vb{a b:agK bz}:kX a++kX b=kX (a++b):=by rw[vf,vf,vf,List.map_append]
theorem abl{l:agK bz}:∀c∈kX l,c.length=5:=by
 intro c hc;rw[vf]at hc;obtain⟨x,_,rfl⟩:=List.mem_map.1 hc;rfl
structure aI where
 xK:Int64
 xL:List aR
def Ao(x:aI):agK D:=[.v (.int .i64 x.xK.toInt), .sl (cw x.xL)]
def ca(x:aI):J:= .agg [.d (.v (.int .i64 x.xK.toInt)), .d (.sl (cw x.xL))]
structure cC where
 aP:aI
 jA:Bool
def xG(x:cC):agK D:=[.v (.int .i64 x.aP.xK.toInt), .sl (cw x.aP.xL), .v (.bool x.jA)]
def nU(x:cC):J:= .agg [.d (.v (.int .i64 x.aP.xK.toInt)), .d (.sl (cw x.aP.xL)), .d (.v (.bool x.jA))]
structure bH where
 ak:ByteArray
 cU:aI
def Af(x:bH):agK D:=[.v (.string x.ak), .v (.int .i64 x.cU.xK.toInt), .sl (cw x.cU.xL)]
def yZ(x:bH):J:= .agg [.d (.v (.string x.ak)), .d (.v (.int .i64 x.cU.xK.toInt)), .d (.sl (cw x.cU.xL))]
def ft(l:agK cC):agK (agK D):=l.map xG
theorem sU(l:agK cC):ft l=l.map xG:=rfl
theorem jr{l:agK cC}:(ft l).length=l.length:=by rw[sU,af0]
theorem qR{l:agK cC}{k:Nat}{x:cC}(h:l[k]?=some x):(ft l)[k]?=some (xG x):=by rw[sU,af2,h];rfl
theorem aff{a b:agK cC}:ft a++ft b=ft (a++b):=by rw[sU,sU,sU,List.map_append]
theorem Zw{l:agK cC}:∀c∈ft l,c.length=3:=by
 intro c hc;rw[sU]at hc;obtain⟨x,_,rfl⟩:=List.mem_map.1 hc;rfl
def cV(l:agK aI):agK (agK D):=l.map Ao
theorem ui(l:agK aI):cV l=l.map Ao:=rfl
theorem dC{l:agK aI}:(cV l).length=l.length:=by rw[ui,af0]
theorem kS{l:agK aI}{k:Nat}{x:aI}(h:l[k]?=some x):(cV l)[k]?=some (Ao x):=by rw[ui,af2,h];rfl
theorem UL{a b:agK aI}:cV a++cV b=cV (a++b):=by rw[ui,ui,ui,List.map_append]
theorem T4{l:agK aI}:∀c∈cV l,c.length=2:=by
 intro c hc;rw[ui]at hc;obtain⟨x,_,rfl⟩:=List.mem_map.1 hc;rfl
def dD(l:agK bH):agK (agK D):=l.map Af
theorem sC(l:agK bH):dD l=l.map Af:=rfl
theorem dW{l:agK bH}:(dD l).length=l.length:=by rw[sC,af0]
theorem iX{l:agK bH}{k:Nat}{x:bH}(h:l[k]?=some x):(dD l)[k]?=some (Af x):=by rw[sC,af2,h];rfl
theorem Yv{a b:agK bH}:dD a++dD b=dD (a++b):=by rw[sC,sC,sC,List.map_append]
theorem ae2{l:agK bH}:∀c∈dD l,c.length=3:=by
 intro c hc;rw[sC]at hc;obtain⟨x,_,rfl⟩:=List.mem_map.1 hc;rfl
def LG(x:agK bH):agK D:=[.sl (dD x)]
def lX(l:agK (agK bH)):agK (agK D):=l.map LG
theorem uL(l:agK (agK bH)):lX l=l.map LG:=rfl
theorem J5{l:agK (agK bH)}:(lX l).length=l.length:=by rw[uL,af0]
theorem MV{l:agK (agK bH)}{k:Nat}{x:(agK bH)}(h:l[k]?=some x):(lX l)[k]?=some (LG x):=by rw[uL,af2,h];rfl
theorem XQ{a b:agK (agK bH)}:lX a++lX b=lX (a++b):=by rw[uL,uL,uL,List.map_append]
theorem Z2{l:agK (agK bH)}:∀c∈lX l,c.length=1:=by
 intro c hc;rw[uL]at hc;obtain⟨x,_,rfl⟩:=List.mem_map.1 hc;rfl
structure ck where
 ak:ByteArray
 aH:bz
 aK:List aI
def zK(x:ck):agK D:=[.v (.string x.ak), .v (.int .i64 x.aH.bO), .v (.int .i64 x.aH.bZ), .v (.int .i64 x.aH.cu), .v (.int .i64 x.aH.ct), .v (.int .i64 x.aH.cv), .sl (cV x.aK)]
def oB(x:ck):J:= .agg [.d (.v (.string x.ak)), .d (.v (.int .i64 x.aH.bO)), .d (.v (.int .i64 x.aH.bZ)), .d (.v (.int .i64 x.aH.cu)), .d (.v (.int .i64 x.aH.ct)), .d (.v (.int .i64 x.aH.cv)), .d (.sl (cV x.aK))]
structure bl where
 aP:aI
 b7:ByteArray
 bK:List aI
def xx(x:bl):agK D:=[.v (.int .i64 x.aP.xK.toInt), .sl (cw x.aP.xL), .v (.string x.b7), .sl (cV x.bK)]
def fP(x:bl):J:= .agg [.d (.v (.int .i64 x.aP.xK.toInt)), .d (.sl (cw x.aP.xL)), .d (.v (.string x.b7)), .d (.sl (cV x.bK))]
def gq(l:agK ck):agK (agK D):=l.map zK
theorem uq(l:agK ck):gq l=l.map zK:=rfl
theorem gv{l:agK ck}:(gq l).length=l.length:=by rw[uq,af0]
theorem iz{l:agK ck}{k:Nat}{x:ck}(h:l[k]?=some x):(gq l)[k]?=some (zK x):=by rw[uq,af2,h];rfl
theorem XH{a b:agK ck}:gq a++gq b=gq (a++b):=by rw[uq,uq,uq,List.map_append]
theorem Un{l:agK ck}:∀c∈gq l,c.length=7:=by
 intro c hc;rw[uq]at hc;obtain⟨x,_,rfl⟩:=List.mem_map.1 hc;rfl
def cE(l:agK bl):agK (agK D):=l.map xx
theorem sP(l:agK bl):cE l=l.map xx:=rfl
theorem ee{l:agK bl}:(cE l).length=l.length:=by rw[sP,af0]
theorem ff{l:agK bl}{k:Nat}{x:bl}(h:l[k]?=some x):(cE l)[k]?=some (xx x):=by rw[sP,af2,h];rfl
theorem XK{a b:agK bl}:cE a++cE b=cE (a++b):=by rw[sP,sP,sP,List.map_append]
theorem abt{l:agK bl}:∀c∈cE l,c.length=4:=by
 intro c hc;rw[sP]at hc;obtain⟨x,_,rfl⟩:=List.mem_map.1 hc;rfl
structure ao where
 aM:Int
 ak:ByteArray
 dL:j5
 aH:bz
 aP:aI
 xIdx:List bl
 ba:List ao
mutual
def JK:ao->agK D
 |⟨aM,ak,dL,aH,aP,xIdx,ba⟩=>[.v (.int .i64 aM), .v (.string ak), .v (.int .i64 dL.xN.toInt), .v (.int .i64 dL.xD.toInt), .v (.int .i64 aH.bO), .v (.int .i64 aH.bZ), .v (.int .i64 aH.cu), .v (.int .i64 aH.ct), .v (.int .i64 aH.cv), .v (.int .i64 aP.xK.toInt), .sl (cw aP.xL), .sl (cE xIdx), .sl (et ba)]
def et:agK ao->agK (agK D)
 |[]=>[]
 |x::l=>JK x::et l
end
def dF(x:ao):agK D:=[.v (.int .i64 x.aM), .v (.string x.ak), .v (.int .i64 x.dL.xN.toInt), .v (.int .i64 x.dL.xD.toInt), .v (.int .i64 x.aH.bO), .v (.int .i64 x.aH.bZ), .v (.int .i64 x.aH.cu), .v (.int .i64 x.aH.ct), .v (.int .i64 x.aH.cv), .v (.int .i64 x.aP.xK.toInt), .sl (cw x.aP.xL), .sl (cE x.xIdx), .sl (et x.ba)]
theorem aen(x:ao):JK x=dF x:=by cases x;simp only[JK];rfl
theorem nD:∀l:agK ao,et l=l.map dF
 |[]=>by simp [et]
 |x::l=>by simp [et,aen,nD l]
theorem eX{l:agK ao}:(et l).length=l.length:=by rw[nD,af0]
theorem j6{l:agK ao}{k:Nat}{x:ao}(h:l[k]?=some x):(et l)[k]?=some (dF x):=by rw[nD,af2,h];rfl
theorem abK{a b:agK ao}:et a++et b=et (a++b):=by rw[nD,nD,nD,List.map_append]
theorem WE{l:agK ao}:∀c∈et l,c.length=13:=by
 intro c hc;rw[nD]at hc;obtain⟨x,_,rfl⟩:=List.mem_map.1 hc;rfl
def aO(x:ao):J:= .agg [.d (.v (.int .i64 x.aM)), .d (.v (.string x.ak)), .d (.v (.int .i64 x.dL.xN.toInt)), .d (.v (.int .i64 x.dL.xD.toInt)), .d (.v (.int .i64 x.aH.bO)), .d (.v (.int .i64 x.aH.bZ)), .d (.v (.int .i64 x.aH.cu)), .d (.v (.int .i64 x.aH.ct)), .d (.v (.int .i64 x.aH.cv)), .d (.v (.int .i64 x.aP.xK.toInt)), .d (.sl (cw x.aP.xL)), .d (.sl (cE x.xIdx)), .d (.sl (et x.ba))]
structure aT where
 ak:ByteArray
 aH:bz
 aK:List bH
 bx:List bH
 dd:Int
 bY:ao
def zx(x:aT):agK D:=[.v (.string x.ak), .v (.int .i64 x.aH.bO), .v (.int .i64 x.aH.bZ), .v (.int .i64 x.aH.cu), .v (.int .i64 x.aH.ct), .v (.int .i64 x.aH.cv), .sl (dD x.aK), .sl (dD x.bx), .v (.int .i64 x.dd), .v (.int .i64 x.bY.aM), .v (.string x.bY.ak), .v (.int .i64 x.bY.dL.xN.toInt), .v (.int .i64 x.bY.dL.xD.toInt), .v (.int .i64 x.bY.aH.bO), .v (.int .i64 x.bY.aH.bZ), .v (.int .i64 x.bY.aH.cu), .v (.int .i64 x.bY.aH.ct), .v (.int .i64 x.bY.aH.cv), .v (.int .i64 x.bY.aP.xK.toInt), .sl (cw x.bY.aP.xL), .sl (cE x.bY.xIdx), .sl (et x.bY.ba)]
def ej(x:aT):J:= .agg [.d (.v (.string x.ak)), .d (.v (.int .i64 x.aH.bO)), .d (.v (.int .i64 x.aH.bZ)), .d (.v (.int .i64 x.aH.cu)), .d (.v (.int .i64 x.aH.ct)), .d (.v (.int .i64 x.aH.cv)), .d (.sl (dD x.aK)), .d (.sl (dD x.bx)), .d (.v (.int .i64 x.dd)), .d (.v (.int .i64 x.bY.aM)), .d (.v (.string x.bY.ak)), .d (.v (.int .i64 x.bY.dL.xN.toInt)), .d (.v (.int .i64 x.bY.dL.xD.toInt)), .d (.v (.int .i64 x.bY.aH.bO)), .d (.v (.int .i64 x.bY.aH.bZ)), .d (.v (.int .i64 x.bY.aH.cu)), .d (.v (.int .i64 x.bY.aH.ct)), .d (.v (.int .i64 x.bY.aH.cv)), .d (.v (.int .i64 x.bY.aP.xK.toInt)), .d (.sl (cw x.bY.aP.xL)), .d (.sl (cE x.bY.xIdx)), .d (.sl (et x.bY.ba))]
def eI(l:agK aT):agK (agK D):=l.map zx
theorem pV(l:agK aT):eI l=l.map zx:=rfl
theorem fF{l:agK aT}:(eI l).length=l.length:=by rw[pV,af0]
theorem iA{l:agK aT}{k:Nat}{x:aT}(h:l[k]?=some x):(eI l)[k]?=some (zx x):=by rw[pV,af2,h];rfl
theorem acU{a b:agK aT}:eI a++eI b=eI (a++b):=by rw[pV,pV,pV,List.map_append]
theorem H3{l:agK aT}:∀c∈eI l,c.length=22:=by
 intro c hc;rw[pV]at hc;obtain⟨x,_,rfl⟩:=List.mem_map.1 hc;rfl
theorem RT{l:agK aT}{k n:Nat}:((eI l).take n).drop k=eI ((l.take n).drop k):=by rw[pV,pV,List.map_drop,List.map_take]
structure aB where
 aD:List ByteArray
 bX:List cC
 aC:List ck
 aw:List aT
 cd:List ByteArray
def aaD(x:aB):agK D:=[.sl (bD x.aD), .sl (ft x.bX), .sl (gq x.aC), .sl (eI x.aw), .sl (bD x.cd)]
def cH(x:aB):J:= .agg [.d (.sl (bD x.aD)), .d (.sl (ft x.bX)), .d (.sl (gq x.aC)), .d (.sl (eI x.aw)), .d (.sl (bD x.cd))]
def bu(s:agL):J:= .d (.v (.string s))
def an(n:Int):J:= .d (.v (.int .i64 n))
def cD(n:Int64):J:= .d (.v (.int .i64 n.toInt))
def aJ(b:Bool):J:= .d (.v (.bool b))
abbrev aN(n:Int):Int:=IntKind.i64.wrap n
theorem zU(a:Int):IntKind.i64.wrap a=a.bmod (2^64):=by
 rw[IntKind.wrap_i64,Int.bmod_def];omega
theorem Eo(a:Int):an (aN a)=cD (Int64.ofInt a):=by
 unfold an cD aN;rw[zU,Int64.toInt_ofInt]
theorem aaq(a b:Int64):an (aN (a.toInt+b.toInt))=cD (a+b):=by
 unfold an cD aN;rw[zU,Int64.toInt_add]
theorem aes(a b:Int64):an (aN (a.toInt-b.toInt))=cD (a-b):=by
 unfold an cD aN;rw[zU,Int64.toInt_sub]
theorem Dk(a:Int64):an (aN (0-a.toInt))=cD (-a):=by
 unfold an cD aN;rw[zU,Int64.toInt_neg,Int.zero_sub]
theorem GU{a:Int}(h:aN a=a):an a=cD (Int64.ofInt a):=by
 rw[<-Eo,h]
theorem TK(a:Int64)(b:Int):an (a.toInt.tmod b)=cD (Int64.ofInt (a.toInt.tmod b)):=by
 refine GU ?_;unfold aN;rw[IntKind.wrap_i64];have h1:=a.le_toInt;have h2:=a.toInt_lt;have h3:=Int.natAbs_tmod a.toInt b;have h4:(a.toInt.tmod b).natAbs<=a.toInt.natAbs:=by rw[h3];exact Nat.mod_le _ _
 have h7: -9223372036854775808<=a.toInt/\a.toInt<=9223372036854775807:=by omega
 clear h1 h2 h3;by_cases h5:0<=a.toInt
 ·have:=Int.tmod_nonneg b h5;generalize a.toInt.tmod b=x at*;omega
 ·have h6:=Int.tmod_nonneg b (show 0<=-a.toInt by omega);rw[Int.neg_tmod]at h6;generalize a.toInt.tmod b=x at*;omega
theorem bk{α:Type}{l:agK α}{k:Nat}{x:α}{xs:agK α}{n:Nat}(hd:l.drop k=x::xs)(hn:l.length=n)(hl:n<=maxLen):an (aN ((k:Int)+1))=an ((k+1:Nat):Int):=by
 have:(l.drop k).length=(x::xs).length:=by rw[hd]
 rw[List.length_drop,afY]at this;have h1:k<maxLen:=by omega
 unfold maxLen at h1;have e:IntKind.i64.wrap ((k:Int)+1)=((k+1:Nat):Int):=by rw[IntKind.wrap_i64];omega
 unfold an aN;rw[e]
theorem aL{α:Type}{l:agK α}{k:Nat}{x:α}{xs:agK α}(hd:l.drop k=x::xs):l[k]?=some x:=by
 have:(l.drop k)[0]?=some x:=by rw[hd];rfl
 rwa [List.getElem?_drop]at this
theorem pL{α:Type}{l:agK α}{k:Nat}{x:α}{xs:agK α}(hd:l.drop k=x::xs):l.drop (k+1)=xs:=by
 rw[<-List.drop_drop,hd];rfl
theorem aV{α:Type}{l:agK α}{k:Nat}{x:α}{xs:agK α}(hd:l.drop k=x::xs):decide ((k:Int)<(l.length:Int))=true:=by
 have:(l.drop k).length=(x::xs).length:=by rw[hd]
 rw[List.length_drop,afY]at this;exact agD (by omega)
theorem aU{α:Type}{l:agK α}{k:Nat}(hd:l.drop k=[]):decide ((k:Int)<(l.length:Int))=false:=by
 have:=List.drop_eq_nil_iff.1 hd;exact agE (by omega)
theorem CG{n cq:Nat}(h:Nat.ble (n*cq) 140737488355328=true)(hb:1<=cq):n<=maxLen/\n*cq<=140737488355328:=by
 have h:=af3 h;refine⟨?_,h⟩;unfold maxLen;have:=Nat.le_mul_of_pos_right n hb;omega
theorem dG:Tryz.prog.follows .mixedOrders=true:=by kernel_rfl
set_option maxRecDepth 100000
set_option maxHeartbeats 0
def uD(a b:Int64):Int64:=if b.toInt>a.toInt then b else a
theorem M9(a b:Int64):(if b.toInt>a.toInt then b.toInt else a.toInt)=(uD a b).toInt:=by unfold uD;split<;>rfl
theorem WH(a b:Int64):J.d (.v (.int .i64 (if b.toInt>a.toInt then b.toInt else a.toInt)))=cD (uD a b):=by rw[M9];rfl
mutual
def Jl:ao->agK ao
 |⟨o,n,v,t,l,i,xs⟩=>⟨o,n,v,t,l,i,xs⟩::jF xs
def jF:agK ao->agK ao
 |[]=>[]
 |x::l=>Jl x++jF l
end
def c9(e:ao):agK ao:=e::jF e.ba
theorem aeN(e:ao):Jl e=c9 e:=by cases e;simp only[Jl];rfl
theorem ym(x:ao)(l:agK ao):jF (x::l)=c9 x++jF l:=by rw[jF,aeN]
theorem JF{P:agN}{k:Nat}:∀(l:agK J){C:Bool->agK aj->Prop}{h:agK aj},h.all (aj.aA h.length)=true->kE P k l C h->kE P k l (λb h1=>C b h1/\qM h h1) h
 |[],_,_,hl,hs=>⟨hs,rfl,hl⟩
 |x::l,C,h,hl,hs=>YS.mono hs λb h1 ⟨h2,h3⟩=>⟨h2,by
  cases b with
  |true=>exact R3 l (λb h4 ⟨h5,h6,h7⟩=>⟨h5,by rw[h6,h2.1],by rw[h2.1]at h7;exact h7⟩) (JF l (by rw[h2.1];exact h2.2) h3)
  |false=>exact⟨h3,h2⟩⟩
def E1(e:ao):Prop:=∀(k:Nat)(h:agK aj)(C:Bool->agK aj->Prop),h.all (aj.aA h.length)=true->k<h.length->kE Tryz.prog k ((c9 e).map aO) C h->b5 Tryz.prog 198 [aO e, .cm k] h λr h1=>∃b,r= .d (.v (.bool b))/\C b h1/\qM h h1
theorem Pq{P:agN}{fn:Func}{n:Nat}{t:agK (Nat×J)}{H h1 l:agK aj}{K:J->agK aj->Prop}(k1:h1.length=H.length)(k2:h1.all (aj.aA H.length)=true)(hr:kr P ⟨n,t,h1++l⟩ fn.results.toList λrs=>((iO rs).aS h1.length).aA h1.length=true/\K ((iO rs).aS h1.length) h1):o8 P fn H.length K ⟨n,t,h1++l⟩:=by
 rw[<-k1]at k2 ⊢;exact aeI k2 hr
theorem y9{P:agN}{fn:Func}{n:Nat}{t:agK (Nat×J)}{H h1 l:agK aj}{K:J->agK aj->Prop}(k1:h1.length=H.length)(k2:h1.all (aj.aA H.length)=true)(hr:kr P ⟨n,t,h1++l⟩ fn.results.toList λrs=>((iO rs).aS h1.length).aA h1.length=true/\K ((iO rs).aS h1.length) h1):Ce P fn H.length K .ret ⟨n,t,h1++l⟩:=Pq k1 k2 hr
theorem W3(e:ao)(mY:∀x∈e.ba,E1 x):E1 e:=by
 intro k h C na hk hs;refine zb h.length Tryz.func198 rfl (by kernel_rfl) (af6 _) ?_
 suffices hA:aX Tryz.prog none h.length _ _ ⟨23,[(0,aO e),(1, .cm k)],h++[]⟩ by rw[agh]at hA;exact hA
 repeat refine bA ?_
 refine er ?_;refine bN rfl ?_;refine xg (TX (l:=[]) (v:=aO e) rfl (by kernel_rfl)) rfl rfl F7 ?_;refine bN rfl ?_;refine cp (x:= .d (.v (.bool false))) (by kernel_rfl) rfl rfl ?_;refine cT ?_
 repeat refine bA ?_
 refine er ?_;refine bN rfl ?_;refine cp (x:= .cm k) (by kernel_rfl) rfl rfl ?_;refine bN rfl ?_;refine cp (uC (i:=0) (off:=0) (l:=[]++[.cells (aO e).cells]) (x:=aO e) (by kernel_rfl) rfl (by kernel_rfl)) rfl rfl ?_;refine bN rfl ?_;rw[c9,agl]at hs;have hy:=HA (JF (aO e::_) na hs) [.cells (aO e).cells] na (by kernel_rfl) (λb h' hh=>hh.1);refine B4 (k:=k) (x:=aO e) rfl rfl (by kernel_rfl) (by kernel_rfl) rfl rfl ?_;refine hy.mono λb h' hh=> ?_;obtain⟨h1,⟨⟨k1,k2⟩,k3⟩,rfl⟩:=hh;refine bN rfl ?_;refine cp (x:= .d (.v (.bool (!b)))) (by kernel_rfl) rfl rfl ?_;refine cT ?_;cases b with
 |false=>
  refine nP (by kernel_rfl) ?_
  repeat refine bA ?_
  refine er ?_;refine bN rfl ?_;refine cp (x:= .d (.v (.bool false))) (by kernel_rfl) rfl rfl ?_;refine cT ?_;refine e7 (hY ?_);refine y9 k1 k2 ?_;exact⟨rfl,false,rfl,k3⟩
 |true=>
  refine nO (by kernel_rfl) ?_;refine gQ ?_;refine cT ?_;simp only[cond_true]at k3
  repeat refine bA ?_
  refine er ?_;refine bN rfl ?_;refine cp (x:= .ptr (h.length+0) 12) (by kernel_rfl) rfl rfl ?_;refine bN rfl ?_;refine cp (uC (h:=h1) (i:=0) (off:=12) (l:=[.cells (aO e).cells]) (x:= .d (.sl (et e.ba))) (by rw[k1];rfl) rfl (by kernel_rfl)) rfl rfl ?_;refine bN rfl ?_;refine cp (x:= .d (.v (.int .i64 (et e.ba).length))) (by kernel_rfl) rfl rfl ?_;refine bN rfl ?_;refine cp (x:= .d (.v (.int .i64 0))) (by kernel_rfl) rfl rfl ?_;refine cT ?_;refine yr 12 (et e.ba) (by kernel_rfl) λbh=> ?_;have mI:e.ba.length<=maxLen:=by rw[<-eX];exact BV bh
  rw[eX]
  repeat refine bA ?_
  refine iS ?_;refine LB (ι:=Nat×agK ao×agK aj) [1,12,13,14] h.length (λi=>⟨23,[(1, .cm k),(12, .d (.sl (et e.ba))),(13, .d (.v (.int .i64 e.ba.length))),(14, .d (.v (.int .i64 i.1)))],i.2.2⟩)
   (λi=>e.ba.drop i.1=i.2.1/\qM h i.2.2/\kE Tryz.prog k ((jF i.2.1).map aO) (λb h2=>C b h2/\qM h h2) i.2.2) (λi=>i.2.1.length) (0,e.ba,h1) (af6 _) ?_ ?_ ⟨rfl,⟨k1,k2⟩,k3⟩ ?_
  ·rw[<-k1];exact yO _ (by rw[k1];exact k2) (by
     show(((J.cm k).aS h1.length).aA h1.length&&(true&&(true&&(true&&true))))=true;rw[k1];simp [J.aS,J.aA,bB];omega)
  ·rw[<-k1];exact Bh _ (by rw[k1];exact k2)
  rintro⟨i,rest,hc⟩ ⟨hd,⟨c1,c2⟩,mJ⟩;simp only at hd c1 c2 mJ ⊢
  repeat refine bA ?_
  refine er ?_;refine bN rfl ?_;refine cp (x:= .d (.v (.bool (decide ((i:Int)<(e.ba.length:Int)))))) (by kernel_rfl) rfl rfl ?_;refine cT ?_;refine bA ?_;cases rest with
  |nil=>
   rw[aU hd];refine nO (by kernel_rfl) ?_;refine qQ (q7 (q7 (A3 rfl ?_)));refine cT ?_
   repeat refine bA ?_
   refine er ?_;refine bN rfl ?_;rw[<-agh hc];refine cp (x:= .d (.v (.bool true))) (by kernel_rfl) rfl rfl ?_;refine cT ?_;refine e7 ?_;refine y9 c1 c2 ?_;rw[jF,List.map_nil]at mJ;exact⟨rfl,true,rfl,mJ⟩
  |cons x rest=>
   rw[aV hd];refine nP (by kernel_rfl) ?_;refine gQ ?_;refine cT ?_
   repeat refine bA ?_
   refine iS ?_
   repeat refine bA ?_
   refine er ?_;refine bN rfl ?_;rw[<-agh hc];refine cp (HF (q:=i) (e:=67) (k:=13) rfl rfl (by kernel_rfl) (j6 (aL hd)) rfl) rfl rfl ?_;refine bN rfl ?_;refine cp (x:=aO x) (by kernel_rfl) rfl rfl ?_;refine bN rfl ?_;refine xg (Js (l:=[]) (by kernel_rfl)) rfl rfl F7 ?_;refine bN rfl ?_;refine GV (GK (i:=0) (off:=0) (k:=13) (l:=[_]) (v:=aO x) (bC:=(aO x).cells) (by kernel_rfl) rfl (by kernel_rfl) rfl (by kernel_rfl) (by kernel_rfl)) rfl Jn ?_;refine cT ?_
   repeat refine bA ?_
   refine er ?_;refine bN rfl ?_;refine cp (uC (i:=0) (off:=0) (l:=[.cells (aO x).cells]) (x:=aO x) (by kernel_rfl) rfl (by kernel_rfl)) rfl rfl ?_;refine bN rfl ?_;refine cp (x:= .cm k) (by kernel_rfl) rfl rfl ?_;refine bN rfl ?_;rw[ym,List.map_append]at mJ;have tt:=Og _ _ mJ;have hw:=mY x (af8 (aL hd)) k hc _ (by rw[c1];exact c2) (by rw[c1];exact hk) tt;have UU:=Wb hw [.cells (aO x).cells] (by rw[c1];exact c2) (by
    rw[c1];show((aO x).aA h.length&&((J.cm k).aA h.length&&true))=true;rw[show(aO x).aA h.length=true by kernel_rfl];simp [J.aA,bB];omega) (λr h' hh=>by
    obtain⟨b,rfl,_,q1,q2⟩:=hh;exact⟨q1,q2,rfl⟩)
   refine MM (g:=198) (cF:=[]) rfl rfl rfl ?_;refine UU.mono λr h' hh=> ?_;obtain⟨h2,⟨b,rfl,q0,q1,q2⟩,rfl⟩:=hh;refine bN rfl ?_;refine cp (x:= .d (.v (.bool (!b)))) (by kernel_rfl) rfl rfl ?_;refine cT ?_;cases b with
   |false=>
    refine nP (by kernel_rfl) ?_
    repeat refine bA ?_
    refine er ?_;refine bN rfl ?_;refine cp (x:= .d (.v (.bool false))) (by kernel_rfl) rfl rfl ?_;refine cT ?_;refine e7 (je (hY (hY (je (hY ?_)))));refine y9 (h1:=h2) (by rw[q1,c1]) (by rw[c1]at q2;exact q2) ?_;exact⟨rfl,false,rfl,q0⟩
   |true=>
    refine nO (by kernel_rfl) ?_;refine gQ ?_;refine mA ?_;refine cT ?_;simp only[cond_true]at q0;refine er ?_;refine bN rfl ?_;refine cp (x:= .d (.v (.int .i64 ((i+1:Nat):Int)))) (by
     show some ((.d (.v (.int .i64 (aN ((i:Int)+1)))):J),HD.same)=_;have:=bk hd rfl mI;unfold an at this;rw[this]) rfl rfl ?_
    refine bN rfl ?_;refine cp (x:= .d (.v (.int .i64 ((i+1:Nat):Int)))) (by kernel_rfl) rfl rfl ?_;refine cT ?_;have e1:h2.length=h.length:=by rw[q1,c1]
    have e2:h2.all (aj.aA h2.length)=true:=by rw[q1];exact q2
    refine⟨?_,(i+1,rest,h2),?_,⟨pL hd,⟨e1,by rw[<-e1];exact e2⟩,q0⟩,agI _⟩
    ·rw[<-e1];exact yO _ e2 (by
       show(((J.cm k).aS h2.length).aA h2.length&&(true&&(true&&(true&&true))))=true;rw[e1];simp [J.aS,J.aA,bB];omega)
    ·rw[<-e1];exact Bh _ e2
mutual
theorem O6:(e:ao)->E1 e
 |⟨_,_,_,_,_,_,xs⟩=>W3 _ (Rh xs)
theorem Rh:(l:agK ao)->∀x∈l,E1 x
 |[],_,h=>absurd h agC
 |x::l,y,h=>(agq.1 h).elim (λe=>e▸O6 x) (Rh l y)
end
theorem Lw{P:agN}{fn:Func}{n:Nat}{t:agK (Nat×J)}{H h1:agK aj}{K:J->agK aj->Prop}(k1:h1.length=H.length)(k2:h1.all (aj.aA H.length)=true)(hr:kr P ⟨n,t,h1⟩ fn.results.toList λrs=>((iO rs).aS h1.length).aA h1.length=true/\K ((iO rs).aS h1.length) h1):Ce P fn H.length K .normal ⟨n,t,h1⟩:=by
 have:=Pq (P:=P) (fn:=fn) (n:=n) (t:=t) (l:=[]) (K:=K) k1 k2;rw[agh]at this;exact this hr
theorem abz{P:agN}{fn:Func}{n:Nat}{t:agK (Nat×J)}{H h1:agK aj}{K:J->agK aj->Prop}(k1:h1.length=H.length)(k2:h1.all (aj.aA H.length)=true)(hr:kr P ⟨n,t,h1⟩ fn.results.toList λrs=>((iO rs).aS h1.length).aA h1.length=true/\K ((iO rs).aS h1.length) h1):Ce P fn H.length K .ret ⟨n,t,h1⟩:=Lw k1 k2 hr
theorem Mv(e:ao):G9 Tryz.prog 197 [.aY [dF e] 0 0] ((c9 e).map aO):=by
 intro k h C na hk hs;refine zb h.length Tryz.func197 rfl (by kernel_rfl) (af6 _) ?_;show aX Tryz.prog none h.length _ _ ⟨6,[(0, .cm k),(1, .aY [dF e] 0 0)],h⟩;refine er ?_;refine bN rfl ?_;refine cp (x:=aO e) (by kernel_rfl) rfl rfl ?_;refine bN rfl ?_;refine cp (x:= .cm k) (by kernel_rfl) rfl rfl ?_;refine bN rfl ?_;refine MM (g:=198) (cF:=[]) rfl rfl rfl ?_;refine(O6 e k h C na hk hs).mono λr h' hh=> ?_;obtain⟨b,rfl,q0,q1,q2⟩:=hh;refine Lw (n:=6) (t:=[(5, .d (.v (.bool b))),(4, .cm k),(3,aO e),(0, .cm k),(1, .aY [dF e] 0 0)]) q1 q2 ?_;exact⟨rfl,b,q0⟩
def qg(x:bl):agK aI:=x.aP::x.bK
def lh(e:ao):agK aI:=e.aP::e.xIdx.flatMap qg
theorem Zl(e:ao):G9 Tryz.prog 241 [.aY [dF e] 0 0] ((lh e).map ca):=by
 intro k h C na hk Kn;have hs:=JF _ na Kn;refine zb h.length Tryz.func241 rfl (by kernel_rfl) (af6 _) ?_;show aX Tryz.prog none h.length _ _ ⟨37,[(0, .cm k),(1, .aY [dF e] 0 0)],h⟩
 repeat refine bA ?_
 refine er ?_;refine bN rfl ?_;refine cp (x:= .cm k) (by kernel_rfl) rfl rfl ?_;refine bN rfl ?_;refine cp (x:= .aY [dF e] 0 9) (by kernel_rfl) rfl rfl ?_;refine bN rfl ?_;refine cp (x:=ca e.aP) (by kernel_rfl) rfl rfl ?_;refine bN rfl ?_;rw[lh,agl]at hs;refine B4 (k:=k) (x:=ca e.aP) rfl rfl (by kernel_rfl) (by kernel_rfl) rfl rfl ?_;refine YS.mono hs λb h1 hh=> ?_;obtain⟨⟨k1,k2⟩,k3⟩:=hh;refine bN rfl ?_;refine cp (x:= .d (.v (.bool (!b)))) (by kernel_rfl) rfl rfl ?_;refine cT ?_;cases b with
 |false=>
  refine nP (by kernel_rfl) ?_;refine e7 (hY ?_);exact abz k1 k2 ⟨rfl,false,k3.1⟩
 |true=>
  refine nO (by kernel_rfl) ?_;refine gQ ?_;refine cT ?_;simp only[cond_true]at k3
  repeat refine bA ?_
  refine er ?_;refine bN rfl ?_;refine cp (x:= .aY [dF e] 0 11) (by kernel_rfl) rfl rfl ?_;refine bN rfl ?_;refine cp (x:= .d (.sl (cE e.xIdx))) (by kernel_rfl) rfl rfl ?_;refine bN rfl ?_;refine cp (x:= .d (.v (.int .i64 (cE e.xIdx).length))) (by kernel_rfl) rfl rfl ?_;refine bN rfl ?_;refine cp (x:= .d (.v (.int .i64 0))) (by kernel_rfl) rfl rfl ?_;refine cT ?_;refine yr 13 (cE e.xIdx) (by kernel_rfl) λbh=> ?_;have mI:e.xIdx.length<=maxLen:=by rw[<-ee];exact BV bh
  rw[ee];refine iS ?_;refine LB (ι:=Nat×agK bl×agK aj) [0,13,14,15] h.length (λi=>⟨37,[(0, .cm k),(13, .d (.sl (cE e.xIdx))),(14, .d (.v (.int .i64 e.xIdx.length))),(15, .d (.v (.int .i64 i.1)))],i.2.2⟩)
    (λi=>e.xIdx.drop i.1=i.2.1/\qM h i.2.2/\kE Tryz.prog k ((i.2.1.flatMap qg).map ca) (λb h2=>C b h2/\qM h h2) i.2.2) (λi=>i.2.1.length) (0,e.xIdx,h1) (af6 _) ?_ ?_ ⟨rfl,⟨k1,k2⟩,k3⟩ ?_
  ·rw[<-k1];exact NM _ (by rw[k1];exact k2) (by
     show(((J.cm k).aS h1.length).aA h1.length&&(true&&(true&&(true&&true))))=true;rw[k1,CF hk];rfl)
  ·rw[<-k1];exact SL _ (by rw[k1];exact k2)
  rintro⟨i,rest,hc⟩ ⟨hd,⟨c1,c2⟩,mJ⟩;simp only at hd c1 c2 mJ ⊢
  repeat refine bA ?_
  refine er ?_;refine bN rfl ?_;refine cp (x:= .d (.v (.bool (decide ((i:Int)<(e.xIdx.length:Int)))))) (by kernel_rfl) rfl rfl ?_;refine cT ?_
  repeat refine bA ?_
  cases rest with
  |nil=>
   rw[aU hd];refine nO (by kernel_rfl) ?_;refine qQ (q7 (q7 (A3 rfl ?_)));rw[List.flatMap_nil,List.map_nil]at mJ;exact Lw c1 c2 ⟨rfl,true,mJ.1⟩
  |cons x rest=>
   rw[aV hd];refine nP (by kernel_rfl) ?_;refine gQ ?_;refine cT ?_
   repeat refine bA ?_
   refine iS ?_
   repeat refine bA ?_
   refine er ?_;refine bN rfl ?_;rw[<-agh hc];refine cp (HF (q:=i) (e:=111) (k:=4) rfl rfl (by kernel_rfl) (ff (aL hd)) rfl) rfl rfl ?_;refine bN rfl ?_;refine cp (x:=fP x) (by kernel_rfl) rfl rfl ?_;refine bN rfl ?_;refine xg (Js (l:=[]) (by kernel_rfl)) rfl rfl F7 ?_;refine bN rfl ?_;refine GV (GK (i:=0) (off:=0) (k:=4) (l:=[_]) (v:=fP x) (bC:=(fP x).cells) (by kernel_rfl) rfl (by kernel_rfl) rfl (by kernel_rfl) (by kernel_rfl)) rfl Jn ?_;refine cT ?_
   repeat refine bA ?_
   refine er ?_;refine bN rfl ?_;refine cp (x:= .cm k) (by kernel_rfl) rfl rfl ?_;refine bN rfl ?_;refine cp (x:= .ptr (hc.length+0) 0) (by kernel_rfl) rfl rfl ?_;refine bN rfl ?_;refine cp (uC (i:=0) (off:=0) (l:=[.cells (fP x).cells]) (x:=ca x.aP) (by kernel_rfl) rfl (by kernel_rfl)) rfl rfl ?_;refine bN rfl ?_;rw[List.flatMap_cons,qg,List.cons_append,agl]at mJ;have hy:=HA mJ [.cells (fP x).cells] (by rw[c1];exact c2) (by kernel_rfl) (λb h' hh=>hh.1);refine B4 (k:=k) (x:=ca x.aP) rfl rfl (by kernel_rfl) (by kernel_rfl) rfl rfl ?_;refine hy.mono λb h' hh=> ?_;obtain⟨h2,⟨⟨p1,p2⟩,p3⟩,rfl⟩:=hh;refine bN rfl ?_;refine cp (x:= .d (.v (.bool (!b)))) (by kernel_rfl) rfl rfl ?_;refine cT ?_;have q1:h2.length=h.length:=by rw[p1,c1]
   have q2:h2.all (aj.aA h.length)=true:=by rw[c1]at p2;exact p2
   cases b with
   |false=>
    refine nP (by kernel_rfl) ?_;refine e7 ?_
    repeat (first|(with_reducible refine hY ?_)|(with_reducible refine je ?_))
    exact y9 q1 q2 ⟨rfl,false,p3.1⟩
   |true=>
    refine nO (by kernel_rfl) ?_;refine gQ ?_;refine cT ?_;simp only[cond_true]at p3
    repeat refine bA ?_
    refine er ?_;refine bN rfl ?_;refine cp (x:= .ptr (hc.length+0) 3) (by kernel_rfl) rfl rfl ?_;refine bN rfl ?_;refine cp (uC (h:=h2) (i:=0) (off:=3) (l:=[.cells (fP x).cells]) (x:= .d (.sl (cV x.bK))) (by rw[p1];rfl) rfl (by kernel_rfl)) rfl rfl ?_;refine bN rfl ?_;refine cp (x:= .d (.v (.int .i64 (cV x.bK).length))) (by kernel_rfl) rfl rfl ?_;refine bN rfl ?_;refine cp (x:= .d (.v (.int .i64 0))) (by kernel_rfl) rfl rfl ?_;refine cT ?_;refine yr 25 (cV x.bK) (by kernel_rfl) λaec=> ?_;have Z5:x.bK.length<=maxLen:=by rw[<-dC];exact BV aec
    rw[dC];refine iS ?_;refine LB (ι:=Nat×agK aI×agK aj) [0,13,14,15,25,26,27] h.length (λj=>⟨37,[(0, .cm k),(13, .d (.sl (cE e.xIdx))),(14, .d (.v (.int .i64 e.xIdx.length))),(15, .d (.v (.int .i64 i))),(25, .d (.sl (cV x.bK))),(26, .d (.v (.int .i64 x.bK.length))),(27, .d (.v (.int .i64 j.1)))],j.2.2⟩)
      (λj=>x.bK.drop j.1=j.2.1/\qM h j.2.2/\kE Tryz.prog k ((j.2.1++rest.flatMap qg).map ca) (λb h2=>C b h2/\qM h h2) j.2.2) (λj=>j.2.1.length) (0,x.bK,h2) (af6 _) ?_ ?_ ⟨rfl,⟨q1,q2⟩,p3⟩ ?_
    ·rw[<-q1];exact yO _ (by rw[q1];exact q2) (by
       show(((J.cm k).aS h2.length).aA h2.length&&(true&&(true&&(true&&(true&&(true&&(true&&true)))))))=true;rw[q1,CF hk];rfl)
    ·rw[<-q1];exact Bh _ (by rw[q1];exact q2)
    rintro⟨j,r2,hb⟩ ⟨kA,⟨b1,b2⟩,tt⟩;simp only at kA b1 b2 tt ⊢
    repeat refine bA ?_
    refine er ?_;refine bN rfl ?_;refine cp (x:= .d (.v (.bool (decide ((j:Int)<(x.bK.length:Int)))))) (by kernel_rfl) rfl rfl ?_;refine cT ?_
    repeat refine bA ?_
    cases r2 with
    |nil=>
     rw[aU kA];refine nO (by kernel_rfl) ?_;refine qQ (q7 (q7 (A3 rfl ?_)));refine mA ?_;refine cT ?_;rw[List.nil_append]at tt;refine er ?_;refine bN rfl ?_;refine cp (x:= .d (.v (.int .i64 ((i+1:Nat):Int)))) (by
       show some ((.d (.v (.int .i64 (aN ((i:Int)+1)))):J),HD.same)=_;have:=bk hd rfl mI;unfold an at this;rw[this]) rfl rfl ?_
     refine bN rfl ?_;refine cp (x:= .d (.v (.int .i64 ((i+1:Nat):Int)))) (by kernel_rfl) rfl rfl ?_;refine cT ?_;refine⟨?_,(i+1,rest,hb),?_,⟨pL hd,⟨b1,b2⟩,tt⟩,agI _⟩
     ·rw[<-b1];exact NM _ (by rw[b1];exact b2) (by
        show(((J.cm k).aS hb.length).aA hb.length&&(true&&(true&&(true&&true))))=true;rw[b1,CF hk];rfl)
     ·rw[<-b1];exact SL _ (by rw[b1];exact b2)
    |cons y r2=>
     rw[aV kA];refine nP (by kernel_rfl) ?_;refine gQ ?_;refine cT ?_
     repeat refine bA ?_
     refine iS ?_
     repeat refine bA ?_
     refine er ?_;refine bN rfl ?_;rw[<-agh hb];refine cp (HF (q:=j) (e:=52) (k:=2) rfl rfl (by kernel_rfl) (kS (aL kA)) rfl) rfl rfl ?_;refine bN rfl ?_;refine cp (x:=ca y) (by kernel_rfl) rfl rfl ?_;refine bN rfl ?_;refine xg (Js (l:=[]) (by kernel_rfl)) rfl rfl F7 ?_;refine bN rfl ?_;refine GV (GK (i:=0) (off:=0) (k:=2) (l:=[_]) (v:=ca y) (bC:=(ca y).cells) (by kernel_rfl) rfl (by kernel_rfl) rfl (by kernel_rfl) (by kernel_rfl)) rfl Jn ?_;refine cT ?_
     repeat refine bA ?_
     refine er ?_;refine bN rfl ?_;refine cp (x:= .cm k) (by kernel_rfl) rfl rfl ?_;refine bN rfl ?_;refine cp (uC (i:=0) (off:=0) (l:=[.cells (ca y).cells]) (x:=ca y) (by kernel_rfl) rfl (by kernel_rfl)) rfl rfl ?_;refine bN rfl ?_;rw[List.cons_append,agl]at tt;have G5:=HA tt [.cells (ca y).cells] (by rw[b1];exact b2) (by kernel_rfl) (λb h' hh=>hh.1);refine B4 (k:=k) (x:=ca y) rfl rfl (by kernel_rfl) (by kernel_rfl) rfl rfl ?_;refine G5.mono λb h' hh=> ?_;obtain⟨h3,⟨⟨r1,r3⟩,r4⟩,rfl⟩:=hh;refine bN rfl ?_;refine cp (x:= .d (.v (.bool (!b)))) (by kernel_rfl) rfl rfl ?_;refine cT ?_;have u1:h3.length=h.length:=by rw[r1,b1]
     have u2:h3.all (aj.aA h.length)=true:=by rw[b1]at r3;exact r3
     cases b with
     |false=>
      refine nP (by kernel_rfl) ?_;refine e7 ?_
      repeat (first|(with_reducible refine hY ?_)|(with_reducible refine je ?_))
      exact y9 u1 u2 ⟨rfl,false,r4.1⟩
     |true=>
      refine nO (by kernel_rfl) ?_;refine gQ ?_;refine mA ?_;refine cT ?_;simp only[cond_true]at r4;refine er ?_;refine bN rfl ?_;refine cp (x:= .d (.v (.int .i64 ((j+1:Nat):Int)))) (by
       show some ((.d (.v (.int .i64 (aN ((j:Int)+1)))):J),HD.same)=_;have:=bk kA rfl Z5;unfold an at this;rw[this]) rfl rfl ?_
      refine bN rfl ?_;refine cp (x:= .d (.v (.int .i64 ((j+1:Nat):Int)))) (by kernel_rfl) rfl rfl ?_;refine cT ?_;refine⟨?_,(j+1,r2,h3),?_,⟨pL kA,⟨u1,u2⟩,r4⟩,agI _⟩
      ·rw[<-u1];exact yO _ (by rw[u1];exact u2) (by
         show(((J.cm k).aS h3.length).aA h3.length&&(true&&(true&&(true&&(true&&(true&&(true&&true)))))))=true;rw[u1,CF hk];rfl)
      ·rw[<-u1];exact Bh _ (by rw[u1];exact u2)
theorem Xr(v1:ao):gj Tryz.prog 168 [(aO v1)] (·= .fn 197 [.aY [dF v1] 0 0]):=by
 refine Px (r:= .fn 197 [(.ptr 0 0)]) (h:=[.cells (aO v1).cells]) ?_ (by kernel_rfl) rfl;refine Ap 1 Tryz.func168 rfl (by kernel_rfl) (af3 rfl) ?_;refine xI (s':=⟨4,[(0,(aO v1))],[]⟩) (by kernel_rfl) ?_;refine bA ?_;refine rg [] [(1,(.ptr 0 0))] [.cells (aO v1).cells] (by kernel_rfl) ?_;refine bA ?_;refine rg [] [(2,(.fn 197 [(.ptr 0 0)]))] [.cells (aO v1).cells] (by kernel_rfl) ?_;refine e7 ?_;exact zW (by kernel_rfl)
theorem Xi(v1:ao):gj Tryz.prog 204 [(aO v1)] (·= .fn 241 [.aY [dF v1] 0 0]):=by
 refine Px (r:= .fn 241 [(.ptr 0 0)]) (h:=[.cells (aO v1).cells]) ?_ (by kernel_rfl) rfl;refine Ap 1 Tryz.func204 rfl (by kernel_rfl) (af3 rfl) ?_;refine xI (s':=⟨4,[(0,(aO v1))],[]⟩) (by kernel_rfl) ?_;refine bA ?_;refine rg [] [(1,(.ptr 0 0))] [.cells (aO v1).cells] (by kernel_rfl) ?_;refine bA ?_;refine rg [] [(2,(.fn 241 [(.ptr 0 0)]))] [.cells (aO v1).cells] (by kernel_rfl) ?_;refine e7 ?_;exact zW (by kernel_rfl)
end Go.Proofs.YtmkmibahjanejaaGreatDoor
namespace Go.Proofs.YtmkmibahjanejaaGreatDoor
open Go.RowKit Go.Shelf
set_option maxRecDepth 100000
def Ux:Ren where
 f:=fun
  |157=>195
  |229=>228
  |199=>229
  |261=>254
  |311=>269
  |312=>270
  |n=>n
 t:=fun
  |9=>9
  |31=>22
  |3=>3
  |5=>5
  |4=>4
  |119=>252
  |0=>0
  |40=>175
  |152=>264
  |21=>21
  |154=>266
  |51=>204
  |141=>268
  |196=>283
  |193=>280
  |198=>286
  |49=>284
  |194=>281
  |201=>289
  |226=>293
  |46=>165
  |227=>294
  |n=>n
 g:=fun
  |0=>1
  |6=>4
  |n=>n
def lz:agK agL:=[bs [115,105,122,101],bs [119,104,101,114,101],bs [105,110],bs [100,101,102],bs [111,117,116],bs [115,117,109],bs [112,114,111,100],bs [109,105,110],bs [109,97,120],bs [115,99,97,110],bs [111,118,101,114],bs [105,102],bs [99,97,115,116],bs [102,114,97,99],bs [105,110,116],bs [102,105,120],bs [99,101,105,108],bs [102,108,111,111,114],bs [122,101,114,111],bs [101,118,101,110],bs [115,97,116],bs [119,114,97,112]]
theorem afi:Lays.n157 Tryz.prog Ux:=by
 constructor<;>first|kernel_rfl|(intro w;rfl)
def ye:agL:=⟨#[115,105,122,101,32,119,104,101,114,101,32,105,110,32,100,101,102,32,111,117,116,32,115,117,109,32,112,114,111,100,32,109,105,110,32,109,97,120,32,115,99,97,110,32,111,118,101,114,32,105,102,32,99,97,115,116,32,102,114,97,99,32,105,110,116,32,102,105,120,32,99,101,105,108,32,102,108,111,111,114,32,122,101,114,111,32,101,118,101,110,32,115,97,116,32,119,114,97,112]⟩
theorem Wi(w:agP)(hT:∀c:Nat,c<256->w.cell? ⟨1,c,none⟩=some (.int .u8 (if Lib.isSp (UInt8.ofNat c)then 1 else 0))):
 Calls Tryz.prog 195 #[.string ye] w λe w'=>e= .returned (.slice (some ⟨w.heap.size,0,none⟩) 22 22)/\w'=w.alloc (.cells (lz.map Value.string).toArray 9):=by
 have ha:(ye.data.toList.all λb=>decide (b.toNat<128))=true:=by kernel_rfl
 have h:=Any.strings_Fields_core afi (by kernel_rfl) ye w (of_decide_eq_true (by kernel_rfl)) (λj b hb=>of_decide_eq_true (agm.1 ha b (af8 hb))) hT;have e1:(Lib.fields ye.data.toList).length=22:=by kernel_rfl
 have e2:((Lib.fields ye.data.toList).map λl=>Value.string ⟨l.toArray⟩)=lz.map Value.string:=by kernel_rfl
 rw[e1,e2]at h;exact h
theorem adu(w:agP)(hT:∀c:Nat,c<256->w.cell? ⟨1,c,none⟩=some (.int .u8 (if Lib.isSp (UInt8.ofNat c)then 1 else 0))):
 Calls Tryz.prog 165 #[] w λe w'=>e= .returned (.slice (some ⟨w.heap.size,0,none⟩) 22 22)/\w'=w.alloc (.cells (lz.map Value.string).toArray 9):=by
 go_enter Tryz.func165,Tryz.ntmps165
 go_wp2_with (go_at_call 195;refine(Wi _ hT).mono ?_;rintro e w' ⟨rfl,rfl⟩)
 go_ret
 exact⟨rfl,rfl⟩
theorem Xs:∀c:Nat,c<256->(mm xk)[c]?=some (.int .u8 (if Lib.isSp (UInt8.ofNat c)then 1 else 0)):=λc hc=>by
 rw[show mm xk=(List.range 256).map λc=>Value.int .u8 (if Lib.isSp (UInt8.ofNat c)then 1 else 0) by kernel_rfl,af2,List.getElem?_range hc];rfl
theorem abj:gj Tryz.prog 165 [] (·= .d (.sl (bD lz))):=by
 refine⟨by kernel_rfl,λG w vs hi hl hr=> ?_⟩;obtain rfl:vs= #[]:=Array.size_eq_zero_iff.1 hl;refine(adu w λc hc=> ?_).mono λe w' hp=> ?_
 ·exact(hi.gl.1 1 (mm xk) af1 c _ (Xs c hc)).2
 ·obtain⟨rfl,rfl⟩:=hp;obtain⟨i1,i2⟩:=Mi hi (.cells (lz.map Value.string).toArray 9) 22;have w7:Rd (G.qE w.heap.size 22).S (w.alloc (.cells (lz.map Value.string).toArray 9)) 1 (bD lz) (lz.map Value.string):=
   ⟨rfl,λx hx=>(by obtain⟨y,_,rfl⟩:=List.mem_map.1 hx;rfl),λu hu=>(by obtain⟨y,_,rfl⟩:=List.mem_map.1 hu;rfl),λi j x d hx hd=>by
    rw[nE,af2]at hx;cases hk:lz[i]? with
    |none=>rw[hk]at hx;cases hx
    |some y=>
     rw[hk]at hx;cases hx;cases j with
     |zero=>cases hd;exact⟨.string y,by rw[Nat.mul_one,Nat.add_zero,af2,hk];rfl, .v _⟩
     |succ j=>cases hd⟩
  have hp:=w7.Fa w.heap.size 22 (by decide) (by decide) (λo ho=> .inr ⟨rfl,ho⟩) (λo u hu=>by
   rw[World.cell?_alloc_new,List.getElem?_toArray];exact hu)
  exact⟨_,_,_,_,rfl,i1,af6 _,i2, .d hp,rfl,rfl⟩
end Go.Proofs.YtmkmibahjanejaaGreatDoor
namespace Go.Proofs.YtmkmibahjanejaaGreatDoor
open Go.RowKit
set_option maxRecDepth 1000000
end Go.Proofs.YtmkmibahjanejaaGreatDoor
