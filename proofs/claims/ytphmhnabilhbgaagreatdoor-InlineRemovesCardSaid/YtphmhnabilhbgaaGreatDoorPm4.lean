/-
  Part 4 of the proof: AbsDat, IterE, KwS, AbsKern, Clones, ClonesV, Grows.
-/
import Derived.Test.YtphmhnabilhbgaaGreatDoorPm3
import Derived.Test.YtphmhnabilhbgaaGreatDoorProg
import Derived.WalkKit
import Derived.Shelf.Strings.Fields
import Derived.KernelRfl
namespace Go.Proofs.YtphmhnabilhbgaaGreatDoor
open Go.RowKit
set_option linter.unusedVariables false
def dZ(x:agV):agU D:=[.v (.string x)]
def aB(l:agU agV):agU (agU D):=l.map dZ
theorem k9(l:agU agV):aB l=l.map dZ:=rfl
theorem dz{l:agU agV}:(aB l).length=l.length:=by rw[k9,aga]
theorem m5{l:agU agV}{k:Nat}{x:agV}(h:l[k]?=some x):(aB l)[k]?=some (dZ x):=by rw[k9,agc,h];rfl
theorem abp{a b:agU agV}:aB a++aB b=aB (a++b):=by rw[k9,k9,k9,List.map_append]
theorem wO{l:agU agV}:∀c∈aB l,c.length=1:=by
 intro c hc;rw[k9]at hc;obtain⟨x,_,rfl⟩:=List.mem_map.1 hc;rfl
theorem Vc{l:agU agV}{k n:Nat}:((aB l).take n).drop k=aB ((l.take n).drop k):=by rw[k9,k9,List.map_drop,List.map_take]
def LV(x:Int):agU D:=[.v (.int .i64 x)]
def nw(l:agU Int):agU (agU D):=l.map LV
theorem Ph(l:agU Int):nw l=l.map LV:=rfl
theorem xJ{l:agU Int}:(nw l).length=l.length:=by rw[Ph,aga]
theorem J9{l:agU Int}{k:Nat}{x:Int}(h:l[k]?=some x):(nw l)[k]?=some (LV x):=by rw[Ph,agc,h];rfl
structure aF where
 aq:ByteArray
 cZ:Int64
def y9(x:aF):agU D:=[.v (.string x.aq), .v (.int .i64 x.cZ.toInt)]
def mh(x:aF):AV:= .agg [.d (.v (.string x.aq)), .d (.v (.int .i64 x.cZ.toInt))]
structure bn where
 bW:Int
 ca:Int
 cF:Int
 cE:Int
 cJ:Int
def Db(x:bn):agU D:=[.v (.int .i64 x.bW), .v (.int .i64 x.ca), .v (.int .i64 x.cF), .v (.int .i64 x.cE), .v (.int .i64 x.cJ)]
def gO(x:bn):AV:= .agg [.d (.v (.int .i64 x.bW)), .d (.v (.int .i64 x.ca)), .d (.v (.int .i64 x.cF)), .d (.v (.int .i64 x.cE)), .d (.v (.int .i64 x.cJ))]
structure fO where
 xN:Int64
 xD:Int64
def Xz(x:fO):agU D:=[.v (.int .i64 x.xN.toInt), .v (.int .i64 x.xD.toInt)]
def w5(x:fO):AV:= .agg [.d (.v (.int .i64 x.xN.toInt)), .d (.v (.int .i64 x.xD.toInt))]
def bJ(l:agU aF):agU (agU D):=l.map y9
theorem o8(l:agU aF):bJ l=l.map y9:=rfl
theorem cS{l:agU aF}:(bJ l).length=l.length:=by rw[o8,aga]
theorem gV{l:agU aF}{k:Nat}{x:aF}(h:l[k]?=some x):(bJ l)[k]?=some (y9 x):=by rw[o8,agc,h];rfl
theorem Qb{a b:agU aF}:bJ a++bJ b=bJ (a++b):=by rw[o8,o8,o8,List.map_append]
theorem pC{l:agU aF}:∀c∈bJ l,c.length=2:=by
 intro c hc;rw[o8]at hc;obtain⟨x,_,rfl⟩:=List.mem_map.1 hc;rfl
theorem Gm{l:agU aF}{k:Nat}:(bJ l).drop k=bJ (l.drop k):=by rw[o8,o8,List.map_drop]
def kP(l:agU bn):agU (agU D):=l.map Db
theorem wG(l:agU bn):kP l=l.map Db:=rfl
theorem ky{l:agU bn}:(kP l).length=l.length:=by rw[wG,aga]
theorem p8{l:agU bn}{k:Nat}{x:bn}(h:l[k]?=some x):(kP l)[k]?=some (Db x):=by rw[wG,agc,h];rfl
theorem VI{a b:agU bn}:kP a++kP b=kP (a++b):=by rw[wG,wG,wG,List.map_append]
theorem Tw{l:agU bn}:∀c∈kP l,c.length=5:=by
 intro c hc;rw[wG]at hc;obtain⟨x,_,rfl⟩:=List.mem_map.1 hc;rfl
structure aw where
 xK:Int64
 xL:List aF
def ki(x:aw):agU D:=[.v (.int .i64 x.xK.toInt), .sl (bJ x.xL)]
def bY(x:aw):AV:= .agg [.d (.v (.int .i64 x.xK.toInt)), .d (.sl (bJ x.xL))]
structure cv where
 aL:aw
 gK:Bool
def Ak(x:cv):agU D:=[.v (.int .i64 x.aL.xK.toInt), .sl (bJ x.aL.xL), .v (.bool x.gK)]
def lV(x:cv):AV:= .agg [.d (.v (.int .i64 x.aL.xK.toInt)), .d (.sl (bJ x.aL.xL)), .d (.v (.bool x.gK))]
structure bf where
 aq:ByteArray
 ep:aw
def zy(x:bf):agU D:=[.v (.string x.aq), .v (.int .i64 x.ep.xK.toInt), .sl (bJ x.ep.xL)]
def pM(x:bf):AV:= .agg [.d (.v (.string x.aq)), .d (.v (.int .i64 x.ep.xK.toInt)), .d (.sl (bJ x.ep.xL))]
def bw(l:agU cv):agU (agU D):=l.map Ak
theorem tI(l:agU cv):bw l=l.map Ak:=rfl
theorem fv{l:agU cv}:(bw l).length=l.length:=by rw[tI,aga]
theorem AT{l:agU cv}{k:Nat}{x:cv}(h:l[k]?=some x):(bw l)[k]?=some (Ak x):=by rw[tI,agc,h];rfl
theorem aeu{a b:agU cv}:bw a++bw b=bw (a++b):=by rw[tI,tI,tI,List.map_append]
theorem UI{l:agU cv}:∀c∈bw l,c.length=3:=by
 intro c hc;rw[tI]at hc;obtain⟨x,_,rfl⟩:=List.mem_map.1 hc;rfl
def cH(l:agU aw):agU (agU D):=l.map ki
theorem pN(l:agU aw):cH l=l.map ki:=rfl
theorem cd{l:agU aw}:(cH l).length=l.length:=by rw[pN,aga]
theorem ku{l:agU aw}{k:Nat}{x:aw}(h:l[k]?=some x):(cH l)[k]?=some (ki x):=by rw[pN,agc,h];rfl
theorem J2{a b:agU aw}:cH a++cH b=cH (a++b):=by rw[pN,pN,pN,List.map_append]
theorem tF{l:agU aw}:∀c∈cH l,c.length=2:=by
 intro c hc;rw[pN]at hc;obtain⟨x,_,rfl⟩:=List.mem_map.1 hc;rfl
def cm(l:agU bf):agU (agU D):=l.map zy
theorem tL(l:agU bf):cm l=l.map zy:=rfl
theorem cK{l:agU bf}:(cm l).length=l.length:=by rw[tL,aga]
theorem rB{l:agU bf}{k:Nat}{x:bf}(h:l[k]?=some x):(cm l)[k]?=some (zy x):=by rw[tL,agc,h];rfl
theorem Lx{a b:agU bf}:cm a++cm b=cm (a++b):=by rw[tL,tL,tL,List.map_append]
theorem uq{l:agU bf}:∀c∈cm l,c.length=3:=by
 intro c hc;rw[tL]at hc;obtain⟨x,_,rfl⟩:=List.mem_map.1 hc;rfl
def HG(x:agU bf):agU D:=[.sl (cm x)]
def pD(l:agU (agU bf)):agU (agU D):=l.map HG
theorem PH(l:agU (agU bf)):pD l=l.map HG:=rfl
theorem FN{l:agU (agU bf)}:(pD l).length=l.length:=by rw[PH,aga]
theorem QE{l:agU (agU bf)}{k:Nat}{x:(agU bf)}(h:l[k]?=some x):(pD l)[k]?=some (HG x):=by rw[PH,agc,h];rfl
structure bN where
 aq:ByteArray
 aC:bn
 aS:List aw
def zH(x:bN):agU D:=[.v (.string x.aq), .v (.int .i64 x.aC.bW), .v (.int .i64 x.aC.ca), .v (.int .i64 x.aC.cF), .v (.int .i64 x.aC.cE), .v (.int .i64 x.aC.cJ), .sl (cH x.aS)]
def lC(x:bN):AV:= .agg [.d (.v (.string x.aq)), .d (.v (.int .i64 x.aC.bW)), .d (.v (.int .i64 x.aC.ca)), .d (.v (.int .i64 x.aC.cF)), .d (.v (.int .i64 x.aC.cE)), .d (.v (.int .i64 x.aC.cJ)), .d (.sl (cH x.aS))]
structure az where
 aL:aw
 aV:ByteArray
 bj:List aw
def fk(x:az):agU D:=[.v (.int .i64 x.aL.xK.toInt), .sl (bJ x.aL.xL), .v (.string x.aV), .sl (cH x.bj)]
def eC(x:az):AV:= .agg [.d (.v (.int .i64 x.aL.xK.toInt)), .d (.sl (bJ x.aL.xL)), .d (.v (.string x.aV)), .d (.sl (cH x.bj))]
def bx(l:agU bN):agU (agU D):=l.map zH
theorem ve(l:agU bN):bx l=l.map zH:=rfl
theorem e9{l:agU bN}:(bx l).length=l.length:=by rw[ve,aga]
theorem s5{l:agU bN}{k:Nat}{x:bN}(h:l[k]?=some x):(bx l)[k]?=some (zH x):=by rw[ve,agc,h];rfl
theorem acD{a b:agU bN}:bx a++bx b=bx (a++b):=by rw[ve,ve,ve,List.map_append]
theorem Sy{l:agU bN}:∀c∈bx l,c.length=7:=by
 intro c hc;rw[ve]at hc;obtain⟨x,_,rfl⟩:=List.mem_map.1 hc;rfl
def bC(l:agU az):agU (agU D):=l.map fk
theorem pa(l:agU az):bC l=l.map fk:=rfl
theorem cW{l:agU az}:(bC l).length=l.length:=by rw[pa,aga]
theorem ik{l:agU az}{k:Nat}{x:az}(h:l[k]?=some x):(bC l)[k]?=some (fk x):=by rw[pa,agc,h];rfl
theorem On{a b:agU az}:bC a++bC b=bC (a++b):=by rw[pa,pa,pa,List.map_append]
theorem A4{l:agU az}:∀c∈bC l,c.length=4:=by
 intro c hc;rw[pa]at hc;obtain⟨x,_,rfl⟩:=List.mem_map.1 hc;rfl
structure ar where
 aQ:Int
 aq:ByteArray
 dm:fO
 aC:bn
 aL:aw
 xIdx:List az
 a7:List ar
mutual
def Lb:ar→agU D
 |⟨aQ,aq,dm,aC,aL,xIdx,a7⟩=>[.v (.int .i64 aQ), .v (.string aq), .v (.int .i64 dm.xN.toInt), .v (.int .i64 dm.xD.toInt), .v (.int .i64 aC.bW), .v (.int .i64 aC.ca), .v (.int .i64 aC.cF), .v (.int .i64 aC.cE), .v (.int .i64 aC.cJ), .v (.int .i64 aL.xK.toInt), .sl (bJ aL.xL), .sl (bC xIdx), .sl (cQ a7)]
def cQ:agU ar→agU (agU D)
 |[]=>[]
 |x::l=>Lb x::cQ l
end
def cB(x:ar):agU D:=[.v (.int .i64 x.aQ), .v (.string x.aq), .v (.int .i64 x.dm.xN.toInt), .v (.int .i64 x.dm.xD.toInt), .v (.int .i64 x.aC.bW), .v (.int .i64 x.aC.ca), .v (.int .i64 x.aC.cF), .v (.int .i64 x.aC.cE), .v (.int .i64 x.aC.cJ), .v (.int .i64 x.aL.xK.toInt), .sl (bJ x.aL.xL), .sl (bC x.xIdx), .sl (cQ x.a7)]
theorem aau(x:ar):Lb x=cB x:=by cases x;simp only[Lb];rfl
theorem lf:∀l:agU ar,cQ l=l.map cB
 |[]=>by simp [cQ]
 |x::l=>by simp [cQ,aau,lf l]
theorem da{l:agU ar}:(cQ l).length=l.length:=by rw[lf,aga]
theorem lh{l:agU ar}{k:Nat}{x:ar}(h:l[k]?=some x):(cQ l)[k]?=some (cB x):=by rw[lf,agc,h];rfl
theorem MQ{a b:agU ar}:cQ a++cQ b=cQ (a++b):=by rw[lf,lf,lf,List.map_append]
theorem AD{l:agU ar}:∀c∈cQ l,c.length=13:=by
 intro c hc;rw[lf]at hc;obtain⟨x,_,rfl⟩:=List.mem_map.1 hc;rfl
def aD(x:ar):AV:= .agg [.d (.v (.int .i64 x.aQ)), .d (.v (.string x.aq)), .d (.v (.int .i64 x.dm.xN.toInt)), .d (.v (.int .i64 x.dm.xD.toInt)), .d (.v (.int .i64 x.aC.bW)), .d (.v (.int .i64 x.aC.ca)), .d (.v (.int .i64 x.aC.cF)), .d (.v (.int .i64 x.aC.cE)), .d (.v (.int .i64 x.aC.cJ)), .d (.v (.int .i64 x.aL.xK.toInt)), .d (.sl (bJ x.aL.xL)), .d (.sl (bC x.xIdx)), .d (.sl (cQ x.a7))]
structure aG where
 aq:ByteArray
 aC:bn
 aS:List bf
 bI:List bf
 cG:Int
 bq:ar
def b6(x:aG):agU D:=[.v (.string x.aq), .v (.int .i64 x.aC.bW), .v (.int .i64 x.aC.ca), .v (.int .i64 x.aC.cF), .v (.int .i64 x.aC.cE), .v (.int .i64 x.aC.cJ), .sl (cm x.aS), .sl (cm x.bI), .v (.int .i64 x.cG), .v (.int .i64 x.bq.aQ), .v (.string x.bq.aq), .v (.int .i64 x.bq.dm.xN.toInt), .v (.int .i64 x.bq.dm.xD.toInt), .v (.int .i64 x.bq.aC.bW), .v (.int .i64 x.bq.aC.ca), .v (.int .i64 x.bq.aC.cF), .v (.int .i64 x.bq.aC.cE), .v (.int .i64 x.bq.aC.cJ), .v (.int .i64 x.bq.aL.xK.toInt), .sl (bJ x.bq.aL.xL), .sl (bC x.bq.xIdx), .sl (cQ x.bq.a7)]
def cp(x:aG):AV:= .agg [.d (.v (.string x.aq)), .d (.v (.int .i64 x.aC.bW)), .d (.v (.int .i64 x.aC.ca)), .d (.v (.int .i64 x.aC.cF)), .d (.v (.int .i64 x.aC.cE)), .d (.v (.int .i64 x.aC.cJ)), .d (.sl (cm x.aS)), .d (.sl (cm x.bI)), .d (.v (.int .i64 x.cG)), .d (.v (.int .i64 x.bq.aQ)), .d (.v (.string x.bq.aq)), .d (.v (.int .i64 x.bq.dm.xN.toInt)), .d (.v (.int .i64 x.bq.dm.xD.toInt)), .d (.v (.int .i64 x.bq.aC.bW)), .d (.v (.int .i64 x.bq.aC.ca)), .d (.v (.int .i64 x.bq.aC.cF)), .d (.v (.int .i64 x.bq.aC.cE)), .d (.v (.int .i64 x.bq.aC.cJ)), .d (.v (.int .i64 x.bq.aL.xK.toInt)), .d (.sl (bJ x.bq.aL.xL)), .d (.sl (bC x.bq.xIdx)), .d (.sl (cQ x.bq.a7))]
structure jV where
 VW:List bf
 N1:List az
def bP(l:agU aG):agU (agU D):=l.map b6
theorem me(l:agU aG):bP l=l.map b6:=rfl
theorem eI{l:agU aG}:(bP l).length=l.length:=by rw[me,aga]
theorem gP{l:agU aG}{k:Nat}{x:aG}(h:l[k]?=some x):(bP l)[k]?=some (b6 x):=by rw[me,agc,h];rfl
theorem Oh{l:agU aG}:∀c∈bP l,c.length=22:=by
 intro c hc;rw[me]at hc;obtain⟨x,_,rfl⟩:=List.mem_map.1 hc;rfl
theorem Yl{l:agU aG}{k n:Nat}:((bP l).take n).drop k=bP ((l.take n).drop k):=by rw[me,me,List.map_drop,List.map_take]
structure aY where
 bu:List ByteArray
 cM:List cv
 bk:List bN
 ay:List aG
 cu:List ByteArray
def aex(x:aY):agU D:=[.sl (aB x.bu), .sl (bw x.cM), .sl (bx x.bk), .sl (bP x.ay), .sl (aB x.cu)]
def aZ(x:aY):AV:= .agg [.d (.sl (aB x.bu)), .d (.sl (bw x.cM)), .d (.sl (bx x.bk)), .d (.sl (bP x.ay)), .d (.sl (aB x.cu))]
def bp(s:agV):AV:= .d (.v (.string s))
def ao(n:Int):AV:= .d (.v (.int .i64 n))
def bt(n:Int64):AV:= .d (.v (.int .i64 n.toInt))
def aU(b:Bool):AV:= .d (.v (.bool b))
abbrev a8(n:Int):Int:=IntKind.i64.wrap n
theorem yn(a:Int):IntKind.i64.wrap a=a.bmod (2^64):=by
 rw[IntKind.wrap_i64,Int.bmod_def];omega
theorem BA(a:Int):ao (a8 a)=bt (Int64.ofInt a):=by
 unfold ao bt a8;rw[yn,Int64.toInt_ofInt]
theorem QC(a b:Int64):ao (a8 (a.toInt+b.toInt))=bt (a+b):=by
 unfold ao bt a8;rw[yn,Int64.toInt_add]
theorem NO(a b:Int64):ao (a8 (a.toInt-b.toInt))=bt (a-b):=by
 unfold ao bt a8;rw[yn,Int64.toInt_sub]
theorem ZP(a b:Int64):ao (a8 (a.toInt*b.toInt))=bt (a*b):=by
 unfold ao bt a8;rw[yn,Int64.toInt_mul]
theorem Yx(a:Int64):ao (a8 (0-a.toInt))=bt (-a):=by
 unfold ao bt a8;rw[yn,Int64.toInt_neg,Int.zero_sub]
theorem cx{α:Type}{l:agU α}{k:Nat}{x:α}{xs:agU α}{n:Nat}(hd:l.drop k=x::xs)(hn:l.length=n)(hl:n≤maxLen):ao (a8 ((k:Int)+1))=ao ((k+1:Nat):Int):=by
 have:(l.drop k).length=(x::xs).length:=by rw[hd]
 rw[List.length_drop,af8]at this;have h1:k<maxLen:=by omega
 unfold maxLen at h1;have e:IntKind.i64.wrap ((k:Int)+1)=((k+1:Nat):Int):=by rw[IntKind.wrap_i64];omega
 unfold ao a8;rw[e]
theorem bS{α:Type}{l:agU α}{k:Nat}{x:α}{xs:agU α}(hd:l.drop k=x::xs):l[k]?=some x:=by
 have:(l.drop k)[0]?=some x:=by rw[hd];rfl
 rwa [List.getElem?_drop]at this
theorem ct{α:Type}{l:agU α}{k:Nat}{x:α}{xs:agU α}(hd:l.drop k=x::xs):l.drop (k+1)=xs:=by
 rw[←List.drop_drop,hd];rfl
theorem cf{α:Type}{l:agU α}{k:Nat}{x:α}{xs:agU α}(hd:l.drop k=x::xs):decide ((k:Int)<(l.length:Int))=true:=by
 have:(l.drop k).length=(x::xs).length:=by rw[hd]
 rw[List.length_drop,af8]at this;exact agN (by omega)
theorem ck{α:Type}{l:agU α}{k:Nat}(hd:l.drop k=[]):decide ((k:Int)<(l.length:Int))=false:=by
 have:=List.drop_eq_nil_iff.1 hd;exact agO (by omega)
theorem dQ{n dc:Nat}(h:Nat.ble (n*dc) 140737488355328=true)(hb:1≤dc):n≤maxLen∧n*dc≤140737488355328:=by
 have h:=agd h;refine⟨?_,h⟩;unfold maxLen;have:=Nat.le_mul_of_pos_right n hb;omega
theorem ak:Tryz.prog.follows .mixedOrders=true:=by kernel_rfl
set_option maxRecDepth 100000
set_option maxHeartbeats 0
def zx(a b:Int64):Int64:=if b.toInt>a.toInt then b else a
theorem aes(a b:Int64):(if b.toInt>a.toInt then b.toInt else a.toInt)=(zx a b).toInt:=by unfold zx;split<;>rfl
mutual
def KT:ar→agU ar
 |⟨o,n,v,t,l,i,xs⟩=>⟨o,n,v,t,l,i,xs⟩::jE xs
def jE:agU ar→agU ar
 |[]=>[]
 |x::l=>KT x++jE l
end
def dd(e:ar):agU ar:=e::jE e.a7
theorem aeJ(e:ar):KT e=dd e:=by cases e;simp only[KT];rfl
theorem xb(x:ar)(l:agU ar):jE (x::l)=dd x++jE l:=by rw[jE,aeJ]
theorem Mc{P:agX}{k:Nat}:∀(l:agU AV){C:Bool→agU an→Prop}{h:agU an},h.all (an.aO h.length)=true→la P k l C h→la P k l (fun b h1=>C b h1∧qE h h1) h
 |[],_,_,hl,hs=>⟨hs,rfl,hl⟩
 |x::l,C,h,hl,hs=>YS.mono hs fun b h1 ⟨h2,h3⟩=>⟨h2,by
  cases b with
  |true=>exact Qv l (fun b h4 ⟨h5,h6,h7⟩=>⟨h5,by rw[h6,h2.1],by rw[h2.1]at h7;exact h7⟩) (Mc l (by rw[h2.1];exact h2.2) h3)
  |false=>exact⟨h3,h2⟩⟩
def Fi(e:ar):Prop:=∀(k:Nat)(h:agU an)(C:Bool→agU an→Prop),h.all (an.aO h.length)=true→k<h.length→la Tryz.prog k ((dd e).map aD) C h→bD Tryz.prog 71 [aD e, .c7 k] h fun r h1=>∃b,r= .d (.v (.bool b))∧C b h1∧qE h h1
theorem Uf{P:agX}{fn:Func}{n:Nat}{t:agU (Nat×AV)}{H h1 l:agU an}{K:AV→agU an→Prop}(k1:h1.length=H.length)(k2:h1.all (an.aO H.length)=true)(hr:kY P ⟨n,t,h1++l⟩ fn.results.toList fun rs=>((ja rs).bz h1.length).aO h1.length=true∧K ((ja rs).bz h1.length) h1):n7 P fn H.length K ⟨n,t,h1++l⟩:=by
 rw[←k1]at k2 ⊢;exact Va k2 hr
theorem Cp{P:agX}{fn:Func}{n:Nat}{t:agU (Nat×AV)}{H h1 l:agU an}{K:AV→agU an→Prop}(k1:h1.length=H.length)(k2:h1.all (an.aO H.length)=true)(hr:kY P ⟨n,t,h1++l⟩ fn.results.toList fun rs=>((ja rs).bz h1.length).aO h1.length=true∧K ((ja rs).bz h1.length) h1):Eh P fn H.length K .ret ⟨n,t,h1++l⟩:=Uf k1 k2 hr
theorem abN(e:ar)(tZ:∀x∈e.a7,Fi x):Fi e:=by
 intro k h C mF hk hs;refine vO h.length Tryz.func71 rfl (by kernel_rfl) (agh _) ?_
 suffices hA:bB Tryz.prog none h.length _ _ ⟨23,[(0,aD e),(1, .c7 k)],h++[]⟩ by rw[agr]at hA;exact hA
 repeat refine aP ?_
 refine e7 ?_;refine cq rfl ?_;refine Cq (Yu (l:=[]) (v:=aD e) rfl (by kernel_rfl)) rfl rfl De ?_;refine cq rfl ?_;refine db (x:= .d (.v (.bool false))) (by kernel_rfl) rfl rfl ?_;refine bX ?_
 repeat refine aP ?_
 refine e7 ?_;refine cq rfl ?_;refine db (x:= .c7 k) (by kernel_rfl) rfl rfl ?_;refine cq rfl ?_;refine db (xl (i:=0) (off:=0) (l:=[]++[.cells (aD e).cells]) (x:=aD e) (by kernel_rfl) rfl (by kernel_rfl)) rfl rfl ?_;refine cq rfl ?_;rw[dd,agv]at hs;have hy:=L5 (Mc (aD e::_) mF hs) [.cells (aD e).cells] mF (by kernel_rfl) (fun b h' hh=>hh.1);refine Fj (k:=k) (x:=aD e) rfl rfl (by kernel_rfl) (by kernel_rfl) rfl rfl ?_;refine hy.mono fun b h' hh=> ?_;obtain⟨h1,⟨⟨k1,k2⟩,k3⟩,rfl⟩:=hh;refine cq rfl ?_;refine db (x:= .d (.v (.bool (!b)))) (by kernel_rfl) rfl rfl ?_;refine bX ?_;cases b with
 |false=>
  refine lg (by kernel_rfl) ?_
  repeat refine aP ?_
  refine e7 ?_;refine cq rfl ?_;refine db (x:= .d (.v (.bool false))) (by kernel_rfl) rfl rfl ?_;refine bX ?_;refine dD (dW ?_);refine Cp k1 k2 ?_;exact⟨rfl,false,rfl,k3⟩
 |true=>
  refine kT (by kernel_rfl) ?_;refine eo ?_;refine bX ?_;simp only[cond_true]at k3
  repeat refine aP ?_
  refine e7 ?_;refine cq rfl ?_;refine db (x:= .ptr (h.length+0) 12) (by kernel_rfl) rfl rfl ?_;refine cq rfl ?_;refine db (xl (h:=h1) (i:=0) (off:=12) (l:=[.cells (aD e).cells]) (x:= .d (.sl (cQ e.a7))) (by rw[k1];rfl) rfl (by kernel_rfl)) rfl rfl ?_;refine cq rfl ?_;refine db (x:= .d (.v (.int .i64 (cQ e.a7).length))) (by kernel_rfl) rfl rfl ?_;refine cq rfl ?_;refine db (x:= .d (.v (.int .i64 0))) (by kernel_rfl) rfl rfl ?_;refine bX ?_;refine oJ 12 (cQ e.a7) (by kernel_rfl) fun b7=> ?_;have mK:e.a7.length≤maxLen:=by rw[←da];exact CF b7
  rw[da]
  repeat refine aP ?_
  refine fi ?_;refine J5 (ι:=Nat×agU ar×agU an) [1,12,13,14] h.length (fun i=>⟨23,[(1, .c7 k),(12, .d (.sl (cQ e.a7))),(13, .d (.v (.int .i64 e.a7.length))),(14, .d (.v (.int .i64 i.1)))],i.2.2⟩)
   (fun i=>e.a7.drop i.1=i.2.1∧qE h i.2.2∧la Tryz.prog k ((jE i.2.1).map aD) (fun b h2=>C b h2∧qE h h2) i.2.2) (fun i=>i.2.1.length) (0,e.a7,h1) (agh _) ?_ ?_ ⟨rfl,⟨k1,k2⟩,k3⟩ ?_
  ·rw[←k1];exact okMask_suffix _ (by rw[k1];exact k2) (by
     show(((AV.c7 k).bz h1.length).aO h1.length&&(true&&(true&&(true&&true))))=true;rw[k1];simp [AV.bz,AV.aO,b8];omega)
  ·rw[←k1];exact Bk _ (by rw[k1];exact k2)
  rintro⟨i,rest,hc⟩ ⟨hd,⟨c1,c2⟩,nr⟩;simp only at hd c1 c2 nr ⊢
  repeat refine aP ?_
  refine e7 ?_;refine cq rfl ?_;refine db (x:= .d (.v (.bool (decide ((i:Int)<(e.a7.length:Int)))))) (by kernel_rfl) rfl rfl ?_;refine bX ?_;refine aP ?_;cases rest with
  |nil=>
   rw[ck hd];refine kT (by kernel_rfl) ?_;refine lL (iU (iU (nb rfl ?_)));refine bX ?_
   repeat refine aP ?_
   refine e7 ?_;refine cq rfl ?_;rw[←agr hc];refine db (x:= .d (.v (.bool true))) (by kernel_rfl) rfl rfl ?_;refine bX ?_;refine dD ?_;refine Cp c1 c2 ?_;rw[jE,List.map_nil]at nr;exact⟨rfl,true,rfl,nr⟩
  |cons x rest=>
   rw[cf hd];refine lg (by kernel_rfl) ?_;refine eo ?_;refine bX ?_
   repeat refine aP ?_
   refine fi ?_
   repeat refine aP ?_
   refine e7 ?_;refine cq rfl ?_;rw[←agr hc];refine db (JG (q:=i) (e:=52) (k:=13) rfl rfl (by kernel_rfl) (lh (bS hd)) rfl) rfl rfl ?_;refine cq rfl ?_;refine db (x:=aD x) (by kernel_rfl) rfl rfl ?_;refine cq rfl ?_;refine Cq (Mq (l:=[]) (by kernel_rfl)) rfl rfl De ?_;refine cq rfl ?_;refine LF (I4 (i:=0) (off:=0) (k:=13) (l:=[_]) (v:=aD x) (bV:=(aD x).cells) (by kernel_rfl) rfl (by kernel_rfl) rfl (by kernel_rfl) (by kernel_rfl)) rfl Jg ?_;refine bX ?_
   repeat refine aP ?_
   refine e7 ?_;refine cq rfl ?_;refine db (xl (i:=0) (off:=0) (l:=[.cells (aD x).cells]) (x:=aD x) (by kernel_rfl) rfl (by kernel_rfl)) rfl rfl ?_;refine cq rfl ?_;refine db (x:= .c7 k) (by kernel_rfl) rfl rfl ?_;refine cq rfl ?_;rw[xb,List.map_append]at nr;have tu:=Si _ _ nr;have hw:=tZ x (agj (bS hd)) k hc _ (by rw[c1];exact c2) (by rw[c1];exact hk) tu;have IM:=YK hw [.cells (aD x).cells] (by rw[c1];exact c2) (by
    rw[c1];show((aD x).aO h.length&&((AV.c7 k).aO h.length&&true))=true;rw[show(aD x).aO h.length=true by kernel_rfl];simp [AV.aO,b8];omega) (fun r h' hh=>by
    obtain⟨b,rfl,_,q1,q2⟩:=hh;exact⟨q1,q2,rfl⟩)
   refine Pk (g:=71) (dy:=[]) rfl rfl rfl ?_;refine IM.mono fun r h' hh=> ?_;obtain⟨h2,⟨b,rfl,q0,q1,q2⟩,rfl⟩:=hh;refine cq rfl ?_;refine db (x:= .d (.v (.bool (!b)))) (by kernel_rfl) rfl rfl ?_;refine bX ?_;cases b with
   |false=>
    refine lg (by kernel_rfl) ?_
    repeat refine aP ?_
    refine e7 ?_;refine cq rfl ?_;refine db (x:= .d (.v (.bool false))) (by kernel_rfl) rfl rfl ?_;refine bX ?_;refine dD (ff (dW (dW (ff (dW ?_)))));refine Cp (h1:=h2) (by rw[q1,c1]) (by rw[c1]at q2;exact q2) ?_;exact⟨rfl,false,rfl,q0⟩
   |true=>
    refine kT (by kernel_rfl) ?_;refine eo ?_;refine ie ?_;refine bX ?_;simp only[cond_true]at q0;refine e7 ?_;refine cq rfl ?_;refine db (x:= .d (.v (.int .i64 ((i+1:Nat):Int)))) (by
     show some ((.d (.v (.int .i64 (a8 ((i:Int)+1)))):AV),HD.same)=_;have:=cx hd rfl mK;unfold ao at this;rw[this]) rfl rfl ?_
    refine cq rfl ?_;refine db (x:= .d (.v (.int .i64 ((i+1:Nat):Int)))) (by kernel_rfl) rfl rfl ?_;refine bX ?_;have e1:h2.length=h.length:=by rw[q1,c1]
    have e2:h2.all (an.aO h2.length)=true:=by rw[q1];exact q2
    refine⟨?_,(i+1,rest,h2),?_,⟨ct hd,⟨e1,by rw[←e1];exact e2⟩,q0⟩,agS _⟩
    ·rw[←e1];exact okMask_suffix _ e2 (by
       show(((AV.c7 k).bz h2.length).aO h2.length&&(true&&(true&&(true&&true))))=true;rw[e1];simp [AV.bz,AV.aO,b8];omega)
    ·rw[←e1];exact Bk _ e2
mutual
theorem QP:(e:ar)→Fi e
 |⟨_,_,_,_,_,_,xs⟩=>abN _ (MX xs)
theorem MX:(l:agU ar)→∀x∈l,Fi x
 |[],_,h=>absurd h agM
 |x::l,y,h=>(agA.1 h).elim (fun e=>e▸QP x) (MX l y)
end
theorem Ii{P:agX}{fn:Func}{n:Nat}{t:agU (Nat×AV)}{H h1:agU an}{K:AV→agU an→Prop}(k1:h1.length=H.length)(k2:h1.all (an.aO H.length)=true)(hr:kY P ⟨n,t,h1⟩ fn.results.toList fun rs=>((ja rs).bz h1.length).aO h1.length=true∧K ((ja rs).bz h1.length) h1):Eh P fn H.length K .normal ⟨n,t,h1⟩:=by
 have:=Uf (P:=P) (fn:=fn) (n:=n) (t:=t) (l:=[]) (K:=K) k1 k2;rw[agr]at this;exact this hr
theorem abA{P:agX}{fn:Func}{n:Nat}{t:agU (Nat×AV)}{H h1:agU an}{K:AV→agU an→Prop}(k1:h1.length=H.length)(k2:h1.all (an.aO H.length)=true)(hr:kY P ⟨n,t,h1⟩ fn.results.toList fun rs=>((ja rs).bz h1.length).aO h1.length=true∧K ((ja rs).bz h1.length) h1):Eh P fn H.length K .ret ⟨n,t,h1⟩:=Ii k1 k2 hr
theorem F7(e:ar):IE Tryz.prog 70 [.aW [cB e] 0 0] ((dd e).map aD):=by
 intro k h C mF hk hs;refine vO h.length Tryz.func70 rfl (by kernel_rfl) (agh _) ?_;show bB Tryz.prog none h.length _ _ ⟨6,[(0, .c7 k),(1, .aW [cB e] 0 0)],h⟩;refine e7 ?_;refine cq rfl ?_;refine db (x:=aD e) (by kernel_rfl) rfl rfl ?_;refine cq rfl ?_;refine db (x:= .c7 k) (by kernel_rfl) rfl rfl ?_;refine cq rfl ?_;refine Pk (g:=71) (dy:=[]) rfl rfl rfl ?_;refine(QP e k h C mF hk hs).mono fun r h' hh=> ?_;obtain⟨b,rfl,q0,q1,q2⟩:=hh;refine Ii (n:=6) (t:=[(5, .d (.v (.bool b))),(4, .c7 k),(3,aD e),(0, .c7 k),(1, .aW [cB e] 0 0)]) q1 q2 ?_;exact⟨rfl,b,q0⟩
def mV(x:az):agU aw:=x.aL::x.bj
def jU(e:ar):agU aw:=e.aL::e.xIdx.flatMap mV
theorem Wn(e:ar):IE Tryz.prog 238 [.aW [cB e] 0 0] ((jU e).map bY):=by
 intro k h C mF hk JP;have hs:=Mc _ mF JP;refine vO h.length Tryz.func238 rfl (by kernel_rfl) (agh _) ?_;show bB Tryz.prog none h.length _ _ ⟨37,[(0, .c7 k),(1, .aW [cB e] 0 0)],h⟩
 repeat refine aP ?_
 refine e7 ?_;refine cq rfl ?_;refine db (x:= .c7 k) (by kernel_rfl) rfl rfl ?_;refine cq rfl ?_;refine db (x:= .aW [cB e] 0 9) (by kernel_rfl) rfl rfl ?_;refine cq rfl ?_;refine db (x:=bY e.aL) (by kernel_rfl) rfl rfl ?_;refine cq rfl ?_;rw[jU,agv]at hs;refine Fj (k:=k) (x:=bY e.aL) rfl rfl (by kernel_rfl) (by kernel_rfl) rfl rfl ?_;refine YS.mono hs fun b h1 hh=> ?_;obtain⟨⟨k1,k2⟩,k3⟩:=hh;refine cq rfl ?_;refine db (x:= .d (.v (.bool (!b)))) (by kernel_rfl) rfl rfl ?_;refine bX ?_;cases b with
 |false=>
  refine lg (by kernel_rfl) ?_;refine dD (dW ?_);exact abA k1 k2 ⟨rfl,false,k3.1⟩
 |true=>
  refine kT (by kernel_rfl) ?_;refine eo ?_;refine bX ?_;simp only[cond_true]at k3
  repeat refine aP ?_
  refine e7 ?_;refine cq rfl ?_;refine db (x:= .aW [cB e] 0 11) (by kernel_rfl) rfl rfl ?_;refine cq rfl ?_;refine db (x:= .d (.sl (bC e.xIdx))) (by kernel_rfl) rfl rfl ?_;refine cq rfl ?_;refine db (x:= .d (.v (.int .i64 (bC e.xIdx).length))) (by kernel_rfl) rfl rfl ?_;refine cq rfl ?_;refine db (x:= .d (.v (.int .i64 0))) (by kernel_rfl) rfl rfl ?_;refine bX ?_;refine oJ 13 (bC e.xIdx) (by kernel_rfl) fun b7=> ?_;have mK:e.xIdx.length≤maxLen:=by rw[←cW];exact CF b7
  rw[cW];refine fi ?_;refine J5 (ι:=Nat×agU az×agU an) [0,13,14,15] h.length (fun i=>⟨37,[(0, .c7 k),(13, .d (.sl (bC e.xIdx))),(14, .d (.v (.int .i64 e.xIdx.length))),(15, .d (.v (.int .i64 i.1)))],i.2.2⟩)
    (fun i=>e.xIdx.drop i.1=i.2.1∧qE h i.2.2∧la Tryz.prog k ((i.2.1.flatMap mV).map bY) (fun b h2=>C b h2∧qE h h2) i.2.2) (fun i=>i.2.1.length) (0,e.xIdx,h1) (agh _) ?_ ?_ ⟨rfl,⟨k1,k2⟩,k3⟩ ?_
  ·rw[←k1];exact SU _ (by rw[k1];exact k2) (by
     show(((AV.c7 k).bz h1.length).aO h1.length&&(true&&(true&&(true&&true))))=true;rw[k1,DX hk];rfl)
  ·rw[←k1];exact SI _ (by rw[k1];exact k2)
  rintro⟨i,rest,hc⟩ ⟨hd,⟨c1,c2⟩,nr⟩;simp only at hd c1 c2 nr ⊢
  repeat refine aP ?_
  refine e7 ?_;refine cq rfl ?_;refine db (x:= .d (.v (.bool (decide ((i:Int)<(e.xIdx.length:Int)))))) (by kernel_rfl) rfl rfl ?_;refine bX ?_
  repeat refine aP ?_
  cases rest with
  |nil=>
   rw[ck hd];refine kT (by kernel_rfl) ?_;refine lL (iU (iU (nb rfl ?_)));rw[List.flatMap_nil,List.map_nil]at nr;exact Ii c1 c2 ⟨rfl,true,nr.1⟩
  |cons x rest=>
   rw[cf hd];refine lg (by kernel_rfl) ?_;refine eo ?_;refine bX ?_
   repeat refine aP ?_
   refine fi ?_
   repeat refine aP ?_
   refine e7 ?_;refine cq rfl ?_;rw[←agr hc];refine db (JG (q:=i) (e:=80) (k:=4) rfl rfl (by kernel_rfl) (ik (bS hd)) rfl) rfl rfl ?_;refine cq rfl ?_;refine db (x:=eC x) (by kernel_rfl) rfl rfl ?_;refine cq rfl ?_;refine Cq (Mq (l:=[]) (by kernel_rfl)) rfl rfl De ?_;refine cq rfl ?_;refine LF (I4 (i:=0) (off:=0) (k:=4) (l:=[_]) (v:=eC x) (bV:=(eC x).cells) (by kernel_rfl) rfl (by kernel_rfl) rfl (by kernel_rfl) (by kernel_rfl)) rfl Jg ?_;refine bX ?_
   repeat refine aP ?_
   refine e7 ?_;refine cq rfl ?_;refine db (x:= .c7 k) (by kernel_rfl) rfl rfl ?_;refine cq rfl ?_;refine db (x:= .ptr (hc.length+0) 0) (by kernel_rfl) rfl rfl ?_;refine cq rfl ?_;refine db (xl (i:=0) (off:=0) (l:=[.cells (eC x).cells]) (x:=bY x.aL) (by kernel_rfl) rfl (by kernel_rfl)) rfl rfl ?_;refine cq rfl ?_;rw[List.flatMap_cons,mV,List.cons_append,agv]at nr;have hy:=L5 nr [.cells (eC x).cells] (by rw[c1];exact c2) (by kernel_rfl) (fun b h' hh=>hh.1);refine Fj (k:=k) (x:=bY x.aL) rfl rfl (by kernel_rfl) (by kernel_rfl) rfl rfl ?_;refine hy.mono fun b h' hh=> ?_;obtain⟨h2,⟨⟨p1,p2⟩,p3⟩,rfl⟩:=hh;refine cq rfl ?_;refine db (x:= .d (.v (.bool (!b)))) (by kernel_rfl) rfl rfl ?_;refine bX ?_;have q1:h2.length=h.length:=by rw[p1,c1]
   have q2:h2.all (an.aO h.length)=true:=by rw[c1]at p2;exact p2
   cases b with
   |false=>
    refine lg (by kernel_rfl) ?_;refine dD ?_
    repeat (first|(with_reducible refine dW ?_)|(with_reducible refine ff ?_))
    exact Cp q1 q2 ⟨rfl,false,p3.1⟩
   |true=>
    refine kT (by kernel_rfl) ?_;refine eo ?_;refine bX ?_;simp only[cond_true]at p3
    repeat refine aP ?_
    refine e7 ?_;refine cq rfl ?_;refine db (x:= .ptr (hc.length+0) 3) (by kernel_rfl) rfl rfl ?_;refine cq rfl ?_;refine db (xl (h:=h2) (i:=0) (off:=3) (l:=[.cells (eC x).cells]) (x:= .d (.sl (cH x.bj))) (by rw[p1];rfl) rfl (by kernel_rfl)) rfl rfl ?_;refine cq rfl ?_;refine db (x:= .d (.v (.int .i64 (cH x.bj).length))) (by kernel_rfl) rfl rfl ?_;refine cq rfl ?_;refine db (x:= .d (.v (.int .i64 0))) (by kernel_rfl) rfl rfl ?_;refine bX ?_;refine oJ 25 (cH x.bj) (by kernel_rfl) fun acb=> ?_;have X6:x.bj.length≤maxLen:=by rw[←cd];exact CF acb
    rw[cd];refine fi ?_;refine J5 (ι:=Nat×agU aw×agU an) [0,13,14,15,25,26,27] h.length (fun j=>⟨37,[(0, .c7 k),(13, .d (.sl (bC e.xIdx))),(14, .d (.v (.int .i64 e.xIdx.length))),(15, .d (.v (.int .i64 i))),(25, .d (.sl (cH x.bj))),(26, .d (.v (.int .i64 x.bj.length))),(27, .d (.v (.int .i64 j.1)))],j.2.2⟩)
      (fun j=>x.bj.drop j.1=j.2.1∧qE h j.2.2∧la Tryz.prog k ((j.2.1++rest.flatMap mV).map bY) (fun b h2=>C b h2∧qE h h2) j.2.2) (fun j=>j.2.1.length) (0,x.bj,h2) (agh _) ?_ ?_ ⟨rfl,⟨q1,q2⟩,p3⟩ ?_
    ·rw[←q1];exact okMask_suffix _ (by rw[q1];exact q2) (by
       show(((AV.c7 k).bz h2.length).aO h2.length&&(true&&(true&&(true&&(true&&(true&&(true&&true)))))))=true;rw[q1,DX hk];rfl)
    ·rw[←q1];exact Bk _ (by rw[q1];exact q2)
    rintro⟨j,r2,hb⟩ ⟨mc,⟨b1,b2⟩,tu⟩;simp only at mc b1 b2 tu ⊢
    repeat refine aP ?_
    refine e7 ?_;refine cq rfl ?_;refine db (x:= .d (.v (.bool (decide ((j:Int)<(x.bj.length:Int)))))) (by kernel_rfl) rfl rfl ?_;refine bX ?_
    repeat refine aP ?_
    cases r2 with
    |nil=>
     rw[ck mc];refine kT (by kernel_rfl) ?_;refine lL (iU (iU (nb rfl ?_)));refine ie ?_;refine bX ?_;rw[List.nil_append]at tu;refine e7 ?_;refine cq rfl ?_;refine db (x:= .d (.v (.int .i64 ((i+1:Nat):Int)))) (by
       show some ((.d (.v (.int .i64 (a8 ((i:Int)+1)))):AV),HD.same)=_;have:=cx hd rfl mK;unfold ao at this;rw[this]) rfl rfl ?_
     refine cq rfl ?_;refine db (x:= .d (.v (.int .i64 ((i+1:Nat):Int)))) (by kernel_rfl) rfl rfl ?_;refine bX ?_;refine⟨?_,(i+1,rest,hb),?_,⟨ct hd,⟨b1,b2⟩,tu⟩,agS _⟩
     ·rw[←b1];exact SU _ (by rw[b1];exact b2) (by
        show(((AV.c7 k).bz hb.length).aO hb.length&&(true&&(true&&(true&&true))))=true;rw[b1,DX hk];rfl)
     ·rw[←b1];exact SI _ (by rw[b1];exact b2)
    |cons y r2=>
     rw[cf mc];refine lg (by kernel_rfl) ?_;refine eo ?_;refine bX ?_
     repeat refine aP ?_
     refine fi ?_
     repeat refine aP ?_
     refine e7 ?_;refine cq rfl ?_;rw[←agr hb];refine db (JG (q:=j) (e:=48) (k:=2) rfl rfl (by kernel_rfl) (ku (bS mc)) rfl) rfl rfl ?_;refine cq rfl ?_;refine db (x:=bY y) (by kernel_rfl) rfl rfl ?_;refine cq rfl ?_;refine Cq (Mq (l:=[]) (by kernel_rfl)) rfl rfl De ?_;refine cq rfl ?_;refine LF (I4 (i:=0) (off:=0) (k:=2) (l:=[_]) (v:=bY y) (bV:=(bY y).cells) (by kernel_rfl) rfl (by kernel_rfl) rfl (by kernel_rfl) (by kernel_rfl)) rfl Jg ?_;refine bX ?_
     repeat refine aP ?_
     refine e7 ?_;refine cq rfl ?_;refine db (x:= .c7 k) (by kernel_rfl) rfl rfl ?_;refine cq rfl ?_;refine db (xl (i:=0) (off:=0) (l:=[.cells (bY y).cells]) (x:=bY y) (by kernel_rfl) rfl (by kernel_rfl)) rfl rfl ?_;refine cq rfl ?_;rw[List.cons_append,agv]at tu;have LN:=L5 tu [.cells (bY y).cells] (by rw[b1];exact b2) (by kernel_rfl) (fun b h' hh=>hh.1);refine Fj (k:=k) (x:=bY y) rfl rfl (by kernel_rfl) (by kernel_rfl) rfl rfl ?_;refine LN.mono fun b h' hh=> ?_;obtain⟨h3,⟨⟨r1,r3⟩,r4⟩,rfl⟩:=hh;refine cq rfl ?_;refine db (x:= .d (.v (.bool (!b)))) (by kernel_rfl) rfl rfl ?_;refine bX ?_;have u1:h3.length=h.length:=by rw[r1,b1]
     have u2:h3.all (an.aO h.length)=true:=by rw[b1]at r3;exact r3
     cases b with
     |false=>
      refine lg (by kernel_rfl) ?_;refine dD ?_
      repeat (first|(with_reducible refine dW ?_)|(with_reducible refine ff ?_))
      exact Cp u1 u2 ⟨rfl,false,r4.1⟩
     |true=>
      refine kT (by kernel_rfl) ?_;refine eo ?_;refine ie ?_;refine bX ?_;simp only[cond_true]at r4;refine e7 ?_;refine cq rfl ?_;refine db (x:= .d (.v (.int .i64 ((j+1:Nat):Int)))) (by
       show some ((.d (.v (.int .i64 (a8 ((j:Int)+1)))):AV),HD.same)=_;have:=cx mc rfl X6;unfold ao at this;rw[this]) rfl rfl ?_
      refine cq rfl ?_;refine db (x:= .d (.v (.int .i64 ((j+1:Nat):Int)))) (by kernel_rfl) rfl rfl ?_;refine bX ?_;refine⟨?_,(j+1,r2,h3),?_,⟨ct mc,⟨u1,u2⟩,r4⟩,agS _⟩
      ·rw[←u1];exact okMask_suffix _ (by rw[u1];exact u2) (by
         show(((AV.c7 k).bz h3.length).aO h3.length&&(true&&(true&&(true&&(true&&(true&&(true&&true)))))))=true;rw[u1,DX hk];rfl)
      ·rw[←u1];exact Bk _ (by rw[u1];exact u2)
theorem V5(v1:ar):bA Tryz.prog 34 [(aD v1)] (·= .fn 70 [.aW [cB v1] 0 0]):=by
 refine OM (r:= .fn 70 [(.ptr 0 0)]) (h:=[.cells (aD v1).cells]) ?_ (by kernel_rfl) rfl;refine BX 1 Tryz.func34 rfl (by kernel_rfl) (agd rfl) ?_;refine mG (s':=⟨4,[(0,(aD v1))],[]⟩) (by kernel_rfl) ?_;refine aP ?_;refine rg [] [(1,(.ptr 0 0))] [.cells (aD v1).cells] (by kernel_rfl) ?_;refine aP ?_;refine rg [] [(2,(.fn 70 [(.ptr 0 0)]))] [.cells (aD v1).cells] (by kernel_rfl) ?_;refine dD ?_;exact yM (by kernel_rfl)
theorem acC(v1:ar):bA Tryz.prog 205 [(aD v1)] (·= .fn 238 [.aW [cB v1] 0 0]):=by
 refine OM (r:= .fn 238 [(.ptr 0 0)]) (h:=[.cells (aD v1).cells]) ?_ (by kernel_rfl) rfl;refine BX 1 Tryz.func205 rfl (by kernel_rfl) (agd rfl) ?_;refine mG (s':=⟨4,[(0,(aD v1))],[]⟩) (by kernel_rfl) ?_;refine aP ?_;refine rg [] [(1,(.ptr 0 0))] [.cells (aD v1).cells] (by kernel_rfl) ?_;refine aP ?_;refine rg [] [(2,(.fn 238 [(.ptr 0 0)]))] [.cells (aD v1).cells] (by kernel_rfl) ?_;refine dD ?_;exact yM (by kernel_rfl)
end Go.Proofs.YtphmhnabilhbgaaGreatDoor
namespace Go.Proofs.YtphmhnabilhbgaaGreatDoor
open Go.RowKit Go.Shelf
set_option maxRecDepth 100000
def WK:Ren where
 f:=fun
  |157=>198
  |229=>226
  |199=>227
  |261=>244
  |311=>251
  |312=>252
  |n=>n
 t:=fun
  |9=>9
  |31=>22
  |3=>3
  |5=>5
  |4=>4
  |119=>235
  |0=>0
  |40=>168
  |152=>240
  |21=>21
  |154=>242
  |51=>191
  |141=>244
  |196=>251
  |193=>248
  |198=>254
  |49=>252
  |194=>249
  |201=>257
  |226=>259
  |46=>161
  |227=>260
  |n=>n
 g:=fun
  |0=>0
  |6=>2
  |n=>n
def lr:agU agV:=[bs [115,105,122,101],bs [119,104,101,114,101],bs [105,110],bs [100,101,102],bs [111,117,116],bs [115,117,109],bs [112,114,111,100],bs [109,105,110],bs [109,97,120],bs [115,99,97,110],bs [111,118,101,114],bs [105,102],bs [99,97,115,116],bs [102,114,97,99],bs [105,110,116],bs [102,105,120],bs [99,101,105,108],bs [102,108,111,111,114],bs [122,101,114,111],bs [101,118,101,110],bs [115,97,116],bs [119,114,97,112]]
theorem abv:Lays.n157 Tryz.prog WK:=by
 constructor<;>first|kernel_rfl|(intro w;rfl)
def B7:agV:=⟨#[115,105,122,101,32,119,104,101,114,101,32,105,110,32,100,101,102,32,111,117,116,32,115,117,109,32,112,114,111,100,32,109,105,110,32,109,97,120,32,115,99,97,110,32,111,118,101,114,32,105,102,32,99,97,115,116,32,102,114,97,99,32,105,110,116,32,102,105,120,32,99,101,105,108,32,102,108,111,111,114,32,122,101,114,111,32,101,118,101,110,32,115,97,116,32,119,114,97,112]⟩
theorem aav(w:agZ)(hT:∀c:Nat,c<256→w.cell? ⟨0,c,none⟩=some (.int .u8 (if Lib.isSp (UInt8.ofNat c)then 1 else 0))):
 Calls Tryz.prog 198 #[.string B7] w fun e w'=>e= .returned (.slice (some ⟨w.heap.size,0,none⟩) 22 22)∧w'=w.alloc (.cells (lr.map Value.string).toArray 9):=by
 have ha:(B7.data.toList.all fun b=>decide (b.toNat<128))=true:=by kernel_rfl
 have h:=Any.strings_Fields_core abv (by kernel_rfl) B7 w (of_decide_eq_true (by kernel_rfl)) (fun j b hb=>of_decide_eq_true (agw.1 ha b (agj hb))) hT;have e1:(Lib.fields B7.data.toList).length=22:=by kernel_rfl
 have e2:((Lib.fields B7.data.toList).map fun l=>Value.string ⟨l.toArray⟩)=lr.map Value.string:=by kernel_rfl
 rw[e1,e2]at h;exact h
theorem ZJ(w:agZ)(hT:∀c:Nat,c<256→w.cell? ⟨0,c,none⟩=some (.int .u8 (if Lib.isSp (UInt8.ofNat c)then 1 else 0))):
 Calls Tryz.prog 162 #[] w fun e w'=>e= .returned (.slice (some ⟨w.heap.size,0,none⟩) 22 22)∧w'=w.alloc (.cells (lr.map Value.string).toArray 9):=by
 go_enter Tryz.func162,Tryz.ntmps162
 go_wp2_with (go_at_call 198;refine(aav _ hT).mono ?_;rintro e w' ⟨rfl,rfl⟩)
 go_ret
 exact⟨rfl,rfl⟩
theorem adI:∀c:Nat,c<256→(uf AL)[c]?=some (.int .u8 (if Lib.isSp (UInt8.ofNat c)then 1 else 0)):=fun c hc=>by
 rw[show uf AL=(List.range 256).map fun c=>Value.int .u8 (if Lib.isSp (UInt8.ofNat c)then 1 else 0) by kernel_rfl,agc,List.getElem?_range hc];rfl
theorem V8:bA Tryz.prog 162 [] (·= .d (.sl (aB lr))):=by
 refine⟨by kernel_rfl,fun G w vs hi hl hr=> ?_⟩;obtain rfl:vs= #[]:=Array.size_eq_zero_iff.1 hl;refine(ZJ w fun c hc=> ?_).mono fun e w' hp=> ?_
 ·exact(hi.gl.1 0 (uf AL) agb c _ (adI c hc)).2
 ·obtain⟨rfl,rfl⟩:=hp;obtain⟨i1,i2⟩:=Qg hi (.cells (lr.map Value.string).toArray 9) 22;have uY:Rd (G.mL w.heap.size 22).S (w.alloc (.cells (lr.map Value.string).toArray 9)) 1 (aB lr) (lr.map Value.string):=
   ⟨rfl,fun x hx=>(by obtain⟨y,_,rfl⟩:=List.mem_map.1 hx;rfl),fun u hu=>(by obtain⟨y,_,rfl⟩:=List.mem_map.1 hu;rfl),fun i j x d hx hd=>by
    rw[k9,agc]at hx;cases hk:lr[i]? with
    |none=>rw[hk]at hx;cases hx
    |some y=>
     rw[hk]at hx;cases hx;cases j with
     |zero=>cases hd;exact⟨.string y,by rw[Nat.mul_one,Nat.add_zero,agc,hk];rfl, .v _⟩
     |succ j=>cases hd⟩
  have hp:=uY.zf w.heap.size 22 (by decide) (by decide) (fun o ho=> .inr ⟨rfl,ho⟩) (fun o u hu=>by
   rw[World.cell?_alloc_new,List.getElem?_toArray];exact hu)
  exact⟨_,_,_,_,rfl,i1,agh _,i2, .d hp,rfl,rfl⟩
end Go.Proofs.YtphmhnabilhbgaaGreatDoor
namespace Go.Proofs.YtphmhnabilhbgaaGreatDoor
open Go.RowKit
set_option maxRecDepth 1000000
set_option maxRecDepth 100000
theorem XF{xs:agU (agU D)}(hk:∀c∈xs,c.length=1)(hm:xs.length≤maxLen)(hb:xs.length*16≤140737488355328):bA Tryz.prog 51 [.d (.sl xs)] (·= .d (.sl xs)):=by
 refine pk Tryz.func51 rfl (by kernel_rfl) ?_;refine gk [0] 0 (agh _) (s':=⟨8,[(0, .d (.sl xs))],[]⟩) (by kernel_rfl) ?_;refine aP ?_;refine rg [] [] [] (by kernel_rfl) ?_
 repeat refine aP ?_
 refine e7 ?_;refine cq rfl ?_;refine db (x:= .d (.sl xs)) (by kernel_rfl) rfl rfl ?_;refine cq rfl ?_;refine zD (xs:=xs) (q:=(9,1)) rfl rfl rfl (by kernel_rfl) rfl rfl (fun he=> ?_) ?_
 ·subst he;refine bX ?_;refine lg (by kernel_rfl) ?_
  repeat refine aP ?_
  refine rg [] [(2, .d (.v (.slice none 0 0)))] [] (by kernel_rfl) ?_;refine dD ?_
  repeat (first|(with_reducible refine dW ?_)|(with_reducible refine ff ?_))
  exact fJ (by kernel_rfl)
 ·refine bX ?_;refine kT (by kernel_rfl) ?_;refine eo ?_;refine bX ?_
  repeat refine aP ?_
  refine rg [(7,⟨_,_, .app (xs:=[]) (ys:=xs) (zs:=xs) (len:=0) (k:=1) (dc:=16) (n:=xs.length) rfl (fun _ hc=>absurd hc agM) hk (by simpa using hm) (by simpa using hb) rfl (by simp)⟩)] [(2, .own 0 xs)] [.front 9 1 xs.length] (by kernel_rfl) ?_;refine dD ?_
  repeat (first|(with_reducible refine dW ?_)|(with_reducible refine ff ?_))
  exact fJ (by kernel_rfl)
theorem Zw{xs:agU (agU D)}(hk:∀c∈xs,c.length=2)(hm:xs.length≤maxLen)(hb:xs.length*24≤140737488355328):bA Tryz.prog 85 [.d (.sl xs)] (·= .d (.sl xs)):=by
 refine pk Tryz.func85 rfl (by kernel_rfl) ?_;refine gk [0] 0 (agh _) (s':=⟨8,[(0, .d (.sl xs))],[]⟩) (by kernel_rfl) ?_;refine aP ?_;refine rg [] [] [] (by kernel_rfl) ?_
 repeat refine aP ?_
 refine e7 ?_;refine cq rfl ?_;refine db (x:= .d (.sl xs)) (by kernel_rfl) rfl rfl ?_;refine cq rfl ?_;refine zD (xs:=xs) (q:=(92,2)) rfl rfl rfl (by kernel_rfl) rfl rfl (fun he=> ?_) ?_
 ·subst he;refine bX ?_;refine lg (by kernel_rfl) ?_
  repeat refine aP ?_
  refine rg [] [(2, .d (.v (.slice none 0 0)))] [] (by kernel_rfl) ?_;refine dD ?_
  repeat (first|(with_reducible refine dW ?_)|(with_reducible refine ff ?_))
  exact fJ (by kernel_rfl)
 ·refine bX ?_;refine kT (by kernel_rfl) ?_;refine eo ?_;refine bX ?_
  repeat refine aP ?_
  refine rg [(7,⟨_,_, .app (xs:=[]) (ys:=xs) (zs:=xs) (len:=0) (k:=2) (dc:=24) (n:=xs.length) rfl (fun _ hc=>absurd hc agM) hk (by simpa using hm) (by simpa using hb) rfl (by simp)⟩)] [(2, .own 0 xs)] [.front 92 2 xs.length] (by kernel_rfl) ?_;refine dD ?_
  repeat (first|(with_reducible refine dW ?_)|(with_reducible refine ff ?_))
  exact fJ (by kernel_rfl)
theorem abi{xs:agU (agU D)}(hk:∀c∈xs,c.length=4)(hm:xs.length≤maxLen)(hb:xs.length*72≤140737488355328):bD Tryz.prog 120 [.d (.sl xs)] [] fun r1 h1=>r1= .vec 0 0 xs.length xs.length 4∧h1=[.vec 80 4 (aI xs)]:=by
 refine vR 1 Tryz.func120 rfl (by kernel_rfl) (agd rfl) ?_;refine gk [0] 0 (agh _) (s':=⟨8,[(0, .d (.sl xs))],[]⟩) (by kernel_rfl) ?_;refine aP ?_;refine rg [] [] [] (by kernel_rfl) ?_
 repeat refine aP ?_
 refine e7 ?_;refine cq rfl ?_;refine db (x:= .d (.sl xs)) (by kernel_rfl) rfl rfl ?_;refine cq rfl ?_;refine zD (xs:=xs) (q:=(80,4)) rfl rfl rfl (by kernel_rfl) rfl rfl (fun he=> ?_) ?_
 ·subst he;refine bX ?_;refine lg (by kernel_rfl) ?_
  repeat refine aP ?_
  refine rg [] [(2, .d (.v (.slice none 0 0)))] [] (by kernel_rfl) ?_;refine KW 2 80 4 (by kernel_rfl) ?_;refine dD ?_
  repeat (first|(with_reducible refine dW ?_)|(with_reducible refine ff ?_))
  exact nL (gp (xs:=[]) fj) (by kernel_rfl)
 ·refine bX ?_;refine kT (by kernel_rfl) ?_;refine eo ?_;refine bX ?_
  repeat refine aP ?_
  refine rg [(7,⟨_,_, .pr (.ap (aI xs) (aI xs) xs.length xs.length) (Hi (h:=[]) (k:=4) (dc:=72) (y:= .d (.sl xs)) hk rfl hm hb)⟩)] [(2, .vec 0 0 xs.length xs.length 4)] [.vec 80 4 (aI xs)] (by kernel_rfl) ?_;refine dD ?_
  repeat (first|(with_reducible refine dW ?_)|(with_reducible refine ff ?_))
  exact nL (gp (xs:=xs) fj) (by kernel_rfl)
theorem aeC{xs:agU (agU D)}(hk:∀c∈xs,c.length=2)(hm:xs.length≤maxLen)(hb:xs.length*32≤140737488355328):bD Tryz.prog 121 [.d (.sl xs)] [] fun r1 h1=>r1= .vec 0 0 xs.length xs.length 2∧h1=[.vec 48 2 (aI xs)]:=by
 refine vR 1 Tryz.func121 rfl (by kernel_rfl) (agd rfl) ?_;refine gk [0] 0 (agh _) (s':=⟨8,[(0, .d (.sl xs))],[]⟩) (by kernel_rfl) ?_;refine aP ?_;refine rg [] [] [] (by kernel_rfl) ?_
 repeat refine aP ?_
 refine e7 ?_;refine cq rfl ?_;refine db (x:= .d (.sl xs)) (by kernel_rfl) rfl rfl ?_;refine cq rfl ?_;refine zD (xs:=xs) (q:=(48,2)) rfl rfl rfl (by kernel_rfl) rfl rfl (fun he=> ?_) ?_
 ·subst he;refine bX ?_;refine lg (by kernel_rfl) ?_
  repeat refine aP ?_
  refine rg [] [(2, .d (.v (.slice none 0 0)))] [] (by kernel_rfl) ?_;refine KW 2 48 2 (by kernel_rfl) ?_;refine dD ?_
  repeat (first|(with_reducible refine dW ?_)|(with_reducible refine ff ?_))
  exact nL (gp (xs:=[]) fj) (by kernel_rfl)
 ·refine bX ?_;refine kT (by kernel_rfl) ?_;refine eo ?_;refine bX ?_
  repeat refine aP ?_
  refine rg [(7,⟨_,_, .pr (.ap (aI xs) (aI xs) xs.length xs.length) (Hi (h:=[]) (k:=2) (dc:=32) (y:= .d (.sl xs)) hk rfl hm hb)⟩)] [(2, .vec 0 0 xs.length xs.length 2)] [.vec 48 2 (aI xs)] (by kernel_rfl) ?_;refine dD ?_
  repeat (first|(with_reducible refine dW ?_)|(with_reducible refine ff ?_))
  exact nL (gp (xs:=xs) fj) (by kernel_rfl)
theorem Zy{xs:agU (agU D)}(hk:∀c∈xs,c.length=13)(hm:xs.length≤maxLen)(hb:xs.length*160≤140737488355328):bD Tryz.prog 122 [.d (.sl xs)] [] fun r1 h1=>r1= .vec 0 0 xs.length xs.length 13∧h1=[.vec 52 13 (aI xs)]:=by
 refine vR 1 Tryz.func122 rfl (by kernel_rfl) (agd rfl) ?_;refine gk [0] 0 (agh _) (s':=⟨8,[(0, .d (.sl xs))],[]⟩) (by kernel_rfl) ?_;refine aP ?_;refine rg [] [] [] (by kernel_rfl) ?_
 repeat refine aP ?_
 refine e7 ?_;refine cq rfl ?_;refine db (x:= .d (.sl xs)) (by kernel_rfl) rfl rfl ?_;refine cq rfl ?_;refine zD (xs:=xs) (q:=(52,13)) rfl rfl rfl (by kernel_rfl) rfl rfl (fun he=> ?_) ?_
 ·subst he;refine bX ?_;refine lg (by kernel_rfl) ?_
  repeat refine aP ?_
  refine rg [] [(2, .d (.v (.slice none 0 0)))] [] (by kernel_rfl) ?_;refine KW 2 52 13 (by kernel_rfl) ?_;refine dD ?_
  repeat (first|(with_reducible refine dW ?_)|(with_reducible refine ff ?_))
  exact nL (gp (xs:=[]) fj) (by kernel_rfl)
 ·refine bX ?_;refine kT (by kernel_rfl) ?_;refine eo ?_;refine bX ?_
  repeat refine aP ?_
  refine rg [(7,⟨_,_, .pr (.ap (aI xs) (aI xs) xs.length xs.length) (Hi (h:=[]) (k:=13) (dc:=160) (y:= .d (.sl xs)) hk rfl hm hb)⟩)] [(2, .vec 0 0 xs.length xs.length 13)] [.vec 52 13 (aI xs)] (by kernel_rfl) ?_;refine dD ?_
  repeat (first|(with_reducible refine dW ?_)|(with_reducible refine ff ?_))
  exact nL (gp (xs:=xs) fj) (by kernel_rfl)
set_option linter.unusedSimpArgs false
theorem acY{n:Nat}(h:n≤maxLen):IntKind.i64.wrap ((n:Int)-IntKind.i64.wrap (0-0))=(n:Int):=by
 rw[IntKind.wrap_i64,IntKind.wrap_i64];unfold maxLen at h;omega
theorem YU{n:Nat}(hb:Nat.ble (n*48) 140737488355328=true):bD Tryz.prog 165 [.d (.v (.slice none 0 0)), .d (.v (.int .i64 (Int.ofNat n)))] [] fun r1 h1=>r1= .own 0 []∧h1=[.front 64 3 0]:=by
 have hc:=dQ hb (by decide);refine BX 1 Tryz.func165 rfl (by kernel_rfl) (agd rfl) ?_;refine mG (s':=⟨27,[(0, .d (.v (.slice none 0 0))),(1, .d (.v (.int .i64 (Int.ofNat n))))],[]⟩) (by kernel_rfl) ?_;refine aP ?_;refine rg [] [] [] (by kernel_rfl) ?_
 repeat refine aP ?_
 refine rg [] [(6,aU (decide ((n:Int)<0)))] [] (by kernel_rfl) ?_
 repeat refine aP ?_
 refine fp (t:=decide ((n:Int)<0)) (by kernel_rfl) (agO (by omega)) ?_;refine eo ?_;refine bX ?_
 repeat refine aP ?_
 refine e7 ?_;refine cq rfl ?_;refine db (x:= .d (.v (.int .i64 (Int.ofNat n)))) (by kernel_rfl) rfl rfl ?_;refine cq rfl ?_;refine db (x:= .d (.v (.slice none 0 0))) (by kernel_rfl) rfl rfl ?_;refine cq rfl ?_;refine F0 (x:= .d (.v (.int .i64 0))) (h':=[]) (by kernel_rfl) rfl rfl ?_;refine cq rfl ?_;refine db (x:= .d (.v (.slice none 0 0))) (by kernel_rfl) rfl rfl ?_;refine cq rfl ?_;refine db (x:= .d (.v (.int .i64 0))) (by kernel_rfl) rfl rfl ?_;refine cq rfl ?_;refine db (x:= .d (.v (.int .i64 (IntKind.i64.wrap (0-0))))) (by kernel_rfl) rfl rfl ?_;refine cq rfl ?_;refine db (x:= .d (.v (.int .i64 (IntKind.i64.wrap ((n:Int)-IntKind.i64.wrap (0-0)))))) (by kernel_rfl) rfl rfl ?_;refine cq rfl ?_;refine db (x:= .d (.v (.int .i64 (IntKind.i64.wrap ((n:Int)-IntKind.i64.wrap (0-0)))))) (by kernel_rfl) rfl rfl ?_;rw[acY hc.1];refine bX ?_
 repeat refine aP ?_
 refine rg [] [(16,aU (decide ((n:Int)>0)))] [] (by kernel_rfl) ?_
 repeat refine aP ?_
 rcases Nat.eq_zero_or_pos n with h0|h0
 ·subst h0;refine fp (t:=decide (((0:Nat):Int)>0)) (by kernel_rfl) rfl ?_;refine eo ?_;refine bX ?_
  repeat refine aP ?_
  refine rg [] [(4, .d (.v (.slice none 0 0)))] [] (by kernel_rfl) ?_;refine OV 4 64 3 [] (.inr ⟨by kernel_rfl,rfl⟩) ?_;refine dD ?_
  repeat (first|(with_reducible refine dW ?_)|(with_reducible refine ff ?_))
  exact yM (by kernel_rfl)
 ·refine fy (t:=decide ((n:Int)>0)) (by kernel_rfl) (agN (by omega)) ?_;refine e7 ?_;refine cq rfl ?_;refine db (x:= .d (.v (.slice none 0 0))) (by kernel_rfl) rfl rfl ?_;refine cq rfl ?_;refine db (x:= .d (.v (.slice none 0 0))) (by kernel_rfl) rfl rfl ?_;refine cq rfl ?_;refine F0 (x:= .d (.v (.int .i64 0))) (h':=[]) (by kernel_rfl) rfl rfl ?_;refine cq rfl ?_;refine F0 (x:= .d (.v (.slice none 0 0))) (h':=[]) (by kernel_rfl) rfl rfl ?_;refine cq rfl ?_;refine db (x:= .d (.v (.int .i64 (Int.ofNat n)))) (by kernel_rfl) rfl rfl ?_;refine cq rfl ?_;refine F0 (x:= .vec 0 0 n n 3) (h':=[.vec 64 3 (List.replicate n [.d (.v (.string ⟨#[]⟩)), .d (.v (.int .i64 0)), .d (.v (.slice none 0 0))])]) (afb (e:=64) (k:=3) (m:=n) (dc:=48) (kq:= .i64) (kn:= .i64) (z:= .agg #[.string ⟨#[]⟩, .int .i64 0, .slice none 0 0]) rfl rfl rfl (by kernel_rfl) (by kernel_rfl) (by kernel_rfl) (by kernel_rfl) (by kernel_rfl) (by kernel_rfl) h0 (by decide) rfl hc.1 hc.2) rfl rfl ?_;refine cq rfl ?_;refine db (x:= .d (.v (.slice none 0 0))) (by kernel_rfl) rfl rfl ?_;refine cq rfl ?_;refine db (x:= .d (.v (.int .i64 0))) (by kernel_rfl) rfl rfl ?_;refine cq rfl ?_;refine Ww (.ol 0 0) (x:= .vec 0 0 0 n 3) (h':=[.vec 64 3 (List.replicate n [.d (.v (.string ⟨#[]⟩)), .d (.v (.int .i64 0)), .d (.v (.slice none 0 0))])]) (p:=(List.replicate n ([.d (.v (.string ⟨#[]⟩)), .d (.v (.int .i64 0)), .d (.v (.slice none 0 0))]:agU AV)).length=n∧(0:Int)≤0∧(0:Int)≤0∧(0:Int)≤(n:Int)-(0:Nat)∧0=0+0∧0=0-0) (by kernel_rfl) ⟨agG,Int.le_refl _,Int.le_refl _,by omega,rfl,rfl⟩ rfl rfl ?_
  refine cq rfl ?_;refine db (x:= .vec 0 0 0 n 3) (by kernel_rfl) rfl rfl ?_;refine bX ?_
  repeat refine aP ?_
  refine rg [] [(4, .vec 0 0 0 n 3)] [.vec 64 3 (List.replicate n [.d (.v (.string ⟨#[]⟩)), .d (.v (.int .i64 0)), .d (.v (.slice none 0 0))])] (by kernel_rfl) ?_;refine Ye (t:=4) rfl (by kernel_rfl) agG ?_;refine dD ?_
  repeat (first|(with_reducible refine dW ?_)|(with_reducible refine ff ?_))
  exact yM (by kernel_rfl)
end Go.Proofs.YtphmhnabilhbgaaGreatDoor
