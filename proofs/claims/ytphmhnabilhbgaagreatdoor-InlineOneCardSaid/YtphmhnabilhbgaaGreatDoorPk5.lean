/-
  Part 5 of the proof: AbsDat, IterE, AbsKern.
-/
import Derived.Test.YtphmhnabilhbgaaGreatDoorPk4
import Derived.Test.YtphmhnabilhbgaaGreatDoorProg
import Derived.KernelRfl
namespace Go.Proofs.YtphmhnabilhbgaaGreatDoor
open Go.RowKit
set_option linter.unusedVariables false
def cK(x:ByteArray):List D:=[.v (.string x)]
def ax(l:List ByteArray):List (List D):=l.map cK
theorem nF(l:List ByteArray):ax l=l.map cK:=rfl
theorem bD{l:List ByteArray}:(ax l).length=l.length:=by rw[nF,agy]
theorem lK{l:List ByteArray}{k:Nat}{x:ByteArray}(h:l[k]?=some x):(ax l)[k]?=some (cK x):=by rw[nF,agA,h];rfl
theorem zD{a b:List ByteArray}:ax a++ax b=ax (a++b):=by rw[nF,nF,nF,List.map_append]
theorem jz{l:List ByteArray}:∀c∈ax l,c.length=1:=by
 intro c hc;rw[nF]at hc;obtain⟨x,_,rfl⟩:=List.mem_map.1 hc;rfl
theorem Ml{l:List ByteArray}{k n:Nat}:((ax l).take n).drop k=ax ((l.take n).drop k):=by rw[nF,nF,List.map_drop,List.map_take]
def MM(x:Int):List D:=[.v (.int .i64 x)]
def tp(l:List Int):List (List D):=l.map MM
theorem Q8(l:List Int):tp l=l.map MM:=rfl
theorem E2{l:List Int}:(tp l).length=l.length:=by rw[Q8,agy]
theorem P3{l:List Int}{k:Nat}{x:Int}(h:l[k]?=some x):(tp l)[k]?=some (MM x):=by rw[Q8,agA,h];rfl
structure aF where
 aq:ByteArray
 dq:Int64
def wY(x:aF):List D:=[.v (.string x.aq), .v (.int .i64 x.dq.toInt)]
def oT(x:aF):AV:= .agg [.d (.v (.string x.aq)), .d (.v (.int .i64 x.dq.toInt))]
structure bB where
 cA:Int
 cD:Int
 dg:Int
 de:Int
 dc:Int
def Hd(x:bB):List D:=[.v (.int .i64 x.cA), .v (.int .i64 x.cD), .v (.int .i64 x.dg), .v (.int .i64 x.de), .v (.int .i64 x.dc)]
def e9(x:bB):AV:= .agg [.d (.v (.int .i64 x.cA)), .d (.v (.int .i64 x.cD)), .d (.v (.int .i64 x.dg)), .d (.v (.int .i64 x.de)), .d (.v (.int .i64 x.dc))]
structure gj where
 xN:Int64
 xD:Int64
def Za(x:gj):List D:=[.v (.int .i64 x.xN.toInt), .v (.int .i64 x.xD.toInt)]
def qE(x:gj):AV:= .agg [.d (.v (.int .i64 x.xN.toInt)), .d (.v (.int .i64 x.xD.toInt))]
def bP(l:List aF):List (List D):=l.map wY
theorem p9(l:List aF):bP l=l.map wY:=rfl
theorem b6{l:List aF}:(bP l).length=l.length:=by rw[p9,agy]
theorem fu{l:List aF}{k:Nat}{x:aF}(h:l[k]?=some x):(bP l)[k]?=some (wY x):=by rw[p9,agA,h];rfl
theorem EV{a b:List aF}:bP a++bP b=bP (a++b):=by rw[p9,p9,p9,List.map_append]
theorem l9{l:List aF}:∀c∈bP l,c.length=2:=by
 intro c hc;rw[p9]at hc;obtain⟨x,_,rfl⟩:=List.mem_map.1 hc;rfl
theorem Fo{l:List aF}{k:Nat}:(bP l).drop k=bP (l.drop k):=by rw[p9,p9,List.map_drop]
def jN(l:List bB):List (List D):=l.map Hd
theorem Ad(l:List bB):jN l=l.map Hd:=rfl
theorem ga{l:List bB}:(jN l).length=l.length:=by rw[Ad,agy]
theorem ky{l:List bB}{k:Nat}{x:bB}(h:l[k]?=some x):(jN l)[k]?=some (Hd x):=by rw[Ad,agA,h];rfl
theorem P0{a b:List bB}:jN a++jN b=jN (a++b):=by rw[Ad,Ad,Ad,List.map_append]
theorem FV{l:List bB}:∀c∈jN l,c.length=5:=by
 intro c hc;rw[Ad]at hc;obtain⟨x,_,rfl⟩:=List.mem_map.1 hc;rfl
structure aw where
 xK:Int64
 xL:List aF
def jY(x:aw):List D:=[.v (.int .i64 x.xK.toInt), .sl (bP x.xL)]
def b9(x:aw):AV:= .agg [.d (.v (.int .i64 x.xK.toInt)), .d (.sl (bP x.xL))]
structure cF where
 aQ:aw
 hJ:Bool
def Dp(x:cF):List D:=[.v (.int .i64 x.aQ.xK.toInt), .sl (bP x.aQ.xL), .v (.bool x.hJ)]
def mR(x:cF):AV:= .agg [.d (.v (.int .i64 x.aQ.xK.toInt)), .d (.sl (bP x.aQ.xL)), .d (.v (.bool x.hJ))]
structure bk where
 aq:ByteArray
 dS:aw
def D4(x:bk):List D:=[.v (.string x.aq), .v (.int .i64 x.dS.xK.toInt), .sl (bP x.dS.xL)]
def DJ(x:bk):AV:= .agg [.d (.v (.string x.aq)), .d (.v (.int .i64 x.dS.xK.toInt)), .d (.sl (bP x.dS.xL))]
def bJ(l:List cF):List (List D):=l.map Dp
theorem uI(l:List cF):bJ l=l.map Dp:=rfl
theorem fa{l:List cF}:(bJ l).length=l.length:=by rw[uI,agy]
theorem zQ{l:List cF}{k:Nat}{x:cF}(h:l[k]?=some x):(bJ l)[k]?=some (Dp x):=by rw[uI,agA,h];rfl
theorem VC{a b:List cF}:bJ a++bJ b=bJ (a++b):=by rw[uI,uI,uI,List.map_append]
theorem T8{l:List cF}:∀c∈bJ l,c.length=3:=by
 intro c hc;rw[uI]at hc;obtain⟨x,_,rfl⟩:=List.mem_map.1 hc;rfl
def cS(l:List aw):List (List D):=l.map jY
theorem qc(l:List aw):cS l=l.map jY:=rfl
theorem bO{l:List aw}:(cS l).length=l.length:=by rw[qc,agy]
theorem jv{l:List aw}{k:Nat}{x:aw}(h:l[k]?=some x):(cS l)[k]?=some (jY x):=by rw[qc,agA,h];rfl
theorem Eo{a b:List aw}:cS a++cS b=cS (a++b):=by rw[qc,qc,qc,List.map_append]
theorem nC{l:List aw}:∀c∈cS l,c.length=2:=by
 intro c hc;rw[qc]at hc;obtain⟨x,_,rfl⟩:=List.mem_map.1 hc;rfl
def cy(l:List bk):List (List D):=l.map D4
theorem wz(l:List bk):cy l=l.map D4:=rfl
theorem bV{l:List bk}:(cy l).length=l.length:=by rw[wz,agy]
theorem kg{l:List bk}{k:Nat}{x:bk}(h:l[k]?=some x):(cy l)[k]?=some (D4 x):=by rw[wz,agA,h];rfl
theorem EO{a b:List bk}:cy a++cy b=cy (a++b):=by rw[wz,wz,wz,List.map_append]
theorem oy{l:List bk}:∀c∈cy l,c.length=3:=by
 intro c hc;rw[wz]at hc;obtain⟨x,_,rfl⟩:=List.mem_map.1 hc;rfl
def Jm(x:List bk):List D:=[.sl (cy x)]
def qX(l:List (List bk)):List (List D):=l.map Jm
theorem Sa(l:List (List bk)):qX l=l.map Jm:=rfl
theorem GS{l:List (List bk)}:(qX l).length=l.length:=by rw[Sa,agy]
theorem R3{l:List (List bk)}{k:Nat}{x:(List bk)}(h:l[k]?=some x):(qX l)[k]?=some (Jm x):=by rw[Sa,agA,h];rfl
structure cq where
 aq:ByteArray
 aB:bB
 aJ:List aw
def Em(x:cq):List D:=[.v (.string x.aq), .v (.int .i64 x.aB.cA), .v (.int .i64 x.aB.cD), .v (.int .i64 x.aB.dg), .v (.int .i64 x.aB.de), .v (.int .i64 x.aB.dc), .sl (cS x.aJ)]
def qO(x:cq):AV:= .agg [.d (.v (.string x.aq)), .d (.v (.int .i64 x.aB.cA)), .d (.v (.int .i64 x.aB.cD)), .d (.v (.int .i64 x.aB.dg)), .d (.v (.int .i64 x.aB.de)), .d (.v (.int .i64 x.aB.dc)), .d (.sl (cS x.aJ))]
structure ay where
 aQ:aw
 bp:ByteArray
 bw:List aw
def fO(x:ay):List D:=[.v (.int .i64 x.aQ.xK.toInt), .sl (bP x.aQ.xL), .v (.string x.bp), .sl (cS x.bw)]
def fX(x:ay):AV:= .agg [.d (.v (.int .i64 x.aQ.xK.toInt)), .d (.sl (bP x.aQ.xL)), .d (.v (.string x.bp)), .d (.sl (cS x.bw))]
def bN(l:List cq):List (List D):=l.map Em
theorem vQ(l:List cq):bN l=l.map Em:=rfl
theorem er{l:List cq}:(bN l).length=l.length:=by rw[vQ,agy]
theorem kJ{l:List cq}{k:Nat}{x:cq}(h:l[k]?=some x):(bN l)[k]?=some (Em x):=by rw[vQ,agA,h];rfl
theorem afw{a b:List cq}:bN a++bN b=bN (a++b):=by rw[vQ,vQ,vQ,List.map_append]
theorem To{l:List cq}:∀c∈bN l,c.length=7:=by
 intro c hc;rw[vQ]at hc;obtain⟨x,_,rfl⟩:=List.mem_map.1 hc;rfl
def bM(l:List ay):List (List D):=l.map fO
theorem qi(l:List ay):bM l=l.map fO:=rfl
theorem cn{l:List ay}:(bM l).length=l.length:=by rw[qi,agy]
theorem eM{l:List ay}{k:Nat}{x:ay}(h:l[k]?=some x):(bM l)[k]?=some (fO x):=by rw[qi,agA,h];rfl
theorem Ln{a b:List ay}:bM a++bM b=bM (a++b):=by rw[qi,qi,qi,List.map_append]
theorem wP{l:List ay}:∀c∈bM l,c.length=4:=by
 intro c hc;rw[qi]at hc;obtain⟨x,_,rfl⟩:=List.mem_map.1 hc;rfl
structure ao where
 bg:Int
 aq:ByteArray
 dK:gj
 aB:bB
 aQ:aw
 xIdx:List ay
 aT:List ao
mutual
def LZ:ao→List D
 |⟨bg,aq,dK,aB,aQ,xIdx,aT⟩=>[.v (.int .i64 bg), .v (.string aq), .v (.int .i64 dK.xN.toInt), .v (.int .i64 dK.xD.toInt), .v (.int .i64 aB.cA), .v (.int .i64 aB.cD), .v (.int .i64 aB.dg), .v (.int .i64 aB.de), .v (.int .i64 aB.dc), .v (.int .i64 aQ.xK.toInt), .sl (bP aQ.xL), .sl (bM xIdx), .sl (cW aT)]
def cW:List ao→List (List D)
 |[]=>[]
 |x::l=>LZ x::cW l
end
def dw(x:ao):List D:=[.v (.int .i64 x.bg), .v (.string x.aq), .v (.int .i64 x.dK.xN.toInt), .v (.int .i64 x.dK.xD.toInt), .v (.int .i64 x.aB.cA), .v (.int .i64 x.aB.cD), .v (.int .i64 x.aB.dg), .v (.int .i64 x.aB.de), .v (.int .i64 x.aB.dc), .v (.int .i64 x.aQ.xK.toInt), .sl (bP x.aQ.xL), .sl (bM x.xIdx), .sl (cW x.aT)]
theorem WU(x:ao):LZ x=dw x:=by cases x;simp only[LZ];rfl
theorem kV:∀l:List ao,cW l=l.map dw
 |[]=>by simp [cW]
 |x::l=>by simp [cW,WU,kV l]
theorem ca{l:List ao}:(cW l).length=l.length:=by rw[kV,agy]
theorem jn{l:List ao}{k:Nat}{x:ao}(h:l[k]?=some x):(cW l)[k]?=some (dw x):=by rw[kV,agA,h];rfl
theorem GZ{a b:List ao}:cW a++cW b=cW (a++b):=by rw[kV,kV,kV,List.map_append]
theorem pV{l:List ao}:∀c∈cW l,c.length=13:=by
 intro c hc;rw[kV]at hc;obtain⟨x,_,rfl⟩:=List.mem_map.1 hc;rfl
def aE(x:ao):AV:= .agg [.d (.v (.int .i64 x.bg)), .d (.v (.string x.aq)), .d (.v (.int .i64 x.dK.xN.toInt)), .d (.v (.int .i64 x.dK.xD.toInt)), .d (.v (.int .i64 x.aB.cA)), .d (.v (.int .i64 x.aB.cD)), .d (.v (.int .i64 x.aB.dg)), .d (.v (.int .i64 x.aB.de)), .d (.v (.int .i64 x.aB.dc)), .d (.v (.int .i64 x.aQ.xK.toInt)), .d (.sl (bP x.aQ.xL)), .d (.sl (bM x.xIdx)), .d (.sl (cW x.aT))]
structure aL where
 aq:ByteArray
 aB:bB
 aJ:List bk
 bG:List bk
 cP:Int
 bE:ao
def cw(x:aL):List D:=[.v (.string x.aq), .v (.int .i64 x.aB.cA), .v (.int .i64 x.aB.cD), .v (.int .i64 x.aB.dg), .v (.int .i64 x.aB.de), .v (.int .i64 x.aB.dc), .sl (cy x.aJ), .sl (cy x.bG), .v (.int .i64 x.cP), .v (.int .i64 x.bE.bg), .v (.string x.bE.aq), .v (.int .i64 x.bE.dK.xN.toInt), .v (.int .i64 x.bE.dK.xD.toInt), .v (.int .i64 x.bE.aB.cA), .v (.int .i64 x.bE.aB.cD), .v (.int .i64 x.bE.aB.dg), .v (.int .i64 x.bE.aB.de), .v (.int .i64 x.bE.aB.dc), .v (.int .i64 x.bE.aQ.xK.toInt), .sl (bP x.bE.aQ.xL), .sl (bM x.bE.xIdx), .sl (cW x.bE.aT)]
def cE(x:aL):AV:= .agg [.d (.v (.string x.aq)), .d (.v (.int .i64 x.aB.cA)), .d (.v (.int .i64 x.aB.cD)), .d (.v (.int .i64 x.aB.dg)), .d (.v (.int .i64 x.aB.de)), .d (.v (.int .i64 x.aB.dc)), .d (.sl (cy x.aJ)), .d (.sl (cy x.bG)), .d (.v (.int .i64 x.cP)), .d (.v (.int .i64 x.bE.bg)), .d (.v (.string x.bE.aq)), .d (.v (.int .i64 x.bE.dK.xN.toInt)), .d (.v (.int .i64 x.bE.dK.xD.toInt)), .d (.v (.int .i64 x.bE.aB.cA)), .d (.v (.int .i64 x.bE.aB.cD)), .d (.v (.int .i64 x.bE.aB.dg)), .d (.v (.int .i64 x.bE.aB.de)), .d (.v (.int .i64 x.bE.aB.dc)), .d (.v (.int .i64 x.bE.aQ.xK.toInt)), .d (.sl (bP x.bE.aQ.xL)), .d (.sl (bM x.bE.xIdx)), .d (.sl (cW x.bE.aT))]
structure iA where
 ux:List bk
 Ki:List ay
def tt(x:iA):AV:= .agg [.d (.sl (cy x.ux)), .d (.sl (bM x.Ki))]
def cg(l:List aL):List (List D):=l.map cw
theorem lz(l:List aL):cg l=l.map cw:=rfl
theorem dB{l:List aL}:(cg l).length=l.length:=by rw[lz,agy]
theorem gA{l:List aL}{k:Nat}{x:aL}(h:l[k]?=some x):(cg l)[k]?=some (cw x):=by rw[lz,agA,h];rfl
theorem Yg{a b:List aL}:cg a++cg b=cg (a++b):=by rw[lz,lz,lz,List.map_append]
theorem Cd{l:List aL}:∀c∈cg l,c.length=22:=by
 intro c hc;rw[lz]at hc;obtain⟨x,_,rfl⟩:=List.mem_map.1 hc;rfl
theorem QV{l:List aL}{k n:Nat}:((cg l).take n).drop k=cg ((l.take n).drop k):=by rw[lz,lz,List.map_drop,List.map_take]
structure aY where
 bx:List ByteArray
 cX:List cF
 bu:List cq
 aA:List aL
 cU:List ByteArray
def afA(x:aY):List D:=[.sl (ax x.bx), .sl (bJ x.cX), .sl (bN x.bu), .sl (cg x.aA), .sl (ax x.cU)]
def aX(x:aY):AV:= .agg [.d (.sl (ax x.bx)), .d (.sl (bJ x.cX)), .d (.sl (bN x.bu)), .d (.sl (cg x.aA)), .d (.sl (ax x.cU))]
def bq(s:ByteArray):AV:= .d (.v (.string s))
def an(n:Int):AV:= .d (.v (.int .i64 n))
def bt(n:Int64):AV:= .d (.v (.int .i64 n.toInt))
def aM(b:Bool):AV:= .d (.v (.bool b))
abbrev a7(n:Int):Int:=IntKind.i64.wrap n
theorem yB(a:Int):IntKind.i64.wrap a=a.bmod (2^64):=by
 rw[IntKind.wrap_i64,Int.bmod_def];omega
theorem nw(a:Int):an (a7 a)=bt (Int64.ofInt a):=by
 unfold an bt a7;rw[yB,Int64.toInt_ofInt]
theorem Jh(a b:Int64):an (a7 (a.toInt+b.toInt))=bt (a+b):=by
 unfold an bt a7;rw[yB,Int64.toInt_add]
theorem uE(a b:Int64):an (a7 (a.toInt-b.toInt))=bt (a-b):=by
 unfold an bt a7;rw[yB,Int64.toInt_sub]
theorem Og(a b:Int64):an (a7 (a.toInt*b.toInt))=bt (a*b):=by
 unfold an bt a7;rw[yB,Int64.toInt_mul]
theorem FF(a:Int64):an (a7 (0-a.toInt))=bt (-a):=by
 unfold an bt a7;rw[yB,Int64.toInt_neg,Int.zero_sub]
theorem Wp{a:Int}(h:a7 a=a):an a=bt (Int64.ofInt a):=by
 rw[←nw,h]
theorem aev(a:Int64)(b:Int):an (a.toInt.tmod b)=bt (Int64.ofInt (a.toInt.tmod b)):=by
 refine Wp ?_;unfold a7;rw[IntKind.wrap_i64];have h1:=a.le_toInt;have h2:=a.toInt_lt;have h3:=Int.natAbs_tmod a.toInt b;have h4:(a.toInt.tmod b).natAbs≤a.toInt.natAbs:=by rw[h3];exact Nat.mod_le _ _
 have h7: -9223372036854775808≤a.toInt∧a.toInt≤9223372036854775807:=by omega
 clear h1 h2 h3;by_cases h5:0≤a.toInt
 ·have:=Int.tmod_nonneg b h5;generalize a.toInt.tmod b=x at*;omega
 ·have h6:=Int.tmod_nonneg b (show 0≤-a.toInt by omega);rw[Int.neg_tmod]at h6;generalize a.toInt.tmod b=x at*;omega
theorem b8{α:Type}{l:List α}{k:Nat}{x:α}{xs:List α}{n:Nat}(hd:l.drop k=x::xs)(hn:l.length=n)(hl:n≤maxLen):an (a7 ((k:Int)+1))=an ((k+1:Nat):Int):=by
 have:(l.drop k).length=(x::xs).length:=by rw[hd]
 rw[List.length_drop,agw]at this;have h1:k<maxLen:=by omega
 unfold maxLen at h1;have e:IntKind.i64.wrap ((k:Int)+1)=((k+1:Nat):Int):=by rw[IntKind.wrap_i64];omega
 unfold an a7;rw[e]
theorem bj{α:Type}{l:List α}{k:Nat}{x:α}{xs:List α}(hd:l.drop k=x::xs):l[k]?=some x:=by
 have:(l.drop k)[0]?=some x:=by rw[hd];rfl
 rwa [List.getElem?_drop]at this
theorem b7{α:Type}{l:List α}{k:Nat}{x:α}{xs:List α}(hd:l.drop k=x::xs):l.drop (k+1)=xs:=by
 rw[←List.drop_drop,hd];rfl
theorem bR{α:Type}{l:List α}{k:Nat}{x:α}{xs:List α}(hd:l.drop k=x::xs):decide ((k:Int)<(l.length:Int))=true:=by
 have:(l.drop k).length=(x::xs).length:=by rw[hd]
 rw[List.length_drop,agw]at this;exact aha (by omega)
theorem bS{α:Type}{l:List α}{k:Nat}(hd:l.drop k=[]):decide ((k:Int)<(l.length:Int))=false:=by
 have:=List.drop_eq_nil_iff.1 hd;exact ahb (by omega)
theorem cY{n c9:Nat}(h:Nat.ble (n*c9) 140737488355328=true)(hb:1≤c9):n≤maxLen∧n*c9≤140737488355328:=by
 have h:=agB h;refine⟨?_,h⟩;unfold maxLen;have:=Nat.le_mul_of_pos_right n hb;omega
theorem ai:Tryz.prog.follows .mixedOrders=true:=by kernel_rfl
set_option maxRecDepth 100000
set_option maxHeartbeats 0
def w7(a b:Int64):Int64:=if b.toInt>a.toInt then b else a
theorem T2(a b:Int64):(if b.toInt>a.toInt then b.toInt else a.toInt)=(w7 a b).toInt:=by unfold w7;split<;>rfl
theorem aa3(a b:Int64):AV.d (.v (.int .i64 (if b.toInt>a.toInt then b.toInt else a.toInt)))=bt (w7 a b):=by rw[T2];rfl
mutual
def Jd:ao→List ao
 |⟨o,n,v,t,l,i,xs⟩=>⟨o,n,v,t,l,i,xs⟩::jW xs
def jW:List ao→List ao
 |[]=>[]
 |x::l=>Jd x++jW l
end
def dN(e:ao):List ao:=e::jW e.aT
theorem acg(e:ao):Jd e=dN e:=by cases e;simp only[Jd];rfl
theorem y5(x:ao)(l:List ao):jW (x::l)=dN x++jW l:=by rw[jW,acg]
theorem L8{P:Program}{k:Nat}:∀(l:List AV){C:Bool→List ak→Prop}{h:List ak},h.all (ak.aS h.length)=true→lQ P k l C h→lQ P k l (fun b h1=>C b h1∧td h h1) h
 |[],_,_,hl,hs=>⟨hs,rfl,hl⟩
 |x::l,C,h,hl,hs=>YS.mono hs fun b h1 ⟨h2,h3⟩=>⟨h2,by
  cases b with
  |true=>exact Qu l (fun b h4 ⟨h5,h6,h7⟩=>⟨h5,by rw[h6,h2.1],by rw[h2.1]at h7;exact h7⟩) (L8 l (by rw[h2.1];exact h2.2) h3)
  |false=>exact⟨h3,h2⟩⟩
def H0(e:ao):Prop:=∀(k:Nat)(h:List ak)(C:Bool→List ak→Prop),h.all (ak.aS h.length)=true→k<h.length→lQ Tryz.prog k ((dN e).map aE) C h→bW Tryz.prog 71 [aE e, .dj k] h fun r h1=>∃b,r= .d (.v (.bool b))∧C b h1∧td h h1
theorem Tm{P:Program}{fn:Func}{n:Nat}{t:List (Nat×AV)}{H h1 l:List ak}{K:AV→List ak→Prop}(k1:h1.length=H.length)(k2:h1.all (ak.aS H.length)=true)(hr:jU P ⟨n,t,h1++l⟩ fn.results.toList fun rs=>((gJ rs).bI h1.length).aS h1.length=true∧K ((gJ rs).bI h1.length) h1):pv P fn H.length K ⟨n,t,h1++l⟩:=by
 rw[←k1]at k2 ⊢;exact afV k2 hr
theorem BG{P:Program}{fn:Func}{n:Nat}{t:List (Nat×AV)}{H h1 l:List ak}{K:AV→List ak→Prop}(k1:h1.length=H.length)(k2:h1.all (ak.aS H.length)=true)(hr:jU P ⟨n,t,h1++l⟩ fn.results.toList fun rs=>((gJ rs).bI h1.length).aS h1.length=true∧K ((gJ rs).bI h1.length) h1):Fh P fn H.length K .ret ⟨n,t,h1++l⟩:=Tm k1 k2 hr
theorem adZ(e:ao)(xJ:∀x∈e.aT,H0 x):H0 e:=by
 intro k h C nI hk hs;refine yR h.length Tryz.func71 rfl (by kernel_rfl) (agE _) ?_
 suffices hA:bH Tryz.prog none h.length _ _ ⟨23,[(0,aE e),(1, .dj k)],h++[]⟩ by rw[agO]at hA;exact hA
 repeat refine aN ?_
 refine fq ?_;refine cH rfl ?_;refine CC (Y7 (l:=[]) (v:=aE e) rfl (by kernel_rfl)) rfl rfl Gb ?_;refine cH rfl ?_;refine du (x:= .d (.v (.bool false))) (by kernel_rfl) rfl rfl ?_;refine cm ?_
 repeat refine aN ?_
 refine fq ?_;refine cH rfl ?_;refine du (x:= .dj k) (by kernel_rfl) rfl rfl ?_;refine cH rfl ?_;refine du (zX (i:=0) (off:=0) (l:=[]++[.cells (aE e).cells]) (x:=aE e) (by kernel_rfl) rfl (by kernel_rfl)) rfl rfl ?_;refine cH rfl ?_;rw[dN,agS]at hs;have hy:=LH (L8 (aE e::_) nI hs) [.cells (aE e).cells] nI (by kernel_rfl) (fun b h' hh=>hh.1);refine EE (k:=k) (x:=aE e) rfl rfl (by kernel_rfl) (by kernel_rfl) rfl rfl ?_;refine hy.mono fun b h' hh=> ?_;obtain⟨h1,⟨⟨k1,k2⟩,k3⟩,rfl⟩:=hh;refine cH rfl ?_;refine du (x:= .d (.v (.bool (!b)))) (by kernel_rfl) rfl rfl ?_;refine cm ?_;cases b with
 |false=>
  refine lA (by kernel_rfl) ?_
  repeat refine aN ?_
  refine fq ?_;refine cH rfl ?_;refine du (x:= .d (.v (.bool false))) (by kernel_rfl) rfl rfl ?_;refine cm ?_;refine dM (ej ?_);refine BG k1 k2 ?_;exact⟨rfl,false,rfl,k3⟩
 |true=>
  refine ld (by kernel_rfl) ?_;refine et ?_;refine cm ?_;simp only[cond_true]at k3
  repeat refine aN ?_
  refine fq ?_;refine cH rfl ?_;refine du (x:= .ptr (h.length+0) 12) (by kernel_rfl) rfl rfl ?_;refine cH rfl ?_;refine du (zX (h:=h1) (i:=0) (off:=12) (l:=[.cells (aE e).cells]) (x:= .d (.sl (cW e.aT))) (by rw[k1];rfl) rfl (by kernel_rfl)) rfl rfl ?_;refine cH rfl ?_;refine du (x:= .d (.v (.int .i64 (cW e.aT).length))) (by kernel_rfl) rfl rfl ?_;refine cH rfl ?_;refine du (x:= .d (.v (.int .i64 0))) (by kernel_rfl) rfl rfl ?_;refine cm ?_;refine oe 12 (cW e.aT) (by kernel_rfl) fun cu=> ?_;have nH:e.aT.length≤maxLen:=by rw[←ca];exact rb cu
  rw[ca]
  repeat refine aN ?_
  refine e6 ?_;refine KG (ι:=Nat×List ao×List ak) [1,12,13,14] h.length (fun i=>⟨23,[(1, .dj k),(12, .d (.sl (cW e.aT))),(13, .d (.v (.int .i64 e.aT.length))),(14, .d (.v (.int .i64 i.1)))],i.2.2⟩)
   (fun i=>e.aT.drop i.1=i.2.1∧td h i.2.2∧lQ Tryz.prog k ((jW i.2.1).map aE) (fun b h2=>C b h2∧td h h2) i.2.2) (fun i=>i.2.1.length) (0,e.aT,h1) (agE _) ?_ ?_ ⟨rfl,⟨k1,k2⟩,k3⟩ ?_
  ·rw[←k1];exact Ct _ (by rw[k1];exact k2) (by
     show(((AV.dj k).bI h1.length).aS h1.length&&(true&&(true&&(true&&true))))=true;rw[k1];simp [AV.bI,AV.aS,cd];omega)
  ·rw[←k1];exact AY _ (by rw[k1];exact k2)
  rintro⟨i,rest,hc⟩ ⟨hd,⟨c1,c2⟩,nu⟩;simp only at hd c1 c2 nu ⊢
  repeat refine aN ?_
  refine fq ?_;refine cH rfl ?_;refine du (x:= .d (.v (.bool (decide ((i:Int)<(e.aT.length:Int)))))) (by kernel_rfl) rfl rfl ?_;refine cm ?_;refine aN ?_;cases rest with
  |nil=>
   rw[bS hd];refine ld (by kernel_rfl) ?_;refine jZ (gK (gK (kZ rfl ?_)));refine cm ?_
   repeat refine aN ?_
   refine fq ?_;refine cH rfl ?_;rw[←agO hc];refine du (x:= .d (.v (.bool true))) (by kernel_rfl) rfl rfl ?_;refine cm ?_;refine dM ?_;refine BG c1 c2 ?_;rw[jW,List.map_nil]at nu;exact⟨rfl,true,rfl,nu⟩
  |cons x rest=>
   rw[bR hd];refine lA (by kernel_rfl) ?_;refine et ?_;refine cm ?_
   repeat refine aN ?_
   refine e6 ?_
   repeat refine aN ?_
   refine fq ?_;refine cH rfl ?_;rw[←agO hc];refine du (Jn (q:=i) (e:=52) (k:=13) rfl rfl (by kernel_rfl) (jn (bj hd)) rfl) rfl rfl ?_;refine cH rfl ?_;refine du (x:=aE x) (by kernel_rfl) rfl rfl ?_;refine cH rfl ?_;refine CC (IY (l:=[]) (by kernel_rfl)) rfl rfl Gb ?_;refine cH rfl ?_;refine Mm (L6 (i:=0) (off:=0) (k:=13) (l:=[_]) (v:=aE x) (cp:=(aE x).cells) (by kernel_rfl) rfl (by kernel_rfl) rfl (by kernel_rfl) (by kernel_rfl)) rfl KZ ?_;refine cm ?_
   repeat refine aN ?_
   refine fq ?_;refine cH rfl ?_;refine du (zX (i:=0) (off:=0) (l:=[.cells (aE x).cells]) (x:=aE x) (by kernel_rfl) rfl (by kernel_rfl)) rfl rfl ?_;refine cH rfl ?_;refine du (x:= .dj k) (by kernel_rfl) rfl rfl ?_;refine cH rfl ?_;rw[y5,List.map_append]at nu;have um:=Rz _ _ nu;have hw:=xJ x (agG (bj hd)) k hc _ (by rw[c1];exact c2) (by rw[c1];exact hk) um;have hw2:=adb hw [.cells (aE x).cells] (by rw[c1];exact c2) (by
    rw[c1];show((aE x).aS h.length&&((AV.dj k).aS h.length&&true))=true;rw[show(aE x).aS h.length=true by kernel_rfl];simp [AV.aS,cd];omega) (fun r h' hh=>by
    obtain⟨b,rfl,_,q1,q2⟩:=hh;exact⟨q1,q2,rfl⟩)
   refine Tb (g:=71) (dt:=[]) rfl rfl rfl ?_;refine hw2.mono fun r h' hh=> ?_;obtain⟨h2,⟨b,rfl,q0,q1,q2⟩,rfl⟩:=hh;refine cH rfl ?_;refine du (x:= .d (.v (.bool (!b)))) (by kernel_rfl) rfl rfl ?_;refine cm ?_;cases b with
   |false=>
    refine lA (by kernel_rfl) ?_
    repeat refine aN ?_
    refine fq ?_;refine cH rfl ?_;refine du (x:= .d (.v (.bool false))) (by kernel_rfl) rfl rfl ?_;refine cm ?_;refine dM (fg (ej (ej (fg (ej ?_)))));refine BG (h1:=h2) (by rw[q1,c1]) (by rw[c1]at q2;exact q2) ?_;exact⟨rfl,false,rfl,q0⟩
   |true=>
    refine ld (by kernel_rfl) ?_;refine et ?_;refine iJ ?_;refine cm ?_;simp only[cond_true]at q0;refine fq ?_;refine cH rfl ?_;refine du (x:= .d (.v (.int .i64 ((i+1:Nat):Int)))) (by
     show some ((.d (.v (.int .i64 (a7 ((i:Int)+1)))):AV),HD.same)=_;have:=b8 hd rfl nH;unfold an at this;rw[this]) rfl rfl ?_
    refine cH rfl ?_;refine du (x:= .d (.v (.int .i64 ((i+1:Nat):Int)))) (by kernel_rfl) rfl rfl ?_;refine cm ?_;have e1:h2.length=h.length:=by rw[q1,c1]
    have e2:h2.all (ak.aS h2.length)=true:=by rw[q1];exact q2
    refine⟨?_,(i+1,rest,h2),?_,⟨b7 hd,⟨e1,by rw[←e1];exact e2⟩,q0⟩,ahf _⟩
    ·rw[←e1];exact Ct _ e2 (by
       show(((AV.dj k).bI h2.length).aS h2.length&&(true&&(true&&(true&&true))))=true;rw[e1];simp [AV.bI,AV.aS,cd];omega)
    ·rw[←e1];exact AY _ e2
mutual
theorem RO:(e:ao)→H0 e
 |⟨_,_,_,_,_,_,xs⟩=>adZ _ (Uq xs)
theorem Uq:(l:List ao)→∀x∈l,H0 x
 |[],_,h=>absurd h ag9
 |x::l,y,h=>(agX.1 h).elim (fun e=>e▸RO x) (Uq l y)
end
theorem Mj{P:Program}{fn:Func}{n:Nat}{t:List (Nat×AV)}{H h1:List ak}{K:AV→List ak→Prop}(k1:h1.length=H.length)(k2:h1.all (ak.aS H.length)=true)(hr:jU P ⟨n,t,h1⟩ fn.results.toList fun rs=>((gJ rs).bI h1.length).aS h1.length=true∧K ((gJ rs).bI h1.length) h1):Fh P fn H.length K .normal ⟨n,t,h1⟩:=by
 have:=Tm (P:=P) (fn:=fn) (n:=n) (t:=t) (l:=[]) (K:=K) k1 k2;rw[agO]at this;exact this hr
theorem Zw{P:Program}{fn:Func}{n:Nat}{t:List (Nat×AV)}{H h1:List ak}{K:AV→List ak→Prop}(k1:h1.length=H.length)(k2:h1.all (ak.aS H.length)=true)(hr:jU P ⟨n,t,h1⟩ fn.results.toList fun rs=>((gJ rs).bI h1.length).aS h1.length=true∧K ((gJ rs).bI h1.length) h1):Fh P fn H.length K .ret ⟨n,t,h1⟩:=Mj k1 k2 hr
theorem LX(e:ao):Mz Tryz.prog 70 [.bn [dw e] 0 0] ((dN e).map aE):=by
 intro k h C nI hk hs;refine yR h.length Tryz.func70 rfl (by kernel_rfl) (agE _) ?_;show bH Tryz.prog none h.length _ _ ⟨6,[(0, .dj k),(1, .bn [dw e] 0 0)],h⟩;refine fq ?_;refine cH rfl ?_;refine du (x:=aE e) (by kernel_rfl) rfl rfl ?_;refine cH rfl ?_;refine du (x:= .dj k) (by kernel_rfl) rfl rfl ?_;refine cH rfl ?_;refine Tb (g:=71) (dt:=[]) rfl rfl rfl ?_;refine(RO e k h C nI hk hs).mono fun r h' hh=> ?_;obtain⟨b,rfl,q0,q1,q2⟩:=hh;refine Mj (n:=6) (t:=[(5, .d (.v (.bool b))),(4, .dj k),(3,aE e),(0, .dj k),(1, .bn [dw e] 0 0)]) q1 q2 ?_;exact⟨rfl,b,q0⟩
def pw(x:ay):List aw:=x.aQ::x.bw
def kd(e:ao):List aw:=e.aQ::e.xIdx.flatMap pw
theorem adX(e:ao):Mz Tryz.prog 238 [.bn [dw e] 0 0] ((kd e).map b9):=by
 intro k h C nI hk Jk;have hs:=L8 _ nI Jk;refine yR h.length Tryz.func238 rfl (by kernel_rfl) (agE _) ?_;show bH Tryz.prog none h.length _ _ ⟨37,[(0, .dj k),(1, .bn [dw e] 0 0)],h⟩
 repeat refine aN ?_
 refine fq ?_;refine cH rfl ?_;refine du (x:= .dj k) (by kernel_rfl) rfl rfl ?_;refine cH rfl ?_;refine du (x:= .bn [dw e] 0 9) (by kernel_rfl) rfl rfl ?_;refine cH rfl ?_;refine du (x:=b9 e.aQ) (by kernel_rfl) rfl rfl ?_;refine cH rfl ?_;rw[kd,agS]at hs;refine EE (k:=k) (x:=b9 e.aQ) rfl rfl (by kernel_rfl) (by kernel_rfl) rfl rfl ?_;refine YS.mono hs fun b h1 hh=> ?_;obtain⟨⟨k1,k2⟩,k3⟩:=hh;refine cH rfl ?_;refine du (x:= .d (.v (.bool (!b)))) (by kernel_rfl) rfl rfl ?_;refine cm ?_;cases b with
 |false=>
  refine lA (by kernel_rfl) ?_;refine dM (ej ?_);exact Zw k1 k2 ⟨rfl,false,k3.1⟩
 |true=>
  refine ld (by kernel_rfl) ?_;refine et ?_;refine cm ?_;simp only[cond_true]at k3
  repeat refine aN ?_
  refine fq ?_;refine cH rfl ?_;refine du (x:= .bn [dw e] 0 11) (by kernel_rfl) rfl rfl ?_;refine cH rfl ?_;refine du (x:= .d (.sl (bM e.xIdx))) (by kernel_rfl) rfl rfl ?_;refine cH rfl ?_;refine du (x:= .d (.v (.int .i64 (bM e.xIdx).length))) (by kernel_rfl) rfl rfl ?_;refine cH rfl ?_;refine du (x:= .d (.v (.int .i64 0))) (by kernel_rfl) rfl rfl ?_;refine cm ?_;refine oe 13 (bM e.xIdx) (by kernel_rfl) fun cu=> ?_;have nH:e.xIdx.length≤maxLen:=by rw[←cn];exact rb cu
  rw[cn];refine e6 ?_;refine KG (ι:=Nat×List ay×List ak) [0,13,14,15] h.length (fun i=>⟨37,[(0, .dj k),(13, .d (.sl (bM e.xIdx))),(14, .d (.v (.int .i64 e.xIdx.length))),(15, .d (.v (.int .i64 i.1)))],i.2.2⟩)
    (fun i=>e.xIdx.drop i.1=i.2.1∧td h i.2.2∧lQ Tryz.prog k ((i.2.1.flatMap pw).map b9) (fun b h2=>C b h2∧td h h2) i.2.2) (fun i=>i.2.1.length) (0,e.xIdx,h1) (agE _) ?_ ?_ ⟨rfl,⟨k1,k2⟩,k3⟩ ?_
  ·rw[←k1];exact M5 _ (by rw[k1];exact k2) (by
     show(((AV.dj k).bI h1.length).aS h1.length&&(true&&(true&&(true&&true))))=true;rw[k1,FQ hk];rfl)
  ·rw[←k1];exact Td _ (by rw[k1];exact k2)
  rintro⟨i,rest,hc⟩ ⟨hd,⟨c1,c2⟩,nu⟩;simp only at hd c1 c2 nu ⊢
  repeat refine aN ?_
  refine fq ?_;refine cH rfl ?_;refine du (x:= .d (.v (.bool (decide ((i:Int)<(e.xIdx.length:Int)))))) (by kernel_rfl) rfl rfl ?_;refine cm ?_
  repeat refine aN ?_
  cases rest with
  |nil=>
   rw[bS hd];refine ld (by kernel_rfl) ?_;refine jZ (gK (gK (kZ rfl ?_)));rw[List.flatMap_nil,List.map_nil]at nu;exact Mj c1 c2 ⟨rfl,true,nu.1⟩
  |cons x rest=>
   rw[bR hd];refine lA (by kernel_rfl) ?_;refine et ?_;refine cm ?_
   repeat refine aN ?_
   refine e6 ?_
   repeat refine aN ?_
   refine fq ?_;refine cH rfl ?_;rw[←agO hc];refine du (Jn (q:=i) (e:=80) (k:=4) rfl rfl (by kernel_rfl) (eM (bj hd)) rfl) rfl rfl ?_;refine cH rfl ?_;refine du (x:=fX x) (by kernel_rfl) rfl rfl ?_;refine cH rfl ?_;refine CC (IY (l:=[]) (by kernel_rfl)) rfl rfl Gb ?_;refine cH rfl ?_;refine Mm (L6 (i:=0) (off:=0) (k:=4) (l:=[_]) (v:=fX x) (cp:=(fX x).cells) (by kernel_rfl) rfl (by kernel_rfl) rfl (by kernel_rfl) (by kernel_rfl)) rfl KZ ?_;refine cm ?_
   repeat refine aN ?_
   refine fq ?_;refine cH rfl ?_;refine du (x:= .dj k) (by kernel_rfl) rfl rfl ?_;refine cH rfl ?_;refine du (x:= .ptr (hc.length+0) 0) (by kernel_rfl) rfl rfl ?_;refine cH rfl ?_;refine du (zX (i:=0) (off:=0) (l:=[.cells (fX x).cells]) (x:=b9 x.aQ) (by kernel_rfl) rfl (by kernel_rfl)) rfl rfl ?_;refine cH rfl ?_;rw[List.flatMap_cons,pw,List.cons_append,agS]at nu;have hy:=LH nu [.cells (fX x).cells] (by rw[c1];exact c2) (by kernel_rfl) (fun b h' hh=>hh.1);refine EE (k:=k) (x:=b9 x.aQ) rfl rfl (by kernel_rfl) (by kernel_rfl) rfl rfl ?_;refine hy.mono fun b h' hh=> ?_;obtain⟨h2,⟨⟨p1,p2⟩,p3⟩,rfl⟩:=hh;refine cH rfl ?_;refine du (x:= .d (.v (.bool (!b)))) (by kernel_rfl) rfl rfl ?_;refine cm ?_;have q1:h2.length=h.length:=by rw[p1,c1]
   have q2:h2.all (ak.aS h.length)=true:=by rw[c1]at p2;exact p2
   cases b with
   |false=>
    refine lA (by kernel_rfl) ?_;refine dM ?_
    repeat (first|(with_reducible refine ej ?_)|(with_reducible refine fg ?_))
    exact BG q1 q2 ⟨rfl,false,p3.1⟩
   |true=>
    refine ld (by kernel_rfl) ?_;refine et ?_;refine cm ?_;simp only[cond_true]at p3
    repeat refine aN ?_
    refine fq ?_;refine cH rfl ?_;refine du (x:= .ptr (hc.length+0) 3) (by kernel_rfl) rfl rfl ?_;refine cH rfl ?_;refine du (zX (h:=h2) (i:=0) (off:=3) (l:=[.cells (fX x).cells]) (x:= .d (.sl (cS x.bw))) (by rw[p1];rfl) rfl (by kernel_rfl)) rfl rfl ?_;refine cH rfl ?_;refine du (x:= .d (.v (.int .i64 (cS x.bw).length))) (by kernel_rfl) rfl rfl ?_;refine cH rfl ?_;refine du (x:= .d (.v (.int .i64 0))) (by kernel_rfl) rfl rfl ?_;refine cm ?_;refine oe 25 (cS x.bw) (by kernel_rfl) fun acX=> ?_;have aa0:x.bw.length≤maxLen:=by rw[←bO];exact rb acX
    rw[bO];refine e6 ?_;refine KG (ι:=Nat×List aw×List ak) [0,13,14,15,25,26,27] h.length (fun j=>⟨37,[(0, .dj k),(13, .d (.sl (bM e.xIdx))),(14, .d (.v (.int .i64 e.xIdx.length))),(15, .d (.v (.int .i64 i))),(25, .d (.sl (cS x.bw))),(26, .d (.v (.int .i64 x.bw.length))),(27, .d (.v (.int .i64 j.1)))],j.2.2⟩)
      (fun j=>x.bw.drop j.1=j.2.1∧td h j.2.2∧lQ Tryz.prog k ((j.2.1++rest.flatMap pw).map b9) (fun b h2=>C b h2∧td h h2) j.2.2) (fun j=>j.2.1.length) (0,x.bw,h2) (agE _) ?_ ?_ ⟨rfl,⟨q1,q2⟩,p3⟩ ?_
    ·rw[←q1];exact Ct _ (by rw[q1];exact q2) (by
       show(((AV.dj k).bI h2.length).aS h2.length&&(true&&(true&&(true&&(true&&(true&&(true&&true)))))))=true;rw[q1,FQ hk];rfl)
    ·rw[←q1];exact AY _ (by rw[q1];exact q2)
    rintro⟨j,r2,hb⟩ ⟨mW,⟨b1,b2⟩,um⟩;simp only at mW b1 b2 um ⊢
    repeat refine aN ?_
    refine fq ?_;refine cH rfl ?_;refine du (x:= .d (.v (.bool (decide ((j:Int)<(x.bw.length:Int)))))) (by kernel_rfl) rfl rfl ?_;refine cm ?_
    repeat refine aN ?_
    cases r2 with
    |nil=>
     rw[bS mW];refine ld (by kernel_rfl) ?_;refine jZ (gK (gK (kZ rfl ?_)));refine iJ ?_;refine cm ?_;rw[List.nil_append]at um;refine fq ?_;refine cH rfl ?_;refine du (x:= .d (.v (.int .i64 ((i+1:Nat):Int)))) (by
       show some ((.d (.v (.int .i64 (a7 ((i:Int)+1)))):AV),HD.same)=_;have:=b8 hd rfl nH;unfold an at this;rw[this]) rfl rfl ?_
     refine cH rfl ?_;refine du (x:= .d (.v (.int .i64 ((i+1:Nat):Int)))) (by kernel_rfl) rfl rfl ?_;refine cm ?_;refine⟨?_,(i+1,rest,hb),?_,⟨b7 hd,⟨b1,b2⟩,um⟩,ahf _⟩
     ·rw[←b1];exact M5 _ (by rw[b1];exact b2) (by
        show(((AV.dj k).bI hb.length).aS hb.length&&(true&&(true&&(true&&true))))=true;rw[b1,FQ hk];rfl)
     ·rw[←b1];exact Td _ (by rw[b1];exact b2)
    |cons y r2=>
     rw[bR mW];refine lA (by kernel_rfl) ?_;refine et ?_;refine cm ?_
     repeat refine aN ?_
     refine e6 ?_
     repeat refine aN ?_
     refine fq ?_;refine cH rfl ?_;rw[←agO hb];refine du (Jn (q:=j) (e:=48) (k:=2) rfl rfl (by kernel_rfl) (jv (bj mW)) rfl) rfl rfl ?_;refine cH rfl ?_;refine du (x:=b9 y) (by kernel_rfl) rfl rfl ?_;refine cH rfl ?_;refine CC (IY (l:=[]) (by kernel_rfl)) rfl rfl Gb ?_;refine cH rfl ?_;refine Mm (L6 (i:=0) (off:=0) (k:=2) (l:=[_]) (v:=b9 y) (cp:=(b9 y).cells) (by kernel_rfl) rfl (by kernel_rfl) rfl (by kernel_rfl) (by kernel_rfl)) rfl KZ ?_;refine cm ?_
     repeat refine aN ?_
     refine fq ?_;refine cH rfl ?_;refine du (x:= .dj k) (by kernel_rfl) rfl rfl ?_;refine cH rfl ?_;refine du (zX (i:=0) (off:=0) (l:=[.cells (b9 y).cells]) (x:=b9 y) (by kernel_rfl) rfl (by kernel_rfl)) rfl rfl ?_;refine cH rfl ?_;rw[List.cons_append,agS]at um;have Kq:=LH um [.cells (b9 y).cells] (by rw[b1];exact b2) (by kernel_rfl) (fun b h' hh=>hh.1);refine EE (k:=k) (x:=b9 y) rfl rfl (by kernel_rfl) (by kernel_rfl) rfl rfl ?_;refine Kq.mono fun b h' hh=> ?_;obtain⟨h3,⟨⟨r1,r3⟩,r4⟩,rfl⟩:=hh;refine cH rfl ?_;refine du (x:= .d (.v (.bool (!b)))) (by kernel_rfl) rfl rfl ?_;refine cm ?_;have u1:h3.length=h.length:=by rw[r1,b1]
     have u2:h3.all (ak.aS h.length)=true:=by rw[b1]at r3;exact r3
     cases b with
     |false=>
      refine lA (by kernel_rfl) ?_;refine dM ?_
      repeat (first|(with_reducible refine ej ?_)|(with_reducible refine fg ?_))
      exact BG u1 u2 ⟨rfl,false,r4.1⟩
     |true=>
      refine ld (by kernel_rfl) ?_;refine et ?_;refine iJ ?_;refine cm ?_;simp only[cond_true]at r4;refine fq ?_;refine cH rfl ?_;refine du (x:= .d (.v (.int .i64 ((j+1:Nat):Int)))) (by
       show some ((.d (.v (.int .i64 (a7 ((j:Int)+1)))):AV),HD.same)=_;have:=b8 mW rfl aa0;unfold an at this;rw[this]) rfl rfl ?_
      refine cH rfl ?_;refine du (x:= .d (.v (.int .i64 ((j+1:Nat):Int)))) (by kernel_rfl) rfl rfl ?_;refine cm ?_;refine⟨?_,(j+1,r2,h3),?_,⟨b7 mW,⟨u1,u2⟩,r4⟩,ahf _⟩
      ·rw[←u1];exact Ct _ (by rw[u1];exact u2) (by
         show(((AV.dj k).bI h3.length).aS h3.length&&(true&&(true&&(true&&(true&&(true&&(true&&true)))))))=true;rw[u1,FQ hk];rfl)
      ·rw[←u1];exact AY _ (by rw[u1];exact u2)
theorem ad3(v1:ao):bm Tryz.prog 34 [(aE v1)] (·= .fn 70 [.bn [dw v1] 0 0]):=by
 refine Ko (r:= .fn 70 [(.ptr 0 0)]) (h:=[.cells (aE v1).cells]) ?_ (by kernel_rfl) rfl;refine BX 1 Tryz.func34 rfl (by kernel_rfl) (agB rfl) ?_;refine lS (s':=⟨4,[(0,(aE v1))],[]⟩) (by kernel_rfl) ?_;refine aN ?_;refine rg [] [(1,(.ptr 0 0))] [.cells (aE v1).cells] (by kernel_rfl) ?_;refine aN ?_;refine rg [] [(2,(.fn 70 [(.ptr 0 0)]))] [.cells (aE v1).cells] (by kernel_rfl) ?_;refine dM ?_;exact A0 (by kernel_rfl)
theorem Xd(v1:ao):bm Tryz.prog 205 [(aE v1)] (·= .fn 238 [.bn [dw v1] 0 0]):=by
 refine Ko (r:= .fn 238 [(.ptr 0 0)]) (h:=[.cells (aE v1).cells]) ?_ (by kernel_rfl) rfl;refine BX 1 Tryz.func205 rfl (by kernel_rfl) (agB rfl) ?_;refine lS (s':=⟨4,[(0,(aE v1))],[]⟩) (by kernel_rfl) ?_;refine aN ?_;refine rg [] [(1,(.ptr 0 0))] [.cells (aE v1).cells] (by kernel_rfl) ?_;refine aN ?_;refine rg [] [(2,(.fn 238 [(.ptr 0 0)]))] [.cells (aE v1).cells] (by kernel_rfl) ?_;refine dM ?_;exact A0 (by kernel_rfl)
set_option maxRecDepth 1000000
def Hl:List Func→Bool
 |[]=>true
 |f::l=>bif f.name== "runtime.NumGoroutine" then false else Hl l
theorem Rm:∀{l:List Func},Hl l=true→∀(i:Nat)(f:Func),l[i]?=some f→(f.name== "runtime.NumGoroutine")=false
 |[],_,i,f,h=>by simp at h
 |g::l,hb,i,f,h=>by
  unfold Hl at hb;cases hg:g.name== "runtime.NumGoroutine" with
  |true=>rw[hg]at hb;cases hb
  |false=>
   rw[hg]at hb;cases i with
   |zero=>simp at h;subst h;exact hg
   |succ i=>exact Rm hb i f (by simpa using h)
theorem aeL:Hl Tryz.prog.funcs.toList=true:=by kernel_rfl
theorem ab5:pJ Tryz.prog:=fun f fn h=>Rm aeL f fn (by simpa using h)
theorem adk:Tryz.prog.follows .mixedOrders=true:=by kernel_rfl
end Go.Proofs.YtphmhnabilhbgaaGreatDoor
