/-
  Part 4 of the proof: AbsDat, IterE, KwS, AbsKern.
-/
import Derived.Test.YtpgmcallngdceaaGreatDoorSe3
import Derived.Test.YtpgmcallngdceaaGreatDoorProg
import Derived.WalkKit
import Derived.Shelf.Strings.Fields
import Derived.KernelRfl
namespace Go.Proofs.YtpgmcallngdceaaGreatDoor
open Go.RowKit
set_option linter.unusedVariables false
def KC(x:Int):ak3 D:=[.v (.int .i64 x)]
def oZ(l:ak3 Int):ak3 (ak3 D):=l.map KC
theorem AP(l:ak3 Int):oZ l=l.map KC:=rfl
theorem Su{l:ak3 Int}:(oZ l).length=l.length:=by rw[AP,akk]
theorem aeZ{l:ak3 Int}{k:Nat}{x:Int}(h:l[k]?=some x):(oZ l)[k]?=some (KC x):=by rw[AP,akm,h];rfl
theorem agn{a b:ak3 Int}:oZ a++oZ b=oZ (a++b):=by rw[AP,AP,AP,List.map_append]
theorem Yr{l:ak3 Int}:∀c∈oZ l,c.length=1:=by
 intro c hc;rw[AP]at hc;obtain⟨x,_,rfl⟩:=List.mem_map.1 hc;rfl
def cG(x:ak4):ak3 D:=[.v (.string x)]
def gx(l:ak3 ak4):ak3 (ak3 D):=l.map cG
theorem ru(l:ak3 ak4):gx l=l.map cG:=rfl
theorem AH{l:ak3 ak4}:(gx l).length=l.length:=by rw[ru,akk]
theorem EH{l:ak3 ak4}{k:Nat}{x:ak4}(h:l[k]?=some x):(gx l)[k]?=some (cG x):=by rw[ru,akm,h];rfl
theorem aji{a b:ak3 ak4}:gx a++gx b=gx (a++b):=by rw[ru,ru,ru,List.map_append]
theorem TQ{l:ak3 ak4}:∀c∈gx l,c.length=1:=by
 intro c hc;rw[ru]at hc;obtain⟨x,_,rfl⟩:=List.mem_map.1 hc;rfl
structure aC where
 a8:Int
 bz:Int
 xFrac:Int
 bK:Int
 bM:Int
def ahK(x:aC):ak3 D:=[.v (.int .i64 x.a8), .v (.int .i64 x.bz), .v (.int .i64 x.xFrac), .v (.int .i64 x.bK), .v (.int .i64 x.bM)]
def bY(x:aC):AV:= .agg [.d (.v (.int .i64 x.a8)), .d (.v (.int .i64 x.bz)), .d (.v (.int .i64 x.xFrac)), .d (.v (.int .i64 x.bK)), .d (.v (.int .i64 x.bM))]
structure ay where
 xN:Int64
 xD:Int64
def Jz(x:ay):ak3 D:=[.v (.int .i64 x.xN.toInt), .v (.int .i64 x.xD.toInt)]
def bj(x:ay):AV:= .agg [.d (.v (.int .i64 x.xN.toInt)), .d (.v (.int .i64 x.xD.toInt))]
structure aU where
 aV:ByteArray
 cN:Int64
def uK(x:aU):ak3 D:=[.v (.string x.aV), .v (.int .i64 x.cN.toInt)]
def Hp(x:aU):AV:= .agg [.d (.v (.string x.aV)), .d (.v (.int .i64 x.cN.toInt))]
structure dW where
 yT:aC
 dn:Bool
def kK(x:dW):AV:= .agg [.d (.v (.int .i64 x.yT.a8)), .d (.v (.int .i64 x.yT.bz)), .d (.v (.int .i64 x.yT.xFrac)), .d (.v (.int .i64 x.yT.bK)), .d (.v (.int .i64 x.yT.bM)), .d (.v (.bool x.dn))]
structure eC where
 xT:aC
 vK:Bool
def gg(x:eC):AV:= .agg [.d (.v (.int .i64 x.xT.a8)), .d (.v (.int .i64 x.xT.bz)), .d (.v (.int .i64 x.xT.xFrac)), .d (.v (.int .i64 x.xT.bK)), .d (.v (.int .i64 x.xT.bM)), .d (.v (.bool x.vK))]
def b5(l:ak3 aU):ak3 (ak3 D):=l.map uK
theorem ry(l:ak3 aU):b5 l=l.map uK:=rfl
theorem dg{l:ak3 aU}:(b5 l).length=l.length:=by rw[ry,akk]
theorem eQ{l:ak3 aU}{k:Nat}{x:aU}(h:l[k]?=some x):(b5 l)[k]?=some (uK x):=by rw[ry,akm,h];rfl
theorem aa4{a b:ak3 aU}:b5 a++b5 b=b5 (a++b):=by rw[ry,ry,ry,List.map_append]
theorem Ad{l:ak3 aU}:∀c∈b5 l,c.length=2:=by
 intro c hc;rw[ry]at hc;obtain⟨x,_,rfl⟩:=List.mem_map.1 hc;rfl
theorem Gd{l:ak3 aU}{k:Nat}:(b5 l).drop k=b5 (l.drop k):=by rw[ry,ry,List.map_drop]
def pW(l:ak3 ay):ak3 (ak3 D):=l.map Jz
theorem xX(l:ak3 ay):pW l=l.map Jz:=rfl
theorem SF{l:ak3 ay}:(pW l).length=l.length:=by rw[xX,akk]
theorem ahq{l:ak3 ay}{k:Nat}{x:ay}(h:l[k]?=some x):(pW l)[k]?=some (Jz x):=by rw[xX,akm,h];rfl
theorem agR{a b:ak3 ay}:pW a++pW b=pW (a++b):=by rw[xX,xX,xX,List.map_append]
theorem ab2{l:ak3 ay}:∀c∈pW l,c.length=2:=by
 intro c hc;rw[xX]at hc;obtain⟨x,_,rfl⟩:=List.mem_map.1 hc;rfl
structure aF where
 xK:Int64
 xL:List aU
def iY(x:aF):ak3 D:=[.v (.int .i64 x.xK.toInt), .sl (b5 x.xL)]
def b9(x:aF):AV:= .agg [.d (.v (.int .i64 x.xK.toInt)), .d (.sl (b5 x.xL))]
structure aes where
 aM:aF
 xEq:Bool
structure VH where
 aV:ByteArray
 aka:aF
def du(l:ak3 aF):ak3 (ak3 D):=l.map iY
theorem qp(l:ak3 aF):du l=l.map iY:=rfl
theorem eV{l:ak3 aF}:(du l).length=l.length:=by rw[qp,akk]
theorem mR{l:ak3 aF}{k:Nat}{x:aF}(h:l[k]?=some x):(du l)[k]?=some (iY x):=by rw[qp,akm,h];rfl
theorem ad8{a b:ak3 aF}:du a++du b=du (a++b):=by rw[qp,qp,qp,List.map_append]
theorem WV{l:ak3 aF}:∀c∈du l,c.length=2:=by
 intro c hc;rw[qp]at hc;obtain⟨x,_,rfl⟩:=List.mem_map.1 hc;rfl
structure aH where
 aM:aF
 xFrom:ByteArray
 bD:List aF
def eY(x:aH):ak3 D:=[.v (.int .i64 x.aM.xK.toInt), .sl (b5 x.aM.xL), .v (.string x.xFrom), .sl (du x.bD)]
def gA(x:aH):AV:= .agg [.d (.v (.int .i64 x.aM.xK.toInt)), .d (.sl (b5 x.aM.xL)), .d (.v (.string x.xFrom)), .d (.sl (du x.bD))]
structure aen where
 aV:ByteArray
 aD:aC
 YG:List aF
def cm(l:ak3 aH):ak3 (ak3 D):=l.map eY
theorem qD(l:ak3 aH):cm l=l.map eY:=rfl
theorem dP{l:ak3 aH}:(cm l).length=l.length:=by rw[qD,akk]
theorem fI{l:ak3 aH}{k:Nat}{x:aH}(h:l[k]?=some x):(cm l)[k]?=some (eY x):=by rw[qD,akm,h];rfl
theorem Zu{a b:ak3 aH}:cm a++cm b=cm (a++b):=by rw[qD,qD,qD,List.map_append]
theorem Td{l:ak3 aH}:∀c∈cm l,c.length=4:=by
 intro c hc;rw[qD]at hc;obtain⟨x,_,rfl⟩:=List.mem_map.1 hc;rfl
structure an where
 ar:Int
 aV:ByteArray
 ba:ay
 aD:aC
 aM:aF
 xIdx:List aH
 ax:List an
mutual
def Ln:an→ak3 D
 |⟨ar,aV,ba,aD,aM,xIdx,ax⟩=>[.v (.int .i64 ar), .v (.string aV), .v (.int .i64 ba.xN.toInt), .v (.int .i64 ba.xD.toInt), .v (.int .i64 aD.a8), .v (.int .i64 aD.bz), .v (.int .i64 aD.xFrac), .v (.int .i64 aD.bK), .v (.int .i64 aD.bM), .v (.int .i64 aM.xK.toInt), .sl (b5 aM.xL), .sl (cm xIdx), .sl (cq ax)]
def cq:ak3 an→ak3 (ak3 D)
 |[]=>[]
 |x::l=>Ln x::cq l
end
def cJ(x:an):ak3 D:=[.v (.int .i64 x.ar), .v (.string x.aV), .v (.int .i64 x.ba.xN.toInt), .v (.int .i64 x.ba.xD.toInt), .v (.int .i64 x.aD.a8), .v (.int .i64 x.aD.bz), .v (.int .i64 x.aD.xFrac), .v (.int .i64 x.aD.bK), .v (.int .i64 x.aD.bM), .v (.int .i64 x.aM.xK.toInt), .sl (b5 x.aM.xL), .sl (cm x.xIdx), .sl (cq x.ax)]
theorem abc(x:an):Ln x=cJ x:=by cases x;simp only[Ln];rfl
theorem fa:∀l:ak3 an,cq l=l.map cJ
 |[]=>by simp [cq]
 |x::l=>by simp [cq,abc,fa l]
theorem dC{l:ak3 an}:(cq l).length=l.length:=by rw[fa,akk]
theorem bt{l:ak3 an}{k:Nat}{x:an}(h:l[k]?=some x):(cq l)[k]?=some (cJ x):=by rw[fa,akm,h];rfl
theorem acQ{a b:ak3 an}:cq a++cq b=cq (a++b):=by rw[fa,fa,fa,List.map_append]
theorem Hm{l:ak3 an}:∀c∈cq l,c.length=13:=by
 intro c hc;rw[fa]at hc;obtain⟨x,_,rfl⟩:=List.mem_map.1 hc;rfl
def aA(x:an):AV:= .agg [.d (.v (.int .i64 x.ar)), .d (.v (.string x.aV)), .d (.v (.int .i64 x.ba.xN.toInt)), .d (.v (.int .i64 x.ba.xD.toInt)), .d (.v (.int .i64 x.aD.a8)), .d (.v (.int .i64 x.aD.bz)), .d (.v (.int .i64 x.aD.xFrac)), .d (.v (.int .i64 x.aD.bK)), .d (.v (.int .i64 x.aD.bM)), .d (.v (.int .i64 x.aM.xK.toInt)), .d (.sl (b5 x.aM.xL)), .d (.sl (cm x.xIdx)), .d (.sl (cq x.ax))]
structure ajL where
 aV:ByteArray
 aD:aC
 YG:List VH
 aj8:List VH
 aj4:Int
 aiA:an
structure cB where
 yE:an
 gN:dW
def bI(x:cB):AV:= .agg [.d (.v (.int .i64 x.yE.ar)), .d (.v (.string x.yE.aV)), .d (.v (.int .i64 x.yE.ba.xN.toInt)), .d (.v (.int .i64 x.yE.ba.xD.toInt)), .d (.v (.int .i64 x.yE.aD.a8)), .d (.v (.int .i64 x.yE.aD.bz)), .d (.v (.int .i64 x.yE.aD.xFrac)), .d (.v (.int .i64 x.yE.aD.bK)), .d (.v (.int .i64 x.yE.aD.bM)), .d (.v (.int .i64 x.yE.aM.xK.toInt)), .d (.sl (b5 x.yE.aM.xL)), .d (.sl (cm x.yE.xIdx)), .d (.sl (cq x.yE.ax)), .d (.v (.int .i64 x.gN.yT.a8)), .d (.v (.int .i64 x.gN.yT.bz)), .d (.v (.int .i64 x.gN.yT.xFrac)), .d (.v (.int .i64 x.gN.yT.bK)), .d (.v (.int .i64 x.gN.yT.bM)), .d (.v (.bool x.gN.dn))]
structure La where
 ajV:List ByteArray
 aj1:List aes
 akb:List aen
 ajX:List ajL
 akd:List ByteArray
def aS(s:ak4):AV:= .d (.v (.string s))
def aw(n:Int):AV:= .d (.v (.int .i64 n))
def aI(n:Int64):AV:= .d (.v (.int .i64 n.toInt))
def aB(b:Bool):AV:= .d (.v (.bool b))
abbrev aQ(n:Int):Int:=IntKind.i64.wrap n
theorem yN(a:Int):IntKind.i64.wrap a=a.bmod (2^64):=by
 rw[IntKind.wrap_i64,Int.bmod_def];omega
theorem eP(a:Int):aw (aQ a)=aI (Int64.ofInt a):=by
 unfold aw aI aQ;rw[yN,Int64.toInt_ofInt]
theorem lA(a b:Int64):aw (aQ (a.toInt+b.toInt))=aI (a+b):=by
 unfold aw aI aQ;rw[yN,Int64.toInt_add]
theorem gk(a b:Int64):aw (aQ (a.toInt-b.toInt))=aI (a-b):=by
 unfold aw aI aQ;rw[yN,Int64.toInt_sub]
theorem dS(a b:Int64):aw (aQ (a.toInt*b.toInt))=aI (a*b):=by
 unfold aw aI aQ;rw[yN,Int64.toInt_mul]
theorem jO(a:Int64):aw (aQ (0-a.toInt))=aI (-a):=by
 unfold aw aI aQ;rw[yN,Int64.toInt_neg,Int.zero_sub]
theorem Qr{a:Int}(h:aQ a=a):aw a=aI (Int64.ofInt a):=by
 rw[←eP,h]
theorem ade(a:Int)(m:Nat)(h1: -9223372036854775808≤a)(h2:a<9223372036854775808): -9223372036854775808≤a.fdiv (2^m)∧a.fdiv (2^m)<9223372036854775808:=by
 have hp:(0:Int)<2^m:=Int.pow_pos (by decide);rw[Int.fdiv_eq_ediv_of_nonneg _ (Int.le_of_lt hp)];generalize (2:Int)^m=p at*;by_cases h:0≤a
 ·have h3:=Int.ediv_nonneg h (Int.le_of_lt hp);have h4:=Int.ediv_le_self p h;omega
 ·have h3:a / p<0:=Int.ediv_neg_of_neg_of_pos (by omega) hp;have h4:a≤a / p:=by
   refine(Int.le_ediv_iff_mul_le hp).2 ?_;have:=Int.mul_le_mul_of_nonpos_left (a:=a) (b:=p) (c:=1) (by omega) (by omega);omega
  omega
theorem agZ(a:Int64)(m:Nat):aw (a.toInt.fdiv (2^m))=aI (Int64.ofInt (a.toInt.fdiv (2^m))):=by
 refine Qr ?_;have h:=ade a.toInt m (by have:=a.le_toInt;simpa using this) (by have:=a.toInt_lt;simpa using this);unfold aQ;rw[IntKind.wrap_i64];omega
theorem Ep(a:Int64)(b:Int):aw (a.toInt.tmod b)=aI (Int64.ofInt (a.toInt.tmod b)):=by
 refine Qr ?_;unfold aQ;rw[IntKind.wrap_i64];have h1:=a.le_toInt;have h2:=a.toInt_lt;have h3:=Int.natAbs_tmod a.toInt b;have h4:(a.toInt.tmod b).natAbs≤a.toInt.natAbs:=by rw[h3];exact Nat.mod_le _ _
 have h7: -9223372036854775808≤a.toInt∧a.toInt≤9223372036854775807:=by omega
 clear h1 h2 h3;by_cases h5:0≤a.toInt
 ·have:=Int.tmod_nonneg b h5;generalize a.toInt.tmod b=x at*;omega
 ·have h6:=Int.tmod_nonneg b (show 0≤-a.toInt by omega);rw[Int.neg_tmod]at h6;generalize a.toInt.tmod b=x at*;omega
theorem dj{α:Type}{l:ak3 α}{k:Nat}{x:α}{xs:ak3 α}{n:Nat}(hd:l.drop k=x::xs)(hn:l.length=n)(hl:n≤maxLen):aw (aQ ((k:Int)+1))=aw ((k+1:Nat):Int):=by
 have:(l.drop k).length=(x::xs).length:=by rw[hd]
 rw[List.length_drop,aki]at this;have h1:k<maxLen:=by omega
 unfold maxLen at h1;have e:IntKind.i64.wrap ((k:Int)+1)=((k+1:Nat):Int):=by rw[IntKind.wrap_i64];omega
 unfold aw aQ;rw[e]
theorem cd{α:Type}{l:ak3 α}{k:Nat}{x:α}{xs:ak3 α}(hd:l.drop k=x::xs):l[k]?=some x:=by
 have:(l.drop k)[0]?=some x:=by rw[hd];rfl
 rwa [List.getElem?_drop]at this
theorem jN{α:Type}{l:ak3 α}{k:Nat}{x:α}{xs:ak3 α}(hd:l.drop k=x::xs):l.drop (k+1)=xs:=by
 rw[←List.drop_drop,hd];rfl
theorem cF{α:Type}{l:ak3 α}{k:Nat}{x:α}{xs:ak3 α}(hd:l.drop k=x::xs):decide ((k:Int)<(l.length:Int))=true:=by
 have:(l.drop k).length=(x::xs).length:=by rw[hd]
 rw[List.length_drop,aki]at this;exact akW (by omega)
theorem cM{α:Type}{l:ak3 α}{k:Nat}(hd:l.drop k=[]):decide ((k:Int)<(l.length:Int))=false:=by
 have:=List.drop_eq_nil_iff.1 hd;exact akX (by omega)
theorem ph{n ct:Nat}(h:Nat.ble (n*ct) 140737488355328=true)(hb:1≤ct):n≤maxLen∧n*ct≤140737488355328:=by
 have h:=akn h;refine⟨?_,h⟩;unfold maxLen;have:=Nat.le_mul_of_pos_right n hb;omega
theorem af:Tryz.prog.follows .mixedOrders=true:=by kernel_rfl
set_option maxRecDepth 100000
set_option maxHeartbeats 0
def nH(a b:Int64):Int64:=if b.toInt>a.toInt then b else a
def tb(a b:Int64):Int64:=if b.toInt<a.toInt then b else a
theorem Xe(a b:Int64):(if b.toInt>a.toInt then b.toInt else a.toInt)=(nH a b).toInt:=by unfold nH;split<;>rfl
theorem ahg(a b:Int64):(if b.toInt<a.toInt then b.toInt else a.toInt)=(tb a b).toInt:=by unfold tb;split<;>rfl
theorem Rq(a b:Int64):AV.d (.v (.int .i64 (if b.toInt>a.toInt then b.toInt else a.toInt)))=aI (nH a b):=by rw[Xe];rfl
theorem adg(a b:Int64):AV.d (.v (.int .i64 (if b.toInt<a.toInt then b.toInt else a.toInt)))=aI (tb a b):=by rw[ahg];rfl
mutual
def NS:an→ak3 an
 |⟨o,n,v,t,l,i,xs⟩=>⟨o,n,v,t,l,i,xs⟩::iG xs
def iG:ak3 an→ak3 an
 |[]=>[]
 |x::l=>NS x++iG l
end
def cz(e:an):ak3 an:=e::iG e.ax
theorem aiy(e:an):NS e=cz e:=by cases e;simp only[NS];rfl
theorem AY(x:an)(l:ak3 an):iG (x::l)=cz x++iG l:=by rw[iG,aiy]
theorem Nz{P:ak6}{k:Nat}:∀(l:ak3 AV){C:Bool→ak3 aq→Prop}{h:ak3 aq},h.all (aq.aT h.length)=true→lJ P k l C h→lJ P k l (fun b h1=>C b h1∧sD h h1) h
 |[],_,_,hl,hs=>⟨hs,rfl,hl⟩
 |x::l,C,h,hl,hs=>YS.mono hs fun b h1 ⟨h2,h3⟩=>⟨h2,by
  cases b with
  |true=>exact Ut l (fun b h4 ⟨h5,h6,h7⟩=>⟨h5,by rw[h6,h2.1],by rw[h2.1]at h7;exact h7⟩) (Nz l (by rw[h2.1];exact h2.2) h3)
  |false=>exact⟨h3,h2⟩⟩
def H0(e:an):Prop:=∀(k:Nat)(h:ak3 aq)(C:Bool→ak3 aq→Prop),h.all (aq.aT h.length)=true→k<h.length→lJ Tryz.prog k ((cz e).map aA) C h→bQ Tryz.prog 66 [aA e, .cH k] h fun r h1=>∃b,r= .d (.v (.bool b))∧C b h1∧sD h h1
theorem Ql{P:ak6}{fn:Func}{n:Nat}{t:ak3 (Nat×AV)}{H h1 l:ak3 aq}{K:AV→ak3 aq→Prop}(k1:h1.length=H.length)(k2:h1.all (aq.aT H.length)=true)(hr:lu P ⟨n,t,h1++l⟩ fn.results.toList fun rs=>((iE rs).bA h1.length).aT h1.length=true∧K ((iE rs).bA h1.length) h1):oW P fn H.length K ⟨n,t,h1++l⟩:=by
 rw[←k1]at k2 ⊢;exact aab k2 hr
theorem CN{P:ak6}{fn:Func}{n:Nat}{t:ak3 (Nat×AV)}{H h1 l:ak3 aq}{K:AV→ak3 aq→Prop}(k1:h1.length=H.length)(k2:h1.all (aq.aT H.length)=true)(hr:lu P ⟨n,t,h1++l⟩ fn.results.toList fun rs=>((iE rs).bA h1.length).aT h1.length=true∧K ((iE rs).bA h1.length) h1):HA P fn H.length K .ret ⟨n,t,h1++l⟩:=Ql k1 k2 hr
theorem acY(e:an)(wx:∀x∈e.ax,H0 x):H0 e:=by
 intro k h C nP hk hs;refine zL h.length Tryz.func66 rfl (by kernel_rfl) (akq _) ?_
 suffices hA:bJ Tryz.prog none h.length _ _ ⟨23,[(0,aA e),(1, .cH k)],h++[]⟩ by rw[akA]at hA;exact hA
 repeat refine bH ?_
 refine fg ?_;refine cv rfl ?_;refine ER (ajv (l:=[]) (v:=aA e) rfl (by kernel_rfl)) rfl rfl Jf ?_;refine cv rfl ?_;refine dd (x:= .d (.v (.bool false))) (by kernel_rfl) rfl rfl ?_;refine cA ?_
 repeat refine bH ?_
 refine fg ?_;refine cv rfl ?_;refine dd (x:= .cH k) (by kernel_rfl) rfl rfl ?_;refine cv rfl ?_;refine dd (zJ (i:=0) (off:=0) (l:=[]++[.cells (aA e).cells]) (x:=aA e) (by kernel_rfl) rfl (by kernel_rfl)) rfl rfl ?_;refine cv rfl ?_;rw[cz,akE]at hs;have hy:=Pf (Nz (aA e::_) nP hs) [.cells (aA e).cells] nP (by kernel_rfl) (fun b h' hh=>hh.1);refine Ho (k:=k) (x:=aA e) rfl rfl (by kernel_rfl) (by kernel_rfl) rfl rfl ?_;refine hy.mono fun b h' hh=> ?_;obtain⟨h1,⟨⟨k1,k2⟩,k3⟩,rfl⟩:=hh;refine cv rfl ?_;refine dd (x:= .d (.v (.bool (!b)))) (by kernel_rfl) rfl rfl ?_;refine cA ?_;cases b with
 |false=>
  refine me (by kernel_rfl) ?_
  repeat refine bH ?_
  refine fg ?_;refine cv rfl ?_;refine dd (x:= .d (.v (.bool false))) (by kernel_rfl) rfl rfl ?_;refine cA ?_;refine dU (fu ?_);refine CN k1 k2 ?_;exact⟨rfl,false,rfl,k3⟩
 |true=>
  refine mg (by kernel_rfl) ?_;refine fM ?_;refine cA ?_;simp only[cond_true]at k3
  repeat refine bH ?_
  refine fg ?_;refine cv rfl ?_;refine dd (x:= .ptr (h.length+0) 12) (by kernel_rfl) rfl rfl ?_;refine cv rfl ?_;refine dd (zJ (h:=h1) (i:=0) (off:=12) (l:=[.cells (aA e).cells]) (x:= .d (.sl (cq e.ax))) (by rw[k1];rfl) rfl (by kernel_rfl)) rfl rfl ?_;refine cv rfl ?_;refine dd (x:= .d (.v (.int .i64 (cq e.ax).length))) (by kernel_rfl) rfl rfl ?_;refine cv rfl ?_;refine dd (x:= .d (.v (.int .i64 0))) (by kernel_rfl) rfl rfl ?_;refine cA ?_;refine yM 12 (cq e.ax) (by kernel_rfl) fun b4=> ?_;have nj:e.ax.length≤maxLen:=by rw[←dC];exact xq b4
  rw[dC]
  repeat refine bH ?_
  refine gO ?_;refine Pb (ι:=Nat×ak3 an×ak3 aq) [1,12,13,14] h.length (fun i=>⟨23,[(1, .cH k),(12, .d (.sl (cq e.ax))),(13, .d (.v (.int .i64 e.ax.length))),(14, .d (.v (.int .i64 i.1)))],i.2.2⟩)
   (fun i=>e.ax.drop i.1=i.2.1∧sD h i.2.2∧lJ Tryz.prog k ((iG i.2.1).map aA) (fun b h2=>C b h2∧sD h h2) i.2.2) (fun i=>i.2.1.length) (0,e.ax,h1) (akq _) ?_ ?_ ⟨rfl,⟨k1,k2⟩,k3⟩ ?_
  ·rw[←k1];exact BX _ (by rw[k1];exact k2) (by
     show(((AV.cH k).bA h1.length).aT h1.length&&(true&&(true&&(true&&true))))=true;rw[k1];simp [AV.bA,AV.aT,cf];omega)
  ·rw[←k1];exact D4 _ (by rw[k1];exact k2)
  rintro⟨i,rest,hc⟩ ⟨hd,⟨c1,c2⟩,nc⟩;simp only at hd c1 c2 nc ⊢
  repeat refine bH ?_
  refine fg ?_;refine cv rfl ?_;refine dd (x:= .d (.v (.bool (decide ((i:Int)<(e.ax.length:Int)))))) (by kernel_rfl) rfl rfl ?_;refine cA ?_;refine bH ?_;cases rest with
  |nil=>
   rw[cM hd];refine mg (by kernel_rfl) ?_;refine pC (lF (lF (sf rfl ?_)));refine cA ?_
   repeat refine bH ?_
   refine fg ?_;refine cv rfl ?_;rw[←akA hc];refine dd (x:= .d (.v (.bool true))) (by kernel_rfl) rfl rfl ?_;refine cA ?_;refine dU ?_;refine CN c1 c2 ?_;rw[iG,List.map_nil]at nc;exact⟨rfl,true,rfl,nc⟩
  |cons x rest=>
   rw[cF hd];refine me (by kernel_rfl) ?_;refine fM ?_;refine cA ?_
   repeat refine bH ?_
   refine gO ?_
   repeat refine bH ?_
   refine fg ?_;refine cv rfl ?_;rw[←akA hc];refine dd (L4 (q:=i) (e:=32) (k:=13) rfl rfl (by kernel_rfl) (bt (cd hd)) rfl) rfl rfl ?_;refine cv rfl ?_;refine dd (x:=aA x) (by kernel_rfl) rfl rfl ?_;refine cv rfl ?_;refine ER (Ky (l:=[]) (by kernel_rfl)) rfl rfl Jf ?_;refine cv rfl ?_;refine KA (M1 (i:=0) (off:=0) (k:=13) (l:=[_]) (v:=aA x) (b7:=(aA x).cells) (by kernel_rfl) rfl (by kernel_rfl) rfl (by kernel_rfl) (by kernel_rfl)) rfl Nn ?_;refine cA ?_
   repeat refine bH ?_
   refine fg ?_;refine cv rfl ?_;refine dd (zJ (i:=0) (off:=0) (l:=[.cells (aA x).cells]) (x:=aA x) (by kernel_rfl) rfl (by kernel_rfl)) rfl rfl ?_;refine cv rfl ?_;refine dd (x:= .cH k) (by kernel_rfl) rfl rfl ?_;refine cv rfl ?_;rw[AY,List.map_append]at nc;have vg:=Rl _ _ nc;have hw:=wx x (aks (cd hd)) k hc _ (by rw[c1];exact c2) (by rw[c1];exact hk) vg;have hw2:=ZO hw [.cells (aA x).cells] (by rw[c1];exact c2) (by
    rw[c1];show((aA x).aT h.length&&((AV.cH k).aT h.length&&true))=true;rw[show(aA x).aT h.length=true by kernel_rfl];simp [AV.aT,cf];omega) (fun r h' hh=>by
    obtain⟨b,rfl,_,q1,q2⟩:=hh;exact⟨q1,q2,rfl⟩)
   refine TC (g:=66) (cY:=[]) rfl rfl rfl ?_;refine hw2.mono fun r h' hh=> ?_;obtain⟨h2,⟨b,rfl,q0,q1,q2⟩,rfl⟩:=hh;refine cv rfl ?_;refine dd (x:= .d (.v (.bool (!b)))) (by kernel_rfl) rfl rfl ?_;refine cA ?_;cases b with
   |false=>
    refine me (by kernel_rfl) ?_
    repeat refine bH ?_
    refine fg ?_;refine cv rfl ?_;refine dd (x:= .d (.v (.bool false))) (by kernel_rfl) rfl rfl ?_;refine cA ?_;refine dU (gv (fu (fu (gv (fu ?_)))));refine CN (h1:=h2) (by rw[q1,c1]) (by rw[c1]at q2;exact q2) ?_;exact⟨rfl,false,rfl,q0⟩
   |true=>
    refine mg (by kernel_rfl) ?_;refine fM ?_;refine ln ?_;refine cA ?_;simp only[cond_true]at q0;refine fg ?_;refine cv rfl ?_;refine dd (x:= .d (.v (.int .i64 ((i+1:Nat):Int)))) (by
     show some ((.d (.v (.int .i64 (aQ ((i:Int)+1)))):AV),HD.same)=_;have:=dj hd rfl nj;unfold aw at this;rw[this]) rfl rfl ?_
    refine cv rfl ?_;refine dd (x:= .d (.v (.int .i64 ((i+1:Nat):Int)))) (by kernel_rfl) rfl rfl ?_;refine cA ?_;have e1:h2.length=h.length:=by rw[q1,c1]
    have e2:h2.all (aq.aT h2.length)=true:=by rw[q1];exact q2
    refine⟨?_,(i+1,rest,h2),?_,⟨jN hd,⟨e1,by rw[←e1];exact e2⟩,q0⟩,ak1 _⟩
    ·rw[←e1];exact BX _ e2 (by
       show(((AV.cH k).bA h2.length).aT h2.length&&(true&&(true&&(true&&true))))=true;rw[e1];simp [AV.bA,AV.aT,cf];omega)
    ·rw[←e1];exact D4 _ e2
mutual
theorem TA:(e:an)→H0 e
 |⟨_,_,_,_,_,_,xs⟩=>acY _ (TX xs)
theorem TX:(l:ak3 an)→∀x∈l,H0 x
 |[],_,h=>absurd h akV
 |x::l,y,h=>(akJ.1 h).elim (fun e=>e▸TA x) (TX l y)
end
theorem Pn{P:ak6}{fn:Func}{n:Nat}{t:ak3 (Nat×AV)}{H h1:ak3 aq}{K:AV→ak3 aq→Prop}(k1:h1.length=H.length)(k2:h1.all (aq.aT H.length)=true)(hr:lu P ⟨n,t,h1⟩ fn.results.toList fun rs=>((iE rs).bA h1.length).aT h1.length=true∧K ((iE rs).bA h1.length) h1):HA P fn H.length K .normal ⟨n,t,h1⟩:=by
 have:=Ql (P:=P) (fn:=fn) (n:=n) (t:=t) (l:=[]) (K:=K) k1 k2;rw[akA]at this;exact this hr
theorem aer{P:ak6}{fn:Func}{n:Nat}{t:ak3 (Nat×AV)}{H h1:ak3 aq}{K:AV→ak3 aq→Prop}(k1:h1.length=H.length)(k2:h1.all (aq.aT H.length)=true)(hr:lu P ⟨n,t,h1⟩ fn.results.toList fun rs=>((iE rs).bA h1.length).aT h1.length=true∧K ((iE rs).bA h1.length) h1):HA P fn H.length K .ret ⟨n,t,h1⟩:=Pn k1 k2 hr
theorem T4(e:an):OG Tryz.prog 65 [.bE [cJ e] 0 0] ((cz e).map aA):=by
 intro k h C nP hk hs;refine zL h.length Tryz.func65 rfl (by kernel_rfl) (akq _) ?_;show bJ Tryz.prog none h.length _ _ ⟨6,[(0, .cH k),(1, .bE [cJ e] 0 0)],h⟩;refine fg ?_;refine cv rfl ?_;refine dd (x:=aA e) (by kernel_rfl) rfl rfl ?_;refine cv rfl ?_;refine dd (x:= .cH k) (by kernel_rfl) rfl rfl ?_;refine cv rfl ?_;refine TC (g:=66) (cY:=[]) rfl rfl rfl ?_;refine(TA e k h C nP hk hs).mono fun r h' hh=> ?_;obtain⟨b,rfl,q0,q1,q2⟩:=hh;refine Pn (n:=6) (t:=[(5, .d (.v (.bool b))),(4, .cH k),(3,aA e),(0, .cH k),(1, .bE [cJ e] 0 0)]) q1 q2 ?_;exact⟨rfl,b,q0⟩
def vz(x:aH):ak3 aF:=x.aM::x.bD
def mT(e:an):ak3 aF:=e.aM::e.xIdx.flatMap vz
theorem aih(e:an):OG Tryz.prog 176 [.bE [cJ e] 0 0] ((mT e).map b9):=by
 intro k h C nP hk O6;have hs:=Nz _ nP O6;refine zL h.length Tryz.func176 rfl (by kernel_rfl) (akq _) ?_;show bJ Tryz.prog none h.length _ _ ⟨37,[(0, .cH k),(1, .bE [cJ e] 0 0)],h⟩
 repeat refine bH ?_
 refine fg ?_;refine cv rfl ?_;refine dd (x:= .cH k) (by kernel_rfl) rfl rfl ?_;refine cv rfl ?_;refine dd (x:= .bE [cJ e] 0 9) (by kernel_rfl) rfl rfl ?_;refine cv rfl ?_;refine dd (x:=b9 e.aM) (by kernel_rfl) rfl rfl ?_;refine cv rfl ?_;rw[mT,akE]at hs;refine Ho (k:=k) (x:=b9 e.aM) rfl rfl (by kernel_rfl) (by kernel_rfl) rfl rfl ?_;refine YS.mono hs fun b h1 hh=> ?_;obtain⟨⟨k1,k2⟩,k3⟩:=hh;refine cv rfl ?_;refine dd (x:= .d (.v (.bool (!b)))) (by kernel_rfl) rfl rfl ?_;refine cA ?_;cases b with
 |false=>
  refine me (by kernel_rfl) ?_;refine dU (fu ?_);exact aer k1 k2 ⟨rfl,false,k3.1⟩
 |true=>
  refine mg (by kernel_rfl) ?_;refine fM ?_;refine cA ?_;simp only[cond_true]at k3
  repeat refine bH ?_
  refine fg ?_;refine cv rfl ?_;refine dd (x:= .bE [cJ e] 0 11) (by kernel_rfl) rfl rfl ?_;refine cv rfl ?_;refine dd (x:= .d (.sl (cm e.xIdx))) (by kernel_rfl) rfl rfl ?_;refine cv rfl ?_;refine dd (x:= .d (.v (.int .i64 (cm e.xIdx).length))) (by kernel_rfl) rfl rfl ?_;refine cv rfl ?_;refine dd (x:= .d (.v (.int .i64 0))) (by kernel_rfl) rfl rfl ?_;refine cA ?_;refine yM 13 (cm e.xIdx) (by kernel_rfl) fun b4=> ?_;have nj:e.xIdx.length≤maxLen:=by rw[←dP];exact xq b4
  rw[dP];refine gO ?_;refine Pb (ι:=Nat×ak3 aH×ak3 aq) [0,13,14,15] h.length (fun i=>⟨37,[(0, .cH k),(13, .d (.sl (cm e.xIdx))),(14, .d (.v (.int .i64 e.xIdx.length))),(15, .d (.v (.int .i64 i.1)))],i.2.2⟩)
    (fun i=>e.xIdx.drop i.1=i.2.1∧sD h i.2.2∧lJ Tryz.prog k ((i.2.1.flatMap vz).map b9) (fun b h2=>C b h2∧sD h h2) i.2.2) (fun i=>i.2.1.length) (0,e.xIdx,h1) (akq _) ?_ ?_ ⟨rfl,⟨k1,k2⟩,k3⟩ ?_
  ·rw[←k1];exact Ud _ (by rw[k1];exact k2) (by
     show(((AV.cH k).bA h1.length).aT h1.length&&(true&&(true&&(true&&true))))=true;rw[k1,Jh hk];rfl)
  ·rw[←k1];exact Xp _ (by rw[k1];exact k2)
  rintro⟨i,rest,hc⟩ ⟨hd,⟨c1,c2⟩,nc⟩;simp only at hd c1 c2 nc ⊢
  repeat refine bH ?_
  refine fg ?_;refine cv rfl ?_;refine dd (x:= .d (.v (.bool (decide ((i:Int)<(e.xIdx.length:Int)))))) (by kernel_rfl) rfl rfl ?_;refine cA ?_
  repeat refine bH ?_
  cases rest with
  |nil=>
   rw[cM hd];refine mg (by kernel_rfl) ?_;refine pC (lF (lF (sf rfl ?_)));rw[List.flatMap_nil,List.map_nil]at nc;exact Pn c1 c2 ⟨rfl,true,nc.1⟩
  |cons x rest=>
   rw[cF hd];refine me (by kernel_rfl) ?_;refine fM ?_;refine cA ?_
   repeat refine bH ?_
   refine gO ?_
   repeat refine bH ?_
   refine fg ?_;refine cv rfl ?_;rw[←akA hc];refine dd (L4 (q:=i) (e:=60) (k:=4) rfl rfl (by kernel_rfl) (fI (cd hd)) rfl) rfl rfl ?_;refine cv rfl ?_;refine dd (x:=gA x) (by kernel_rfl) rfl rfl ?_;refine cv rfl ?_;refine ER (Ky (l:=[]) (by kernel_rfl)) rfl rfl Jf ?_;refine cv rfl ?_;refine KA (M1 (i:=0) (off:=0) (k:=4) (l:=[_]) (v:=gA x) (b7:=(gA x).cells) (by kernel_rfl) rfl (by kernel_rfl) rfl (by kernel_rfl) (by kernel_rfl)) rfl Nn ?_;refine cA ?_
   repeat refine bH ?_
   refine fg ?_;refine cv rfl ?_;refine dd (x:= .cH k) (by kernel_rfl) rfl rfl ?_;refine cv rfl ?_;refine dd (x:= .ptr (hc.length+0) 0) (by kernel_rfl) rfl rfl ?_;refine cv rfl ?_;refine dd (zJ (i:=0) (off:=0) (l:=[.cells (gA x).cells]) (x:=b9 x.aM) (by kernel_rfl) rfl (by kernel_rfl)) rfl rfl ?_;refine cv rfl ?_;rw[List.flatMap_cons,vz,List.cons_append,akE]at nc;have hy:=Pf nc [.cells (gA x).cells] (by rw[c1];exact c2) (by kernel_rfl) (fun b h' hh=>hh.1);refine Ho (k:=k) (x:=b9 x.aM) rfl rfl (by kernel_rfl) (by kernel_rfl) rfl rfl ?_;refine hy.mono fun b h' hh=> ?_;obtain⟨h2,⟨⟨p1,p2⟩,p3⟩,rfl⟩:=hh;refine cv rfl ?_;refine dd (x:= .d (.v (.bool (!b)))) (by kernel_rfl) rfl rfl ?_;refine cA ?_;have q1:h2.length=h.length:=by rw[p1,c1]
   have q2:h2.all (aq.aT h.length)=true:=by rw[c1]at p2;exact p2
   cases b with
   |false=>
    refine me (by kernel_rfl) ?_;refine dU ?_
    repeat (first|(with_reducible refine fu ?_)|(with_reducible refine gv ?_))
    exact CN q1 q2 ⟨rfl,false,p3.1⟩
   |true=>
    refine mg (by kernel_rfl) ?_;refine fM ?_;refine cA ?_;simp only[cond_true]at p3
    repeat refine bH ?_
    refine fg ?_;refine cv rfl ?_;refine dd (x:= .ptr (hc.length+0) 3) (by kernel_rfl) rfl rfl ?_;refine cv rfl ?_;refine dd (zJ (h:=h2) (i:=0) (off:=3) (l:=[.cells (gA x).cells]) (x:= .d (.sl (du x.bD))) (by rw[p1];rfl) rfl (by kernel_rfl)) rfl rfl ?_;refine cv rfl ?_;refine dd (x:= .d (.v (.int .i64 (du x.bD).length))) (by kernel_rfl) rfl rfl ?_;refine cv rfl ?_;refine dd (x:= .d (.v (.int .i64 0))) (by kernel_rfl) rfl rfl ?_;refine cA ?_;refine yM 25 (du x.bD) (by kernel_rfl) fun Yl=> ?_;have ahL:x.bD.length≤maxLen:=by rw[←eV];exact xq Yl
    rw[eV];refine gO ?_;refine Pb (ι:=Nat×ak3 aF×ak3 aq) [0,13,14,15,25,26,27] h.length (fun j=>⟨37,[(0, .cH k),(13, .d (.sl (cm e.xIdx))),(14, .d (.v (.int .i64 e.xIdx.length))),(15, .d (.v (.int .i64 i))),(25, .d (.sl (du x.bD))),(26, .d (.v (.int .i64 x.bD.length))),(27, .d (.v (.int .i64 j.1)))],j.2.2⟩)
      (fun j=>x.bD.drop j.1=j.2.1∧sD h j.2.2∧lJ Tryz.prog k ((j.2.1++rest.flatMap vz).map b9) (fun b h2=>C b h2∧sD h h2) j.2.2) (fun j=>j.2.1.length) (0,x.bD,h2) (akq _) ?_ ?_ ⟨rfl,⟨q1,q2⟩,p3⟩ ?_
    ·rw[←q1];exact BX _ (by rw[q1];exact q2) (by
       show(((AV.cH k).bA h2.length).aT h2.length&&(true&&(true&&(true&&(true&&(true&&(true&&true)))))))=true;rw[q1,Jh hk];rfl)
    ·rw[←q1];exact D4 _ (by rw[q1];exact q2)
    rintro⟨j,r2,hb⟩ ⟨l8,⟨b1,b2⟩,vg⟩;simp only at l8 b1 b2 vg ⊢
    repeat refine bH ?_
    refine fg ?_;refine cv rfl ?_;refine dd (x:= .d (.v (.bool (decide ((j:Int)<(x.bD.length:Int)))))) (by kernel_rfl) rfl rfl ?_;refine cA ?_
    repeat refine bH ?_
    cases r2 with
    |nil=>
     rw[cM l8];refine mg (by kernel_rfl) ?_;refine pC (lF (lF (sf rfl ?_)));refine ln ?_;refine cA ?_;rw[List.nil_append]at vg;refine fg ?_;refine cv rfl ?_;refine dd (x:= .d (.v (.int .i64 ((i+1:Nat):Int)))) (by
       show some ((.d (.v (.int .i64 (aQ ((i:Int)+1)))):AV),HD.same)=_;have:=dj hd rfl nj;unfold aw at this;rw[this]) rfl rfl ?_
     refine cv rfl ?_;refine dd (x:= .d (.v (.int .i64 ((i+1:Nat):Int)))) (by kernel_rfl) rfl rfl ?_;refine cA ?_;refine⟨?_,(i+1,rest,hb),?_,⟨jN hd,⟨b1,b2⟩,vg⟩,ak1 _⟩
     ·rw[←b1];exact Ud _ (by rw[b1];exact b2) (by
        show(((AV.cH k).bA hb.length).aT hb.length&&(true&&(true&&(true&&true))))=true;rw[b1,Jh hk];rfl)
     ·rw[←b1];exact Xp _ (by rw[b1];exact b2)
    |cons y r2=>
     rw[cF l8];refine me (by kernel_rfl) ?_;refine fM ?_;refine cA ?_
     repeat refine bH ?_
     refine gO ?_
     repeat refine bH ?_
     refine fg ?_;refine cv rfl ?_;rw[←akA hb];refine dd (L4 (q:=j) (e:=28) (k:=2) rfl rfl (by kernel_rfl) (mR (cd l8)) rfl) rfl rfl ?_;refine cv rfl ?_;refine dd (x:=b9 y) (by kernel_rfl) rfl rfl ?_;refine cv rfl ?_;refine ER (Ky (l:=[]) (by kernel_rfl)) rfl rfl Jf ?_;refine cv rfl ?_;refine KA (M1 (i:=0) (off:=0) (k:=2) (l:=[_]) (v:=b9 y) (b7:=(b9 y).cells) (by kernel_rfl) rfl (by kernel_rfl) rfl (by kernel_rfl) (by kernel_rfl)) rfl Nn ?_;refine cA ?_
     repeat refine bH ?_
     refine fg ?_;refine cv rfl ?_;refine dd (x:= .cH k) (by kernel_rfl) rfl rfl ?_;refine cv rfl ?_;refine dd (zJ (i:=0) (off:=0) (l:=[.cells (b9 y).cells]) (x:=b9 y) (by kernel_rfl) rfl (by kernel_rfl)) rfl rfl ?_;refine cv rfl ?_;rw[List.cons_append,akE]at vg;have GP:=Pf vg [.cells (b9 y).cells] (by rw[b1];exact b2) (by kernel_rfl) (fun b h' hh=>hh.1);refine Ho (k:=k) (x:=b9 y) rfl rfl (by kernel_rfl) (by kernel_rfl) rfl rfl ?_;refine GP.mono fun b h' hh=> ?_;obtain⟨h3,⟨⟨r1,r3⟩,r4⟩,rfl⟩:=hh;refine cv rfl ?_;refine dd (x:= .d (.v (.bool (!b)))) (by kernel_rfl) rfl rfl ?_;refine cA ?_;have u1:h3.length=h.length:=by rw[r1,b1]
     have u2:h3.all (aq.aT h.length)=true:=by rw[b1]at r3;exact r3
     cases b with
     |false=>
      refine me (by kernel_rfl) ?_;refine dU ?_
      repeat (first|(with_reducible refine fu ?_)|(with_reducible refine gv ?_))
      exact CN u1 u2 ⟨rfl,false,r4.1⟩
     |true=>
      refine mg (by kernel_rfl) ?_;refine fM ?_;refine ln ?_;refine cA ?_;simp only[cond_true]at r4;refine fg ?_;refine cv rfl ?_;refine dd (x:= .d (.v (.int .i64 ((j+1:Nat):Int)))) (by
       show some ((.d (.v (.int .i64 (aQ ((j:Int)+1)))):AV),HD.same)=_;have:=dj l8 rfl ahL;unfold aw at this;rw[this]) rfl rfl ?_
      refine cv rfl ?_;refine dd (x:= .d (.v (.int .i64 ((j+1:Nat):Int)))) (by kernel_rfl) rfl rfl ?_;refine cA ?_;refine⟨?_,(j+1,r2,h3),?_,⟨jN l8,⟨u1,u2⟩,r4⟩,ak1 _⟩
      ·rw[←u1];exact BX _ (by rw[u1];exact u2) (by
         show(((AV.cH k).bA h3.length).aT h3.length&&(true&&(true&&(true&&(true&&(true&&(true&&true)))))))=true;rw[u1,Jh hk];rfl)
      ·rw[←u1];exact D4 _ (by rw[u1];exact u2)
theorem aiF(v1:an):aG Tryz.prog 38 [(aA v1)] (·= .fn 65 [.bE [cJ v1] 0 0]):=by
 refine U5 (r:= .fn 65 [(.ptr 0 0)]) (h:=[.cells (aA v1).cells]) ?_ (by kernel_rfl) rfl;refine LH 1 Tryz.func38 rfl (by kernel_rfl) (akn rfl) ?_;refine B8 (s':=⟨4,[(0,(aA v1))],[]⟩) (by kernel_rfl) ?_;refine bH ?_;refine rg [] [(1,(.ptr 0 0))] [.cells (aA v1).cells] (by kernel_rfl) ?_;refine bH ?_;refine rg [] [(2,(.fn 65 [(.ptr 0 0)]))] [.cells (aA v1).cells] (by kernel_rfl) ?_;refine dU ?_;exact TV (by kernel_rfl)
theorem aev(v1:an):aG Tryz.prog 99 [(aA v1)] (·= .fn 176 [.bE [cJ v1] 0 0]):=by
 refine U5 (r:= .fn 176 [(.ptr 0 0)]) (h:=[.cells (aA v1).cells]) ?_ (by kernel_rfl) rfl;refine LH 1 Tryz.func99 rfl (by kernel_rfl) (akn rfl) ?_;refine B8 (s':=⟨4,[(0,(aA v1))],[]⟩) (by kernel_rfl) ?_;refine bH ?_;refine rg [] [(1,(.ptr 0 0))] [.cells (aA v1).cells] (by kernel_rfl) ?_;refine bH ?_;refine rg [] [(2,(.fn 176 [(.ptr 0 0)]))] [.cells (aA v1).cells] (by kernel_rfl) ?_;refine dU ?_;exact TV (by kernel_rfl)
end Go.Proofs.YtpgmcallngdceaaGreatDoor
namespace Go.Proofs.YtpgmcallngdceaaGreatDoor
open Go.RowKit Go.Shelf
set_option maxRecDepth 100000
def ail:Ren where
 f:=fun
  |157=>320
  |229=>337
  |199=>338
  |261=>343
  |311=>346
  |312=>347
  |n=>n
 t:=fun
  |9=>9
  |31=>47
  |3=>3
  |5=>5
  |4=>4
  |119=>303
  |0=>0
  |40=>243
  |152=>307
  |21=>21
  |154=>309
  |51=>310
  |141=>312
  |196=>318
  |193=>315
  |198=>321
  |49=>319
  |194=>316
  |201=>324
  |226=>326
  |46=>268
  |227=>327
  |n=>n
 g:=fun
  |0=>0
  |6=>2
  |n=>n
def lO:ak3 ak4:=[bs [115,105,122,101],bs [119,104,101,114,101],bs [105,110],bs [100,101,102],bs [111,117,116],bs [115,117,109],bs [112,114,111,100],bs [109,105,110],bs [109,97,120],bs [115,99,97,110],bs [111,118,101,114],bs [105,102],bs [99,97,115,116],bs [102,114,97,99],bs [105,110,116],bs [102,105,120],bs [99,101,105,108],bs [102,108,111,111,114],bs [122,101,114,111],bs [101,118,101,110],bs [115,97,116],bs [119,114,97,112]]
theorem aaK:Lays.n157 Tryz.prog ail:=by
 constructor<;>first|kernel_rfl|(intro w;rfl)
def EN:ak4:=⟨#[115,105,122,101,32,119,104,101,114,101,32,105,110,32,100,101,102,32,111,117,116,32,115,117,109,32,112,114,111,100,32,109,105,110,32,109,97,120,32,115,99,97,110,32,111,118,101,114,32,105,102,32,99,97,115,116,32,102,114,97,99,32,105,110,116,32,102,105,120,32,99,101,105,108,32,102,108,111,111,114,32,122,101,114,111,32,101,118,101,110,32,115,97,116,32,119,114,97,112]⟩
theorem acL(w:ak8)(hT:∀c:Nat,c<256→w.cell? ⟨0,c,none⟩=some (.int .u8 (if Lib.isSp (UInt8.ofNat c)then 1 else 0))):
 Calls Tryz.prog 320 #[.string EN] w fun e w'=>e= .returned (.slice (some ⟨w.heap.size,0,none⟩) 22 22)∧w'=w.alloc (.cells (lO.map Value.string).toArray 9):=by
 have ha:(EN.data.toList.all fun b=>decide (b.toNat<128))=true:=by kernel_rfl
 have h:=Any.strings_Fields_core aaK (by kernel_rfl) EN w (of_decide_eq_true (by kernel_rfl)) (fun j b hb=>of_decide_eq_true (akF.1 ha b (aks hb))) hT;have e1:(Lib.fields EN.data.toList).length=22:=by kernel_rfl
 have e2:((Lib.fields EN.data.toList).map fun l=>Value.string ⟨l.toArray⟩)=lO.map Value.string:=by kernel_rfl
 rw[e1,e2]at h;exact h
theorem agO(w:ak8)(hT:∀c:Nat,c<256→w.cell? ⟨0,c,none⟩=some (.int .u8 (if Lib.isSp (UInt8.ofNat c)then 1 else 0))):
 Calls Tryz.prog 281 #[] w fun e w'=>e= .returned (.slice (some ⟨w.heap.size,0,none⟩) 22 22)∧w'=w.alloc (.cells (lO.map Value.string).toArray 9):=by
 go_enter Tryz.func281,Tryz.ntmps281
 go_wp2_with (go_at_call 320;refine(acL _ hT).mono ?_;rintro e w' ⟨rfl,rfl⟩)
 go_ret
 exact⟨rfl,rfl⟩
theorem abu:∀c:Nat,c<256→(vi Dh)[c]?=some (.int .u8 (if Lib.isSp (UInt8.ofNat c)then 1 else 0)):=fun c hc=>by
 rw[show vi Dh=(List.range 256).map fun c=>Value.int .u8 (if Lib.isSp (UInt8.ofNat c)then 1 else 0) by kernel_rfl,akm,List.getElem?_range hc];rfl
theorem af2:aG Tryz.prog 281 [] (·= .d (.sl (gx lO))):=by
 refine⟨by kernel_rfl,fun G w vs hi hl hr=> ?_⟩;obtain rfl:vs= #[]:=Array.size_eq_zero_iff.1 hl;refine(agO w fun c hc=> ?_).mono fun e w' hp=> ?_
 ·exact(hi.gl.1 0 (vi Dh) akl c _ (abu c hc)).2
 ·obtain⟨rfl,rfl⟩:=hp;obtain⟨i1,i2⟩:=PY hi (.cells (lO.map Value.string).toArray 9) 22;have Ev:Rd (G.Fa w.heap.size 22).S (w.alloc (.cells (lO.map Value.string).toArray 9)) 1 (gx lO) (lO.map Value.string):=
   ⟨rfl,fun x hx=>(by obtain⟨y,_,rfl⟩:=List.mem_map.1 hx;rfl),fun u hu=>(by obtain⟨y,_,rfl⟩:=List.mem_map.1 hu;rfl),fun i j x d hx hd=>by
    rw[ru,akm]at hx;cases hk:lO[i]? with
    |none=>rw[hk]at hx;cases hx
    |some y=>
     rw[hk]at hx;cases hx;cases j with
     |zero=>cases hd;exact⟨.string y,by rw[Nat.mul_one,Nat.add_zero,akm,hk];rfl, .v _⟩
     |succ j=>cases hd⟩
  have hp:=Ev.Ix w.heap.size 22 (by decide) (by decide) (fun o ho=> .inr ⟨rfl,ho⟩) (fun o u hu=>by
   rw[World.cell?_alloc_new,List.getElem?_toArray];exact hu)
  exact⟨_,_,_,_,rfl,i1,akq _,i2, .d hp,rfl,rfl⟩
end Go.Proofs.YtpgmcallngdceaaGreatDoor
namespace Go.Proofs.YtpgmcallngdceaaGreatDoor
open Go.RowKit
set_option maxRecDepth 1000000
end Go.Proofs.YtpgmcallngdceaaGreatDoor
