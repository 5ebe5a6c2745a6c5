/-
  Part 5 of the proof: AbsDat, IterE, KwS, AbsKern.
-/
import Derived.Test.YtfdhojiehjfghaaGreatDoorPs4
import Derived.Test.YtfdhojiehjfghaaGreatDoorProg
import Derived.WalkKit
import Derived.Shelf.Strings.Fields
import Derived.KernelRfl
namespace Go.Proofs.YtfdhojiehjfghaaGreatDoor
open Go.RowKit
set_option linter.unusedVariables false
def BP(x:Int):anD D:=[.v (.int .i64 x)]
def iQ(l:anD Int):anD (anD D):=l.map BP
theorem xY(l:anD Int):iQ l=l.map BP:=rfl
theorem uS{l:anD Int}:(iQ l).length=l.length:=by rw[xY,amS]
theorem vF{l:anD Int}{k:Nat}{x:Int}(h:l[k]?=some x):(iQ l)[k]?=some (BP x):=by rw[xY,amU,h];rfl
theorem ZY{a b:anD Int}:iQ a++iQ b=iQ (a++b):=by rw[xY,xY,xY,List.map_append]
theorem adJ{l:anD Int}:∀c∈iQ l,c.length=1:=by
 intro c hc;rw[xY]at hc;obtain⟨x,_,rfl⟩:=List.mem_map.1 hc;rfl
def Me(x:anE):anD D:=[.v (.string x)]
def mR(l:anD anE):anD (anD D):=l.map Me
theorem wz(l:anD anE):mR l=l.map Me:=rfl
theorem Vn{l:anD anE}:(mR l).length=l.length:=by rw[wz,amS]
theorem aht{l:anD anE}{k:Nat}{x:anE}(h:l[k]?=some x):(mR l)[k]?=some (Me x):=by rw[wz,amU,h];rfl
theorem agJ{a b:anD anE}:mR a++mR b=mR (a++b):=by rw[wz,wz,wz,List.map_append]
theorem agf{l:anD anE}:∀c∈mR l,c.length=1:=by
 intro c hc;rw[wz]at hc;obtain⟨x,_,rfl⟩:=List.mem_map.1 hc;rfl
structure aF where
 aL:Int
 bY:Int
 bM:Int
 b5:Int
 bK:Int
def agZ(x:aF):anD D:=[.v (.int .i64 x.aL), .v (.int .i64 x.bY), .v (.int .i64 x.bM), .v (.int .i64 x.b5), .v (.int .i64 x.bK)]
def cB(x:aF):AV:= .agg [.d (.v (.int .i64 x.aL)), .d (.v (.int .i64 x.bY)), .d (.v (.int .i64 x.bM)), .d (.v (.int .i64 x.b5)), .d (.v (.int .i64 x.bK))]
structure aB where
 xN:Int64
 xD:Int64
def Eh(x:aB):anD D:=[.v (.int .i64 x.xN.toInt), .v (.int .i64 x.xD.toInt)]
def a7(x:aB):AV:= .agg [.d (.v (.int .i64 x.xN.toInt)), .d (.v (.int .i64 x.xD.toInt))]
structure bf where
 aO:ByteArray
 cA:Int64
def CU(x:bf):anD D:=[.v (.string x.aO), .v (.int .i64 x.cA.toInt)]
def oF(x:bf):AV:= .agg [.d (.v (.string x.aO)), .d (.v (.int .i64 x.cA.toInt))]
structure bm where
 aO:ByteArray
 bg:Int64
def DO(x:bm):anD D:=[.v (.string x.aO), .v (.int .i64 x.bg.toInt)]
def Ue(x:bm):AV:= .agg [.d (.v (.string x.aO)), .d (.v (.int .i64 x.bg.toInt))]
structure gv where
 yT:aF
 cW:Bool
def lO(x:gv):AV:= .agg [.d (.v (.int .i64 x.yT.aL)), .d (.v (.int .i64 x.yT.bY)), .d (.v (.int .i64 x.yT.bM)), .d (.v (.int .i64 x.yT.b5)), .d (.v (.int .i64 x.yT.bK)), .d (.v (.bool x.cW))]
structure dX where
 j7:aB
 eH:aF
def dA(x:dX):AV:= .agg [.d (.v (.int .i64 x.j7.xN.toInt)), .d (.v (.int .i64 x.j7.xD.toInt)), .d (.v (.int .i64 x.eH.aL)), .d (.v (.int .i64 x.eH.bY)), .d (.v (.int .i64 x.eH.bM)), .d (.v (.int .i64 x.eH.b5)), .d (.v (.int .i64 x.eH.bK))]
structure alj where
 xT:aF
 xIs:Bool
structure jf where
 nN:Int
 kH:Int
 jD:Int
def Dh(x:jf):AV:= .agg [.d (.v (.int .u64 x.nN)), .d (.v (.int .u64 x.kH)), .d (.v (.int .u64 x.jD))]
def cC(l:anD bf):anD (anD D):=l.map CU
theorem se(l:anD bf):cC l=l.map CU:=rfl
theorem fc{l:anD bf}:(cC l).length=l.length:=by rw[se,amS]
theorem jM{l:anD bf}{k:Nat}{x:bf}(h:l[k]?=some x):(cC l)[k]?=some (CU x):=by rw[se,amU,h];rfl
theorem agH{a b:anD bf}:cC a++cC b=cC (a++b):=by rw[se,se,se,List.map_append]
theorem AN{l:anD bf}:∀c∈cC l,c.length=2:=by
 intro c hc;rw[se]at hc;obtain⟨x,_,rfl⟩:=List.mem_map.1 hc;rfl
theorem G4{l:anD bf}{k:Nat}:(cC l).drop k=cC (l.drop k):=by rw[se,se,List.map_drop]
def kf(l:anD aB):anD (anD D):=l.map Eh
theorem wx(l:anD aB):kf l=l.map Eh:=rfl
theorem JC{l:anD aB}:(kf l).length=l.length:=by rw[wx,amS]
theorem Is{l:anD aB}{k:Nat}{x:aB}(h:l[k]?=some x):(kf l)[k]?=some (Eh x):=by rw[wx,amU,h];rfl
theorem ajd{a b:anD aB}:kf a++kf b=kf (a++b):=by rw[wx,wx,wx,List.map_append]
theorem aeP{l:anD aB}:∀c∈kf l,c.length=2:=by
 intro c hc;rw[wx]at hc;obtain⟨x,_,rfl⟩:=List.mem_map.1 hc;rfl
def bt(l:anD bm):anD (anD D):=l.map DO
theorem w5(l:anD bm):bt l=l.map DO:=rfl
theorem QM{l:anD bm}:(bt l).length=l.length:=by rw[w5,amS]
theorem VX{l:anD bm}{k:Nat}{x:bm}(h:l[k]?=some x):(bt l)[k]?=some (DO x):=by rw[w5,amU,h];rfl
theorem agN{a b:anD bm}:bt a++bt b=bt (a++b):=by rw[w5,w5,w5,List.map_append]
theorem aky{l:anD bm}:∀c∈bt l,c.length=2:=by
 intro c hc;rw[w5]at hc;obtain⟨x,_,rfl⟩:=List.mem_map.1 hc;rfl
structure aP where
 xK:Int64
 xL:List bf
def lu(x:aP):anD D:=[.v (.int .i64 x.xK.toInt), .sl (cC x.xL)]
def cz(x:aP):AV:= .agg [.d (.v (.int .i64 x.xK.toInt)), .d (.sl (cC x.xL))]
structure a8 where
 aD:aF
 dg:List Int
 eN:List aB
def bR(x:a8):anD D:=[.v (.int .i64 x.aD.aL), .v (.int .i64 x.aD.bY), .v (.int .i64 x.aD.bM), .v (.int .i64 x.aD.b5), .v (.int .i64 x.aD.bK), .sl (iQ x.dg), .sl (kf x.eN)]
def od(x:a8):AV:= .agg [.d (.v (.int .i64 x.aD.aL)), .d (.v (.int .i64 x.aD.bY)), .d (.v (.int .i64 x.aD.bM)), .d (.v (.int .i64 x.aD.b5)), .d (.v (.int .i64 x.aD.bK)), .d (.sl (iQ x.dg)), .d (.sl (kf x.eN))]
structure bp where
 aO:ByteArray
 jS:a8
def Ca(x:bp):anD D:=[.v (.string x.aO), .v (.int .i64 x.jS.aD.aL), .v (.int .i64 x.jS.aD.bY), .v (.int .i64 x.jS.aD.bM), .v (.int .i64 x.jS.aD.b5), .v (.int .i64 x.jS.aD.bK), .sl (iQ x.jS.dg), .sl (kf x.jS.eN)]
def XM(x:bp):AV:= .agg [.d (.v (.string x.aO)), .d (.v (.int .i64 x.jS.aD.aL)), .d (.v (.int .i64 x.jS.aD.bY)), .d (.v (.int .i64 x.jS.aD.bM)), .d (.v (.int .i64 x.jS.aD.b5)), .d (.v (.int .i64 x.jS.aD.bK)), .d (.sl (iQ x.jS.dg)), .d (.sl (kf x.jS.eN))]
structure ajN where
 aM:aP
 xEq:Bool
structure T3 where
 aO:ByteArray
 amK:aP
def ew(l:anD aP):anD (anD D):=l.map lu
theorem th(l:anD aP):ew l=l.map lu:=rfl
theorem gW{l:anD aP}:(ew l).length=l.length:=by rw[th,amS]
theorem uE{l:anD aP}{k:Nat}{x:aP}(h:l[k]?=some x):(ew l)[k]?=some (lu x):=by rw[th,amU,h];rfl
theorem ahR{a b:anD aP}:ew a++ew b=ew (a++b):=by rw[th,th,th,List.map_append]
theorem R3{l:anD aP}:∀c∈ew l,c.length=2:=by
 intro c hc;rw[th]at hc;obtain⟨x,_,rfl⟩:=List.mem_map.1 hc;rfl
def bq(l:anD bp):anD (anD D):=l.map Ca
theorem xA(l:anD bp):bq l=l.map Ca:=rfl
theorem OV{l:anD bp}:(bq l).length=l.length:=by rw[xA,amS]
theorem YG{l:anD bp}{k:Nat}{x:bp}(h:l[k]?=some x):(bq l)[k]?=some (Ca x):=by rw[xA,amU,h];rfl
theorem adg{a b:anD bp}:bq a++bq b=bq (a++b):=by rw[xA,xA,xA,List.map_append]
theorem ak7{l:anD bp}:∀c∈bq l,c.length=8:=by
 intro c hc;rw[xA]at hc;obtain⟨x,_,rfl⟩:=List.mem_map.1 hc;rfl
structure aN where
 aM:aP
 bI:ByteArray
 aZ:List aP
def fG(x:aN):anD D:=[.v (.int .i64 x.aM.xK.toInt), .sl (cC x.aM.xL), .v (.string x.bI), .sl (ew x.aZ)]
def gh(x:aN):AV:= .agg [.d (.v (.int .i64 x.aM.xK.toInt)), .d (.sl (cC x.aM.xL)), .d (.v (.string x.bI)), .d (.sl (ew x.aZ))]
structure aeW where
 aO:ByteArray
 aD:aF
 dg:List aP
def cH(l:anD aN):anD (anD D):=l.map fG
theorem sO(l:anD aN):cH l=l.map fG:=rfl
theorem fU{l:anD aN}:(cH l).length=l.length:=by rw[sO,amS]
theorem kC{l:anD aN}{k:Nat}{x:aN}(h:l[k]?=some x):(cH l)[k]?=some (fG x):=by rw[sO,amU,h];rfl
theorem abF{a b:anD aN}:cH a++cH b=cH (a++b):=by rw[sO,sO,sO,List.map_append]
theorem Vi{l:anD aN}:∀c∈cH l,c.length=4:=by
 intro c hc;rw[sO]at hc;obtain⟨x,_,rfl⟩:=List.mem_map.1 hc;rfl
structure an where
 aq:Int
 aO:ByteArray
 bg:aB
 aD:aF
 aM:aP
 xIdx:List aN
 aw:List an
mutual
def LX:an->anD D
 |⟨aq,aO,bg,aD,aM,xIdx,aw⟩=>[.v (.int .i64 aq), .v (.string aO), .v (.int .i64 bg.xN.toInt), .v (.int .i64 bg.xD.toInt), .v (.int .i64 aD.aL), .v (.int .i64 aD.bY), .v (.int .i64 aD.bM), .v (.int .i64 aD.b5), .v (.int .i64 aD.bK), .v (.int .i64 aM.xK.toInt), .sl (cC aM.xL), .sl (cH xIdx), .sl (dh aw)]
def dh:anD an->anD (anD D)
 |[]=>[]
 |x::l=>LX x::dh l
end
def dd(x:an):anD D:=[.v (.int .i64 x.aq), .v (.string x.aO), .v (.int .i64 x.bg.xN.toInt), .v (.int .i64 x.bg.xD.toInt), .v (.int .i64 x.aD.aL), .v (.int .i64 x.aD.bY), .v (.int .i64 x.aD.bM), .v (.int .i64 x.aD.b5), .v (.int .i64 x.aD.bK), .v (.int .i64 x.aM.xK.toInt), .sl (cC x.aM.xL), .sl (cH x.xIdx), .sl (dh x.aw)]
theorem aen(x:an):LX x=dd x:=by cases x;simp only[LX];rfl
theorem iH:∀l:anD an,dh l=l.map dd
 |[]=>by simp [dh]
 |x::l=>by simp [dh,aen,iH l]
theorem fS{l:anD an}:(dh l).length=l.length:=by rw[iH,amS]
theorem cn{l:anD an}{k:Nat}{x:an}(h:l[k]?=some x):(dh l)[k]?=some (dd x):=by rw[iH,amU,h];rfl
theorem agF{a b:anD an}:dh a++dh b=dh (a++b):=by rw[iH,iH,iH,List.map_append]
theorem L0{l:anD an}:∀c∈dh l,c.length=13:=by
 intro c hc;rw[iH]at hc;obtain⟨x,_,rfl⟩:=List.mem_map.1 hc;rfl
def aA(x:an):AV:= .agg [.d (.v (.int .i64 x.aq)), .d (.v (.string x.aO)), .d (.v (.int .i64 x.bg.xN.toInt)), .d (.v (.int .i64 x.bg.xD.toInt)), .d (.v (.int .i64 x.aD.aL)), .d (.v (.int .i64 x.aD.bY)), .d (.v (.int .i64 x.aD.bM)), .d (.v (.int .i64 x.aD.b5)), .d (.v (.int .i64 x.aD.bK)), .d (.v (.int .i64 x.aM.xK.toInt)), .d (.sl (cC x.aM.xL)), .d (.sl (cH x.xIdx)), .d (.sl (dh x.aw))]
structure aj4 where
 aO:ByteArray
 aD:aF
 dg:List T3
 amA:List T3
 amB:Int
 ak4:an
structure fb where
 yE:an
 kM:gv
def cQ(x:fb):AV:= .agg [.d (.v (.int .i64 x.yE.aq)), .d (.v (.string x.yE.aO)), .d (.v (.int .i64 x.yE.bg.xN.toInt)), .d (.v (.int .i64 x.yE.bg.xD.toInt)), .d (.v (.int .i64 x.yE.aD.aL)), .d (.v (.int .i64 x.yE.aD.bY)), .d (.v (.int .i64 x.yE.aD.bM)), .d (.v (.int .i64 x.yE.aD.b5)), .d (.v (.int .i64 x.yE.aD.bK)), .d (.v (.int .i64 x.yE.aM.xK.toInt)), .d (.sl (cC x.yE.aM.xL)), .d (.sl (cH x.yE.xIdx)), .d (.sl (dh x.yE.aw)), .d (.v (.int .i64 x.kM.yT.aL)), .d (.v (.int .i64 x.kM.yT.bY)), .d (.v (.int .i64 x.kM.yT.bM)), .d (.v (.int .i64 x.kM.yT.b5)), .d (.v (.int .i64 x.kM.yT.bK)), .d (.v (.bool x.kM.cW))]
structure Qs where
 amu:List ByteArray
 amy:List ajN
 amC:List aeW
 amt:List aj4
 amH:List ByteArray
def bu(s:anE):AV:= .d (.v (.string s))
def au(n:Int):AV:= .d (.v (.int .i64 n))
def aT(n:Int64):AV:= .d (.v (.int .i64 n.toInt))
def aC(b:Bool):AV:= .d (.v (.bool b))
abbrev aS(n:Int):Int:=IntKind.i64.wrap n
theorem Ac(a:Int):IntKind.i64.wrap a=a.bmod (2^64):=by
 rw[IntKind.wrap_i64,Int.bmod_def];omega
theorem iZ(a:Int):au (aS a)=aT (Int64.ofInt a):=by
 unfold au aT aS;rw[Ac,Int64.toInt_ofInt]
theorem CI(a b:Int64):au (aS (a.toInt+b.toInt))=aT (a+b):=by
 unfold au aT aS;rw[Ac,Int64.toInt_add]
theorem wy(a b:Int64):au (aS (a.toInt-b.toInt))=aT (a-b):=by
 unfold au aT aS;rw[Ac,Int64.toInt_sub]
theorem mh(a b:Int64):au (aS (a.toInt*b.toInt))=aT (a*b):=by
 unfold au aT aS;rw[Ac,Int64.toInt_mul]
theorem HV(a:Int64):au (aS (0-a.toInt))=aT (-a):=by
 unfold au aT aS;rw[Ac,Int64.toInt_neg,Int.zero_sub]
theorem NK{a:Int}(h:aS a=a):au a=aT (Int64.ofInt a):=by
 rw[<-iZ,h]
theorem abA(a:Int)(m:Nat)(h1: -9223372036854775808<=a)(h2:a<9223372036854775808): -9223372036854775808<=a.fdiv (2^m)/\a.fdiv (2^m)<9223372036854775808:=by
 have hp:(0:Int)<2^m:=Int.pow_pos (by decide);rw[Int.fdiv_eq_ediv_of_nonneg _ (Int.le_of_lt hp)];generalize (2:Int)^m=p at*;by_cases h:0<=a
 ·have h3:=Int.ediv_nonneg h (Int.le_of_lt hp);have h4:=Int.ediv_le_self p h;omega
 ·have h3:a / p<0:=Int.ediv_neg_of_neg_of_pos (by omega) hp;have h4:a<=a / p:=by
   refine(Int.le_ediv_iff_mul_le hp).2 ?_;have:=Int.mul_le_mul_of_nonpos_left (a:=a) (b:=p) (c:=1) (by omega) (by omega);omega
  omega
theorem RM(a:Int64)(m:Nat):au (a.toInt.fdiv (2^m))=aT (Int64.ofInt (a.toInt.fdiv (2^m))):=by
 refine NK ?_;have h:=abA a.toInt m (by have:=a.le_toInt;simpa using this) (by have:=a.toInt_lt;simpa using this);unfold aS;rw[IntKind.wrap_i64];omega
theorem Yi(a:Int64)(b:Int):au (a.toInt.tmod b)=aT (Int64.ofInt (a.toInt.tmod b)):=by
 refine NK ?_;unfold aS;rw[IntKind.wrap_i64];have h1:=a.le_toInt;have h2:=a.toInt_lt;have h3:=Int.natAbs_tmod a.toInt b;have h4:(a.toInt.tmod b).natAbs<=a.toInt.natAbs:=by rw[h3];exact Nat.mod_le _ _
 have h7: -9223372036854775808<=a.toInt/\a.toInt<=9223372036854775807:=by omega
 clear h1 h2 h3;by_cases h5:0<=a.toInt
 ·have:=Int.tmod_nonneg b h5;generalize a.toInt.tmod b=x at*;omega
 ·have h6:=Int.tmod_nonneg b (show 0<=-a.toInt by omega);rw[Int.neg_tmod]at h6;generalize a.toInt.tmod b=x at*;omega
theorem dR{α:Type}{l:anD α}{k:Nat}{x:α}{xs:anD α}{n:Nat}(hd:l.drop k=x::xs)(hn:l.length=n)(hl:n<=maxLen):au (aS ((k:Int)+1))=au ((k+1:Nat):Int):=by
 have:(l.drop k).length=(x::xs).length:=by rw[hd]
 rw[List.length_drop,amQ]at this;have h1:k<maxLen:=by omega
 unfold maxLen at h1;have e:IntKind.i64.wrap ((k:Int)+1)=((k+1:Nat):Int):=by rw[IntKind.wrap_i64];omega
 unfold au aS;rw[e]
theorem cO{α:Type}{l:anD α}{k:Nat}{x:α}{xs:anD α}(hd:l.drop k=x::xs):l[k]?=some x:=by
 have:(l.drop k)[0]?=some x:=by rw[hd];rfl
 rwa [List.getElem?_drop]at this
theorem oc{α:Type}{l:anD α}{k:Nat}{x:α}{xs:anD α}(hd:l.drop k=x::xs):l.drop (k+1)=xs:=by
 rw[<-List.drop_drop,hd];rfl
theorem dt{α:Type}{l:anD α}{k:Nat}{x:α}{xs:anD α}(hd:l.drop k=x::xs):decide ((k:Int)<(l.length:Int))=true:=by
 have:(l.drop k).length=(x::xs).length:=by rw[hd]
 rw[List.length_drop,amQ]at this;exact anv (by omega)
theorem dv{α:Type}{l:anD α}{k:Nat}(hd:l.drop k=[]):decide ((k:Int)<(l.length:Int))=false:=by
 have:=List.drop_eq_nil_iff.1 hd;exact anw (by omega)
theorem yz{n cr:Nat}(h:Nat.ble (n*cr) 140737488355328=true)(hb:1<=cr):n<=maxLen/\n*cr<=140737488355328:=by
 have h:=amV h;refine⟨?_,h⟩;unfold maxLen;have:=Nat.le_mul_of_pos_right n hb;omega
theorem aX:Tryz.prog.follows .mixedOrders=true:=by kernel_rfl
set_option maxRecDepth 100000
set_option maxHeartbeats 0
mutual
def MP:an->anD an
 |⟨o,n,v,t,l,i,xs⟩=>⟨o,n,v,t,l,i,xs⟩::me xs
def me:anD an->anD an
 |[]=>[]
 |x::l=>MP x++me l
end
def dq(e:an):anD an:=e::me e.aw
theorem ago(e:an):MP e=dq e:=by cases e;simp only[MP];rfl
theorem JX(x:an)(l:anD an):me (x::l)=dq x++me l:=by rw[me,ago]
theorem LO{P:anG}{k:Nat}:∀(l:anD AV){C:Bool->anD ao->Prop}{h:anD ao},h.all (ao.aH h.length)=true->mZ P k l C h->mZ P k l (λb h1=>C b h1/\vb h h1) h
 |[],_,_,hl,hs=>⟨hs,rfl,hl⟩
 |x::l,C,h,hl,hs=>YS.mono hs λb h1 ⟨h2,h3⟩=>⟨h2,by
  cases b with
  |true=>exact RR l (λb h4 ⟨h5,h6,h7⟩=>⟨h5,by rw[h6,h2.1],by rw[h2.1]at h7;exact h7⟩) (LO l (by rw[h2.1];exact h2.2) h3)
  |false=>exact⟨h3,h2⟩⟩
def Kk(e:an):Prop:=∀(k:Nat)(h:anD ao)(C:Bool->anD ao->Prop),h.all (ao.aH h.length)=true->k<h.length->mZ Tryz.prog k ((dq e).map aA) C h->cp Tryz.prog 63 [aA e, .cF k] h λr h1=>∃b,r= .d (.v (.bool b))/\C b h1/\vb h h1
theorem Xw{P:anG}{fn:Func}{n:Nat}{t:anD (Nat×AV)}{H h1 l:anD ao}{K:AV->anD ao->Prop}(k1:h1.length=H.length)(k2:h1.all (ao.aH H.length)=true)(hr:mo P ⟨n,t,h1++l⟩ fn.results.toList λrs=>((jt rs).aV h1.length).aH h1.length=true/\K ((jt rs).aV h1.length) h1):qG P fn H.length K ⟨n,t,h1++l⟩:=by
 rw[<-k1]at k2 ⊢;exact Z9 k2 hr
theorem CQ{P:anG}{fn:Func}{n:Nat}{t:anD (Nat×AV)}{H h1 l:anD ao}{K:AV->anD ao->Prop}(k1:h1.length=H.length)(k2:h1.all (ao.aH H.length)=true)(hr:mo P ⟨n,t,h1++l⟩ fn.results.toList λrs=>((jt rs).aV h1.length).aH h1.length=true/\K ((jt rs).aV h1.length) h1):GN P fn H.length K .ret ⟨n,t,h1++l⟩:=Xw k1 k2 hr
theorem ajn(e:an)(sm:∀x∈e.aw,Kk x):Kk e:=by
 intro k h C pG hk hs;refine Ax h.length Tryz.func63 rfl (by kernel_rfl) (amY _) ?_
 suffices hA:bj Tryz.prog none h.length _ _ ⟨23,[(0,aA e),(1, .cF k)],h++[]⟩ by rw[am8]at hA;exact hA
 repeat refine aR ?_
 refine fQ ?_;refine cy rfl ?_;refine Ej (akT (l:=[]) (v:=aA e) rfl (by kernel_rfl)) rfl rfl Hf ?_;refine cy rfl ?_;refine dp (x:= .d (.v (.bool false))) (by kernel_rfl) rfl rfl ?_;refine cw ?_
 repeat refine aR ?_
 refine fQ ?_;refine cy rfl ?_;refine dp (x:= .cF k) (by kernel_rfl) rfl rfl ?_;refine cy rfl ?_;refine dp (yk (i:=0) (off:=0) (l:=[]++[.cells (aA e).cells]) (x:=aA e) (by kernel_rfl) rfl (by kernel_rfl)) rfl rfl ?_;refine cy rfl ?_;rw[dq,anc]at hs;have hy:=LH (LO (aA e::_) pG hs) [.cells (aA e).cells] pG (by kernel_rfl) (λb h' hh=>hh.1);refine Jr (k:=k) (x:=aA e) rfl rfl (by kernel_rfl) (by kernel_rfl) rfl rfl ?_;refine hy.mono λb h' hh=> ?_;obtain⟨h1,⟨⟨k1,k2⟩,k3⟩,rfl⟩:=hh;refine cy rfl ?_;refine dp (x:= .d (.v (.bool (!b)))) (by kernel_rfl) rfl rfl ?_;refine cw ?_;cases b with
 |false=>
  refine m8 (by kernel_rfl) ?_
  repeat refine aR ?_
  refine fQ ?_;refine cy rfl ?_;refine dp (x:= .d (.v (.bool false))) (by kernel_rfl) rfl rfl ?_;refine cw ?_;refine dz (dO ?_);refine CQ k1 k2 ?_;exact⟨rfl,false,rfl,k3⟩
 |true=>
  refine nH (by kernel_rfl) ?_;refine fj ?_;refine cw ?_;simp only[cond_true]at k3
  repeat refine aR ?_
  refine fQ ?_;refine cy rfl ?_;refine dp (x:= .ptr (h.length+0) 12) (by kernel_rfl) rfl rfl ?_;refine cy rfl ?_;refine dp (yk (h:=h1) (i:=0) (off:=12) (l:=[.cells (aA e).cells]) (x:= .d (.sl (dh e.aw))) (by rw[k1];rfl) rfl (by kernel_rfl)) rfl rfl ?_;refine cy rfl ?_;refine dp (x:= .d (.v (.int .i64 (dh e.aw).length))) (by kernel_rfl) rfl rfl ?_;refine cy rfl ?_;refine dp (x:= .d (.v (.int .i64 0))) (by kernel_rfl) rfl rfl ?_;refine cw ?_;refine EE 12 (dh e.aw) (by kernel_rfl) λbA=> ?_;have oZ:e.aw.length<=maxLen:=by rw[<-fS];exact Ht bA
  rw[fS]
  repeat refine aR ?_
  refine la ?_;refine PJ (ι:=Nat×anD an×anD ao) [1,12,13,14] h.length (λi=>⟨23,[(1, .cF k),(12, .d (.sl (dh e.aw))),(13, .d (.v (.int .i64 e.aw.length))),(14, .d (.v (.int .i64 i.1)))],i.2.2⟩)
   (λi=>e.aw.drop i.1=i.2.1/\vb h i.2.2/\mZ Tryz.prog k ((me i.2.1).map aA) (λb h2=>C b h2/\vb h h2) i.2.2) (λi=>i.2.1.length) (0,e.aw,h1) (amY _) ?_ ?_ ⟨rfl,⟨k1,k2⟩,k3⟩ ?_
  ·rw[<-k1];exact DH _ (by rw[k1];exact k2) (by
     show(((AV.cF k).aV h1.length).aH h1.length&&(true&&(true&&(true&&true))))=true;rw[k1];simp [AV.aV,AV.aH,bS];omega)
  ·rw[<-k1];exact BN _ (by rw[k1];exact k2)
  rintro⟨i,rest,hc⟩ ⟨hd,⟨c1,c2⟩,p8⟩;simp only at hd c1 c2 p8 ⊢
  repeat refine aR ?_
  refine fQ ?_;refine cy rfl ?_;refine dp (x:= .d (.v (.bool (decide ((i:Int)<(e.aw.length:Int)))))) (by kernel_rfl) rfl rfl ?_;refine cw ?_;refine aR ?_;cases rest with
  |nil=>
   rw[dv hd];refine nH (by kernel_rfl) ?_;refine x9 (uk (uk (B5 rfl ?_)));refine cw ?_
   repeat refine aR ?_
   refine fQ ?_;refine cy rfl ?_;rw[<-am8 hc];refine dp (x:= .d (.v (.bool true))) (by kernel_rfl) rfl rfl ?_;refine cw ?_;refine dz ?_;refine CQ c1 c2 ?_;rw[me,List.map_nil]at p8;exact⟨rfl,true,rfl,p8⟩
  |cons x rest=>
   rw[dt hd];refine m8 (by kernel_rfl) ?_;refine fj ?_;refine cw ?_
   repeat refine aR ?_
   refine la ?_
   repeat refine aR ?_
   refine fQ ?_;refine cy rfl ?_;rw[<-am8 hc];refine dp (OY (q:=i) (e:=32) (k:=13) rfl rfl (by kernel_rfl) (cn (cO hd)) rfl) rfl rfl ?_;refine cy rfl ?_;refine dp (x:=aA x) (by kernel_rfl) rfl rfl ?_;refine cy rfl ?_;refine Ej (OI (l:=[]) (by kernel_rfl)) rfl rfl Hf ?_;refine cy rfl ?_;refine Ll (MC (i:=0) (off:=0) (k:=13) (l:=[_]) (v:=aA x) (bV:=(aA x).cells) (by kernel_rfl) rfl (by kernel_rfl) rfl (by kernel_rfl) (by kernel_rfl)) rfl Lp ?_;refine cw ?_
   repeat refine aR ?_
   refine fQ ?_;refine cy rfl ?_;refine dp (yk (i:=0) (off:=0) (l:=[.cells (aA x).cells]) (x:=aA x) (by kernel_rfl) rfl (by kernel_rfl)) rfl rfl ?_;refine cy rfl ?_;refine dp (x:= .cF k) (by kernel_rfl) rfl rfl ?_;refine cy rfl ?_;rw[JX,List.map_append]at p8;have vx:=Si _ _ p8;have hw:=sm x (am0 (cO hd)) k hc _ (by rw[c1];exact c2) (by rw[c1];exact hk) vx;have hw2:=aiI hw [.cells (aA x).cells] (by rw[c1];exact c2) (by
    rw[c1];show((aA x).aH h.length&&((AV.cF k).aH h.length&&true))=true;rw[show(aA x).aH h.length=true by kernel_rfl];simp [AV.aH,bS];omega) (λr h' hh=>by
    obtain⟨b,rfl,_,q1,q2⟩:=hh;exact⟨q1,q2,rfl⟩)
   refine Ui (g:=63) (cN:=[]) rfl rfl rfl ?_;refine hw2.mono λr h' hh=> ?_;obtain⟨h2,⟨b,rfl,q0,q1,q2⟩,rfl⟩:=hh;refine cy rfl ?_;refine dp (x:= .d (.v (.bool (!b)))) (by kernel_rfl) rfl rfl ?_;refine cw ?_;cases b with
   |false=>
    refine m8 (by kernel_rfl) ?_
    repeat refine aR ?_
    refine fQ ?_;refine cy rfl ?_;refine dp (x:= .d (.v (.bool false))) (by kernel_rfl) rfl rfl ?_;refine cw ?_;refine dz (gO (dO (dO (gO (dO ?_)))));refine CQ (h1:=h2) (by rw[q1,c1]) (by rw[c1]at q2;exact q2) ?_;exact⟨rfl,false,rfl,q0⟩
   |true=>
    refine nH (by kernel_rfl) ?_;refine fj ?_;refine oJ ?_;refine cw ?_;simp only[cond_true]at q0;refine fQ ?_;refine cy rfl ?_;refine dp (x:= .d (.v (.int .i64 ((i+1:Nat):Int)))) (by
     show some ((.d (.v (.int .i64 (aS ((i:Int)+1)))):AV),HD.same)=_;have:=dR hd rfl oZ;unfold au at this;rw[this]) rfl rfl ?_
    refine cy rfl ?_;refine dp (x:= .d (.v (.int .i64 ((i+1:Nat):Int)))) (by kernel_rfl) rfl rfl ?_;refine cw ?_;have e1:h2.length=h.length:=by rw[q1,c1]
    have e2:h2.all (ao.aH h2.length)=true:=by rw[q1];exact q2
    refine⟨?_,(i+1,rest,h2),?_,⟨oc hd,⟨e1,by rw[<-e1];exact e2⟩,q0⟩,anB _⟩
    ·rw[<-e1];exact DH _ e2 (by
       show(((AV.cF k).aV h2.length).aH h2.length&&(true&&(true&&(true&&true))))=true;rw[e1];simp [AV.aV,AV.aH,bS];omega)
    ·rw[<-e1];exact BN _ e2
mutual
theorem V0:(e:an)->Kk e
 |⟨_,_,_,_,_,_,xs⟩=>ajn _ (V5 xs)
theorem V5:(l:anD an)->∀x∈l,Kk x
 |[],_,h=>absurd h anu
 |x::l,y,h=>(ani.1 h).elim (λe=>e▸V0 x) (V5 l y)
end
theorem OU{P:anG}{fn:Func}{n:Nat}{t:anD (Nat×AV)}{H h1:anD ao}{K:AV->anD ao->Prop}(k1:h1.length=H.length)(k2:h1.all (ao.aH H.length)=true)(hr:mo P ⟨n,t,h1⟩ fn.results.toList λrs=>((jt rs).aV h1.length).aH h1.length=true/\K ((jt rs).aV h1.length) h1):GN P fn H.length K .normal ⟨n,t,h1⟩:=by
 have:=Xw (P:=P) (fn:=fn) (n:=n) (t:=t) (l:=[]) (K:=K) k1 k2;rw[am8]at this;exact this hr
theorem ajG{P:anG}{fn:Func}{n:Nat}{t:anD (Nat×AV)}{H h1:anD ao}{K:AV->anD ao->Prop}(k1:h1.length=H.length)(k2:h1.all (ao.aH H.length)=true)(hr:mo P ⟨n,t,h1⟩ fn.results.toList λrs=>((jt rs).aV h1.length).aH h1.length=true/\K ((jt rs).aV h1.length) h1):GN P fn H.length K .ret ⟨n,t,h1⟩:=OU k1 k2 hr
theorem RZ(e:an):Mw Tryz.prog 62 [.ba [dd e] 0 0] ((dq e).map aA):=by
 intro k h C pG hk hs;refine Ax h.length Tryz.func62 rfl (by kernel_rfl) (amY _) ?_;show bj Tryz.prog none h.length _ _ ⟨6,[(0, .cF k),(1, .ba [dd e] 0 0)],h⟩;refine fQ ?_;refine cy rfl ?_;refine dp (x:=aA e) (by kernel_rfl) rfl rfl ?_;refine cy rfl ?_;refine dp (x:= .cF k) (by kernel_rfl) rfl rfl ?_;refine cy rfl ?_;refine Ui (g:=63) (cN:=[]) rfl rfl rfl ?_;refine(V0 e k h C pG hk hs).mono λr h' hh=> ?_;obtain⟨b,rfl,q0,q1,q2⟩:=hh;refine OU (n:=6) (t:=[(5, .d (.v (.bool b))),(4, .cF k),(3,aA e),(0, .cF k),(1, .ba [dd e] 0 0)]) q1 q2 ?_;exact⟨rfl,b,q0⟩
def Dc(x:aN):anD aP:=x.aM::x.aZ
def pg(e:an):anD aP:=e.aM::e.xIdx.flatMap Dc
theorem ad5(e:an):Mw Tryz.prog 164 [.ba [dd e] 0 0] ((pg e).map cz):=by
 intro k h C pG hk NB;have hs:=LO _ pG NB;refine Ax h.length Tryz.func164 rfl (by kernel_rfl) (amY _) ?_;show bj Tryz.prog none h.length _ _ ⟨37,[(0, .cF k),(1, .ba [dd e] 0 0)],h⟩
 repeat refine aR ?_
 refine fQ ?_;refine cy rfl ?_;refine dp (x:= .cF k) (by kernel_rfl) rfl rfl ?_;refine cy rfl ?_;refine dp (x:= .ba [dd e] 0 9) (by kernel_rfl) rfl rfl ?_;refine cy rfl ?_;refine dp (x:=cz e.aM) (by kernel_rfl) rfl rfl ?_;refine cy rfl ?_;rw[pg,anc]at hs;refine Jr (k:=k) (x:=cz e.aM) rfl rfl (by kernel_rfl) (by kernel_rfl) rfl rfl ?_;refine YS.mono hs λb h1 hh=> ?_;obtain⟨⟨k1,k2⟩,k3⟩:=hh;refine cy rfl ?_;refine dp (x:= .d (.v (.bool (!b)))) (by kernel_rfl) rfl rfl ?_;refine cw ?_;cases b with
 |false=>
  refine m8 (by kernel_rfl) ?_;refine dz (dO ?_);exact ajG k1 k2 ⟨rfl,false,k3.1⟩
 |true=>
  refine nH (by kernel_rfl) ?_;refine fj ?_;refine cw ?_;simp only[cond_true]at k3
  repeat refine aR ?_
  refine fQ ?_;refine cy rfl ?_;refine dp (x:= .ba [dd e] 0 11) (by kernel_rfl) rfl rfl ?_;refine cy rfl ?_;refine dp (x:= .d (.sl (cH e.xIdx))) (by kernel_rfl) rfl rfl ?_;refine cy rfl ?_;refine dp (x:= .d (.v (.int .i64 (cH e.xIdx).length))) (by kernel_rfl) rfl rfl ?_;refine cy rfl ?_;refine dp (x:= .d (.v (.int .i64 0))) (by kernel_rfl) rfl rfl ?_;refine cw ?_;refine EE 13 (cH e.xIdx) (by kernel_rfl) λbA=> ?_;have oZ:e.xIdx.length<=maxLen:=by rw[<-fU];exact Ht bA
  rw[fU];refine la ?_;refine PJ (ι:=Nat×anD aN×anD ao) [0,13,14,15] h.length (λi=>⟨37,[(0, .cF k),(13, .d (.sl (cH e.xIdx))),(14, .d (.v (.int .i64 e.xIdx.length))),(15, .d (.v (.int .i64 i.1)))],i.2.2⟩)
    (λi=>e.xIdx.drop i.1=i.2.1/\vb h i.2.2/\mZ Tryz.prog k ((i.2.1.flatMap Dc).map cz) (λb h2=>C b h2/\vb h h2) i.2.2) (λi=>i.2.1.length) (0,e.xIdx,h1) (amY _) ?_ ?_ ⟨rfl,⟨k1,k2⟩,k3⟩ ?_
  ·rw[<-k1];exact Ul _ (by rw[k1];exact k2) (by
     show(((AV.cF k).aV h1.length).aH h1.length&&(true&&(true&&(true&&true))))=true;rw[k1,IP hk];rfl)
  ·rw[<-k1];exact Zi _ (by rw[k1];exact k2)
  rintro⟨i,rest,hc⟩ ⟨hd,⟨c1,c2⟩,p8⟩;simp only at hd c1 c2 p8 ⊢
  repeat refine aR ?_
  refine fQ ?_;refine cy rfl ?_;refine dp (x:= .d (.v (.bool (decide ((i:Int)<(e.xIdx.length:Int)))))) (by kernel_rfl) rfl rfl ?_;refine cw ?_
  repeat refine aR ?_
  cases rest with
  |nil=>
   rw[dv hd];refine nH (by kernel_rfl) ?_;refine x9 (uk (uk (B5 rfl ?_)));rw[List.flatMap_nil,List.map_nil]at p8;exact OU c1 c2 ⟨rfl,true,p8.1⟩
  |cons x rest=>
   rw[dt hd];refine m8 (by kernel_rfl) ?_;refine fj ?_;refine cw ?_
   repeat refine aR ?_
   refine la ?_
   repeat refine aR ?_
   refine fQ ?_;refine cy rfl ?_;rw[<-am8 hc];refine dp (OY (q:=i) (e:=73) (k:=4) rfl rfl (by kernel_rfl) (kC (cO hd)) rfl) rfl rfl ?_;refine cy rfl ?_;refine dp (x:=gh x) (by kernel_rfl) rfl rfl ?_;refine cy rfl ?_;refine Ej (OI (l:=[]) (by kernel_rfl)) rfl rfl Hf ?_;refine cy rfl ?_;refine Ll (MC (i:=0) (off:=0) (k:=4) (l:=[_]) (v:=gh x) (bV:=(gh x).cells) (by kernel_rfl) rfl (by kernel_rfl) rfl (by kernel_rfl) (by kernel_rfl)) rfl Lp ?_;refine cw ?_
   repeat refine aR ?_
   refine fQ ?_;refine cy rfl ?_;refine dp (x:= .cF k) (by kernel_rfl) rfl rfl ?_;refine cy rfl ?_;refine dp (x:= .ptr (hc.length+0) 0) (by kernel_rfl) rfl rfl ?_;refine cy rfl ?_;refine dp (yk (i:=0) (off:=0) (l:=[.cells (gh x).cells]) (x:=cz x.aM) (by kernel_rfl) rfl (by kernel_rfl)) rfl rfl ?_;refine cy rfl ?_;rw[List.flatMap_cons,Dc,List.cons_append,anc]at p8;have hy:=LH p8 [.cells (gh x).cells] (by rw[c1];exact c2) (by kernel_rfl) (λb h' hh=>hh.1);refine Jr (k:=k) (x:=cz x.aM) rfl rfl (by kernel_rfl) (by kernel_rfl) rfl rfl ?_;refine hy.mono λb h' hh=> ?_;obtain⟨h2,⟨⟨p1,p2⟩,p3⟩,rfl⟩:=hh;refine cy rfl ?_;refine dp (x:= .d (.v (.bool (!b)))) (by kernel_rfl) rfl rfl ?_;refine cw ?_;have q1:h2.length=h.length:=by rw[p1,c1]
   have q2:h2.all (ao.aH h.length)=true:=by rw[c1]at p2;exact p2
   cases b with
   |false=>
    refine m8 (by kernel_rfl) ?_;refine dz ?_
    repeat (first|(with_reducible refine dO ?_)|(with_reducible refine gO ?_))
    exact CQ q1 q2 ⟨rfl,false,p3.1⟩
   |true=>
    refine nH (by kernel_rfl) ?_;refine fj ?_;refine cw ?_;simp only[cond_true]at p3
    repeat refine aR ?_
    refine fQ ?_;refine cy rfl ?_;refine dp (x:= .ptr (hc.length+0) 3) (by kernel_rfl) rfl rfl ?_;refine cy rfl ?_;refine dp (yk (h:=h2) (i:=0) (off:=3) (l:=[.cells (gh x).cells]) (x:= .d (.sl (ew x.aZ))) (by rw[p1];rfl) rfl (by kernel_rfl)) rfl rfl ?_;refine cy rfl ?_;refine dp (x:= .d (.v (.int .i64 (ew x.aZ).length))) (by kernel_rfl) rfl rfl ?_;refine cy rfl ?_;refine dp (x:= .d (.v (.int .i64 0))) (by kernel_rfl) rfl rfl ?_;refine cw ?_;refine EE 25 (ew x.aZ) (by kernel_rfl) λaa0=> ?_;have ah0:x.aZ.length<=maxLen:=by rw[<-gW];exact Ht aa0
    rw[gW];refine la ?_;refine PJ (ι:=Nat×anD aP×anD ao) [0,13,14,15,25,26,27] h.length (λj=>⟨37,[(0, .cF k),(13, .d (.sl (cH e.xIdx))),(14, .d (.v (.int .i64 e.xIdx.length))),(15, .d (.v (.int .i64 i))),(25, .d (.sl (ew x.aZ))),(26, .d (.v (.int .i64 x.aZ.length))),(27, .d (.v (.int .i64 j.1)))],j.2.2⟩)
      (λj=>x.aZ.drop j.1=j.2.1/\vb h j.2.2/\mZ Tryz.prog k ((j.2.1++rest.flatMap Dc).map cz) (λb h2=>C b h2/\vb h h2) j.2.2) (λj=>j.2.1.length) (0,x.aZ,h2) (amY _) ?_ ?_ ⟨rfl,⟨q1,q2⟩,p3⟩ ?_
    ·rw[<-q1];exact DH _ (by rw[q1];exact q2) (by
       show(((AV.cF k).aV h2.length).aH h2.length&&(true&&(true&&(true&&(true&&(true&&(true&&true)))))))=true;rw[q1,IP hk];rfl)
    ·rw[<-q1];exact BN _ (by rw[q1];exact q2)
    rintro⟨j,r2,hb⟩ ⟨qj,⟨b1,b2⟩,vx⟩;simp only at qj b1 b2 vx ⊢
    repeat refine aR ?_
    refine fQ ?_;refine cy rfl ?_;refine dp (x:= .d (.v (.bool (decide ((j:Int)<(x.aZ.length:Int)))))) (by kernel_rfl) rfl rfl ?_;refine cw ?_
    repeat refine aR ?_
    cases r2 with
    |nil=>
     rw[dv qj];refine nH (by kernel_rfl) ?_;refine x9 (uk (uk (B5 rfl ?_)));refine oJ ?_;refine cw ?_;rw[List.nil_append]at vx;refine fQ ?_;refine cy rfl ?_;refine dp (x:= .d (.v (.int .i64 ((i+1:Nat):Int)))) (by
       show some ((.d (.v (.int .i64 (aS ((i:Int)+1)))):AV),HD.same)=_;have:=dR hd rfl oZ;unfold au at this;rw[this]) rfl rfl ?_
     refine cy rfl ?_;refine dp (x:= .d (.v (.int .i64 ((i+1:Nat):Int)))) (by kernel_rfl) rfl rfl ?_;refine cw ?_;refine⟨?_,(i+1,rest,hb),?_,⟨oc hd,⟨b1,b2⟩,vx⟩,anB _⟩
     ·rw[<-b1];exact Ul _ (by rw[b1];exact b2) (by
        show(((AV.cF k).aV hb.length).aH hb.length&&(true&&(true&&(true&&true))))=true;rw[b1,IP hk];rfl)
     ·rw[<-b1];exact Zi _ (by rw[b1];exact b2)
    |cons y r2=>
     rw[dt qj];refine m8 (by kernel_rfl) ?_;refine fj ?_;refine cw ?_
     repeat refine aR ?_
     refine la ?_
     repeat refine aR ?_
     refine fQ ?_;refine cy rfl ?_;rw[<-am8 hb];refine dp (OY (q:=j) (e:=28) (k:=2) rfl rfl (by kernel_rfl) (uE (cO qj)) rfl) rfl rfl ?_;refine cy rfl ?_;refine dp (x:=cz y) (by kernel_rfl) rfl rfl ?_;refine cy rfl ?_;refine Ej (OI (l:=[]) (by kernel_rfl)) rfl rfl Hf ?_;refine cy rfl ?_;refine Ll (MC (i:=0) (off:=0) (k:=2) (l:=[_]) (v:=cz y) (bV:=(cz y).cells) (by kernel_rfl) rfl (by kernel_rfl) rfl (by kernel_rfl) (by kernel_rfl)) rfl Lp ?_;refine cw ?_
     repeat refine aR ?_
     refine fQ ?_;refine cy rfl ?_;refine dp (x:= .cF k) (by kernel_rfl) rfl rfl ?_;refine cy rfl ?_;refine dp (yk (i:=0) (off:=0) (l:=[.cells (cz y).cells]) (x:=cz y) (by kernel_rfl) rfl (by kernel_rfl)) rfl rfl ?_;refine cy rfl ?_;rw[List.cons_append,anc]at vx;have HC:=LH vx [.cells (cz y).cells] (by rw[b1];exact b2) (by kernel_rfl) (λb h' hh=>hh.1);refine Jr (k:=k) (x:=cz y) rfl rfl (by kernel_rfl) (by kernel_rfl) rfl rfl ?_;refine HC.mono λb h' hh=> ?_;obtain⟨h3,⟨⟨r1,r3⟩,r4⟩,rfl⟩:=hh;refine cy rfl ?_;refine dp (x:= .d (.v (.bool (!b)))) (by kernel_rfl) rfl rfl ?_;refine cw ?_;have u1:h3.length=h.length:=by rw[r1,b1]
     have u2:h3.all (ao.aH h.length)=true:=by rw[b1]at r3;exact r3
     cases b with
     |false=>
      refine m8 (by kernel_rfl) ?_;refine dz ?_
      repeat (first|(with_reducible refine dO ?_)|(with_reducible refine gO ?_))
      exact CQ u1 u2 ⟨rfl,false,r4.1⟩
     |true=>
      refine nH (by kernel_rfl) ?_;refine fj ?_;refine oJ ?_;refine cw ?_;simp only[cond_true]at r4;refine fQ ?_;refine cy rfl ?_;refine dp (x:= .d (.v (.int .i64 ((j+1:Nat):Int)))) (by
       show some ((.d (.v (.int .i64 (aS ((j:Int)+1)))):AV),HD.same)=_;have:=dR qj rfl ah0;unfold au at this;rw[this]) rfl rfl ?_
      refine cy rfl ?_;refine dp (x:= .d (.v (.int .i64 ((j+1:Nat):Int)))) (by kernel_rfl) rfl rfl ?_;refine cw ?_;refine⟨?_,(j+1,r2,h3),?_,⟨oc qj,⟨u1,u2⟩,r4⟩,anB _⟩
      ·rw[<-u1];exact DH _ (by rw[u1];exact u2) (by
         show(((AV.cF k).aV h3.length).aH h3.length&&(true&&(true&&(true&&(true&&(true&&(true&&true)))))))=true;rw[u1,IP hk];rfl)
      ·rw[<-u1];exact BN _ (by rw[u1];exact u2)
theorem af6(v1:an):gn Tryz.prog 36 [(aA v1)] (·= .fn 62 [.ba [dd v1] 0 0]):=by
 refine RO (r:= .fn 62 [(.ptr 0 0)]) (h:=[.cells (aA v1).cells]) ?_ (by kernel_rfl) rfl;refine zD 1 Tryz.func36 rfl (by kernel_rfl) (amV rfl) ?_;refine w9 (s':=⟨4,[(0,(aA v1))],[]⟩) (by kernel_rfl) ?_;refine aR ?_;refine rg [] [(1,(.ptr 0 0))] [.cells (aA v1).cells] (by kernel_rfl) ?_;refine aR ?_;refine rg [] [(2,(.fn 62 [(.ptr 0 0)]))] [.cells (aA v1).cells] (by kernel_rfl) ?_;refine dz ?_;exact m5 (by kernel_rfl)
theorem agl(v1:an):gn Tryz.prog 97 [(aA v1)] (·= .fn 164 [.ba [dd v1] 0 0]):=by
 refine RO (r:= .fn 164 [(.ptr 0 0)]) (h:=[.cells (aA v1).cells]) ?_ (by kernel_rfl) rfl;refine zD 1 Tryz.func97 rfl (by kernel_rfl) (amV rfl) ?_;refine w9 (s':=⟨4,[(0,(aA v1))],[]⟩) (by kernel_rfl) ?_;refine aR ?_;refine rg [] [(1,(.ptr 0 0))] [.cells (aA v1).cells] (by kernel_rfl) ?_;refine aR ?_;refine rg [] [(2,(.fn 164 [(.ptr 0 0)]))] [.cells (aA v1).cells] (by kernel_rfl) ?_;refine dz ?_;exact m5 (by kernel_rfl)
end Go.Proofs.YtfdhojiehjfghaaGreatDoor
namespace Go.Proofs.YtfdhojiehjfghaaGreatDoor
open Go.RowKit Go.Shelf
set_option maxRecDepth 100000
def aew:Ren where
 f:=fun
  |157=>263
  |229=>315
  |199=>316
  |261=>355
  |311=>366
  |312=>367
  |n=>n
 t:=fun
  |9=>9
  |31=>47
  |3=>3
  |5=>5
  |4=>4
  |119=>320
  |0=>0
  |40=>201
  |152=>336
  |21=>21
  |154=>338
  |51=>339
  |141=>341
  |196=>349
  |193=>346
  |198=>351
  |49=>64
  |194=>347
  |201=>354
  |226=>367
  |46=>291
  |227=>368
  |n=>n
 g:=fun
  |0=>0
  |6=>1
  |n=>n
def nL:anD anE:=[bs [115,105,122,101],bs [119,104,101,114,101],bs [105,110],bs [100,101,102],bs [111,117,116],bs [115,117,109],bs [112,114,111,100],bs [109,105,110],bs [109,97,120],bs [115,99,97,110],bs [111,118,101,114],bs [105,102],bs [99,97,115,116],bs [102,114,97,99],bs [105,110,116],bs [102,105,120],bs [99,101,105,108],bs [102,108,111,111,114],bs [122,101,114,111],bs [101,118,101,110],bs [115,97,116],bs [119,114,97,112]]
theorem al0:Lays.n157 Tryz.prog aew:=by
 constructor<;>first|kernel_rfl|(intro w;rfl)
def Ew:anE:=⟨#[115,105,122,101,32,119,104,101,114,101,32,105,110,32,100,101,102,32,111,117,116,32,115,117,109,32,112,114,111,100,32,109,105,110,32,109,97,120,32,115,99,97,110,32,111,118,101,114,32,105,102,32,99,97,115,116,32,102,114,97,99,32,105,110,116,32,102,105,120,32,99,101,105,108,32,102,108,111,111,114,32,122,101,114,111,32,101,118,101,110,32,115,97,116,32,119,114,97,112]⟩
theorem ajm(w:anI)(hT:∀c:Nat,c<256->w.cell? ⟨0,c,none⟩=some (.int .u8 (if Lib.isSp (UInt8.ofNat c)then 1 else 0))):
 Calls Tryz.prog 263 #[.string Ew] w λe w'=>e= .returned (.slice (some ⟨w.heap.size,0,none⟩) 22 22)/\w'=w.alloc (.cells (nL.map Value.string).toArray 9):=by
 have ha:(Ew.data.toList.all λb=>decide (b.toNat<128))=true:=by kernel_rfl
 have h:=Any.strings_Fields_core al0 (by kernel_rfl) Ew w (of_decide_eq_true (by kernel_rfl)) (λj b hb=>of_decide_eq_true (ane.1 ha b (am0 hb))) hT;have e1:(Lib.fields Ew.data.toList).length=22:=by kernel_rfl
 have e2:((Lib.fields Ew.data.toList).map λl=>Value.string ⟨l.toArray⟩)=nL.map Value.string:=by kernel_rfl
 rw[e1,e2]at h;exact h
theorem afQ(w:anI)(hT:∀c:Nat,c<256->w.cell? ⟨0,c,none⟩=some (.int .u8 (if Lib.isSp (UInt8.ofNat c)then 1 else 0))):
 Calls Tryz.prog 200 #[] w λe w'=>e= .returned (.slice (some ⟨w.heap.size,0,none⟩) 22 22)/\w'=w.alloc (.cells (nL.map Value.string).toArray 9):=by
 go_enter Tryz.func200,Tryz.ntmps200
 go_wp2_with (go_at_call 263;refine(ajm _ hT).mono ?_;rintro e w' ⟨rfl,rfl⟩)
 go_ret
 exact⟨rfl,rfl⟩
theorem ajj:∀c:Nat,c<256->(xa Df)[c]?=some (.int .u8 (if Lib.isSp (UInt8.ofNat c)then 1 else 0)):=λc hc=>by
 rw[show xa Df=(List.range 256).map λc=>Value.int .u8 (if Lib.isSp (UInt8.ofNat c)then 1 else 0) by kernel_rfl,amU,List.getElem?_range hc];rfl
theorem aly:gn Tryz.prog 200 [] (·= .d (.sl (mR nL))):=by
 refine⟨by kernel_rfl,λG w vs hi hl hr=> ?_⟩;obtain rfl:vs= #[]:=Array.size_eq_zero_iff.1 hl;refine(afQ w λc hc=> ?_).mono λe w' hp=> ?_
 ·exact(hi.gl.1 0 (xa Df) amT c _ (ajj c hc)).2
 ·obtain⟨rfl,rfl⟩:=hp;obtain⟨i1,i2⟩:=U0 hi (.cells (nL.map Value.string).toArray 9) 22;have Ds:Rd (G.CJ w.heap.size 22).S (w.alloc (.cells (nL.map Value.string).toArray 9)) 1 (mR nL) (nL.map Value.string):=
   ⟨rfl,λx hx=>(by obtain⟨y,_,rfl⟩:=List.mem_map.1 hx;rfl),λu hu=>(by obtain⟨y,_,rfl⟩:=List.mem_map.1 hu;rfl),λi j x d hx hd=>by
    rw[wz,amU]at hx;cases hk:nL[i]? with
    |none=>rw[hk]at hx;cases hx
    |some y=>
     rw[hk]at hx;cases hx;cases j with
     |zero=>cases hd;exact⟨.string y,by rw[Nat.mul_one,Nat.add_zero,amU,hk];rfl, .v _⟩
     |succ j=>cases hd⟩
  have hp:=Ds.GB w.heap.size 22 (by decide) (by decide) (λo ho=> .inr ⟨rfl,ho⟩) (λo u hu=>by
   rw[World.cell?_alloc_new,List.getElem?_toArray];exact hu)
  exact⟨_,_,_,_,rfl,i1,amY _,i2, .d hp,rfl,rfl⟩
end Go.Proofs.YtfdhojiehjfghaaGreatDoor
namespace Go.Proofs.YtfdhojiehjfghaaGreatDoor
open Go.RowKit
set_option maxRecDepth 1000000
end Go.Proofs.YtfdhojiehjfghaaGreatDoor
