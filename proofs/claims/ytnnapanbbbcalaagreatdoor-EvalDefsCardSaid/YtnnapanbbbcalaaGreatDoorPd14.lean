/-
  Part 14 of the proof: InLin, InLin2, InLin3, EvA, EvB, EvC, SmV, SmVR, SmVF, EvD, InVal3, InVal4, EvE, EvF, EvG, EvH.
-/
import Derived.Test.YtnnapanbbbcalaaGreatDoorPd13
import Derived.Laws.Bits64
set_option linter.defProp false
namespace Go.Proofs.YtnnapanbbbcalaaGreatDoor
open IntKind (u64 i64)
open Go.RowKit
set_option maxRecDepth 100000
set_option linter.unusedSimpArgs false
set_option linter.unusedVariables false
def Fu(n:Int):(Int64.ofInt n).toInt=i64.wrap n:=by
 have h:=iI n;unfold Y bx aE at h;injection h with h;injection h with h;injection h with _ h;exact h.symm
def arG(a b:Int64):(a+b).toInt=i64.wrap (a.toInt+b.toInt):=by
 have h:=ot a b;unfold Y bx aE at h;injection h with h;injection h with h;injection h with _ h;exact h.symm
def aoR(a b:Int64):(a*b).toInt=i64.wrap (a.toInt*b.toInt):=by
 have h:=gv a b;unfold Y bx aE at h;injection h with h;injection h with h;injection h with _ h;exact h.symm
def afq(a b:Int64):(a-b).toInt=i64.wrap (a.toInt-b.toInt):=by
 have h:=mz a b;unfold Y bx aE at h;injection h with h;injection h with h;injection h with _ h;exact h.symm
def lR(a:Int64): -9223372036854775808<=a.toInt/\a.toInt<=9223372036854775807:=qK.1 (apb a)
def RX{a b:Int64}(h:a.toInt=b.toInt):a=b:=Int64.toInt_inj.1 h
def TO(x:Int)(h:0<=x/\x<18446744073709551616):u64.wrap ((BitVec.ofInt u64.bits x&&&BitVec.ofInt u64.bits 4294967295).toNat:Int)=x%4294967296:=by
 obtain⟨n,rfl⟩:=Int.eq_ofNat_of_zero_le h.1;have e:(BitVec.ofInt u64.bits (n:Int)&&&BitVec.ofInt u64.bits 4294967295).toNat=n%4294967296:=by
  show(BitVec.ofInt 64 (n:Int)&&&BitVec.ofInt 64 4294967295).toNat=_;rw[BitVec.toNat_and];have a:(BitVec.ofInt 64 (n:Int)).toNat=n:=by
   rw[BitVec.toNat_ofInt];omega
  have b:(BitVec.ofInt 64 (4294967295:Int)).toNat=2^32-1:=by decide
  rw[a,b,Nat.and_two_pow_sub_one_eq_mod]
 rw[e,aq];omega
def aoI(x:Int):x.fdiv (2^min (32:Int).toNat u64.bits)=x / 4294967296:=by
 show x.fdiv 4294967296=_;rw[Int.fdiv_eq_ediv_of_nonneg _ (by omega)]
def aqv(a b:Int)(B:0<=a/\a<18446744073709551616)(C:0<=b/\b<18446744073709551616):
 let c:=a / 4294967296
 let al:=a%4294967296
 let d:=b / 4294967296
 let bl:=b%4294967296
 let W:=u64.wrap
 let f:=W (al*bl)
 let g:=W (W (c*bl)+f / 4294967296)
 let h:=W (W (al*d)+g%4294967296)
 W (W (W (c*d)+g / 4294967296)+h / 4294967296)=a*b / 18446744073709551616:=by
 intro c al d bl W f g h;have k:0<=c/\c<=4294967295:=by omega
 have l:0<=al/\al<=4294967295:=by omega
 have n:0<=d/\d<=4294967295:=by omega
 have o:0<=bl/\bl<=4294967295:=by omega
 have i:∀{x y:Int},(0<=x/\x<=4294967295)->(0<=y/\y<=4294967295)->0<=x*y/\x*y<=18446744065119617025:=λq j=>
  ⟨Int.mul_nonneg q.1 j.1,Int.le_trans (ah q.2 j.2 j.1 (by omega)) (by decide)⟩
 have E:=i k n;have F:=i k o;have G:=i l n;have H:=i l o;have e:a*b=18446744073709551616*(c*d)+4294967296*(c*bl)+4294967296*(al*d)+al*bl:=by
  have r:a=4294967296*c+al:=by omega
  have t:b=4294967296*d+bl:=by omega
  have:∀x y z w:Int,(4294967296*x+y)*(4294967296*z+w)=18446744073709551616*(x*z)+4294967296*(x*w)+4294967296*(y*z)+y*w:=λx y z w=>by
   rw[Int.add_mul,Int.mul_add,Int.mul_add];rw[show 4294967296*x*(4294967296*z)=18446744073709551616*(x*z)from by
     rw[ab,Int.mul_left_comm x,<-ab];rfl]
   rw[ab 4294967296 x w,Int.mul_left_comm y];omega
  rw[<-this,<-r,<-t]
 generalize J:c*d=P at*;generalize K:c*bl=Q at*;generalize L:al*d=R at*;generalize M:al*bl=T at*;have u:f=T:=by show u64.wrap _=_;rw[aq];omega
 have v:g=Q+T / 4294967296:=by show u64.wrap (u64.wrap _+f / _)=_;rw[aq,aq,u];omega
 have A:h=R+g%4294967296:=by show u64.wrap (u64.wrap _+g%_)=_;rw[aq,aq];omega
 show u64.wrap (u64.wrap (u64.wrap P+g / 4294967296)+h / 4294967296)=_;rw[aq,aq,aq,e,A,v];omega
def xJ(n:Int):0<=u64.wrap n/\u64.wrap n<18446744073709551616:=by rw[aq];omega
def aoD(N:Nat)(a b:Int)(c:0<=a/\a<18446744073709551616)(d:0<=b/\b<18446744073709551616):O6 N a b=some (a*b / 18446744073709551616,a*b%18446744073709551616):=by
 unfold O6;simp only[TO _ c,TO _ d,TO _ (xJ _),aoI];rw[aqv a b c d,aq (a*b)]
def TZ(N:Nat)(a:Int64):DB N a=some (a.toInt.natAbs:Int):=by
 unfold DB;have:=lR a;rw[aq,aq];by_cases h:a.toInt<0;{rw[dO h,V1];congr 1;omega};{rw[Zx h,UQ];congr 1;omega}
def afe(a b:Int):(a.natAbs:Int)*b.natAbs=if(decide (a<0)==decide (b<0))=true then a*b else-(a*b):=by
 by_cases c:a<0<;>by_cases d:b<0;{rw[show(a.natAbs:Int)= -a by omega,show(b.natAbs:Int)= -b by omega,Int.neg_mul_neg];simp [c,d]};{rw[show(a.natAbs:Int)= -a by omega,show(b.natAbs:Int)=b by omega,Int.neg_mul];simp [c,d]};{rw[show(a.natAbs:Int)=a by omega,show(b.natAbs:Int)= -b by omega,Int.mul_neg];simp [c,d]};{rw[show(a.natAbs:Int)=a by omega,show(b.natAbs:Int)=b by omega];simp [c,d]}
def nb:I aJ->so->U Int64
 |[],_=>none
 |b::r,s=>bif bL b.aC==bL s then some b.dQ else nb r s
def sE(env:I aJ):I dZ->Int->U Int
 |[],a=>some a
 |m::r,a=>match nb env m.aC with
  |none=>none
  |some v=>sE env r (a+m.eQ.toInt*v.toInt)
def dB(l:bD)(env:I aJ):Int64×Int:=bif !jR l then(0,1)else match sE env l.xL l.xK.toInt with
 |none=>(0,9)
 |some s=>bif tD s then(Int64.ofInt s,0)else(0,3)
def wv(w:kS):Int:=w.lJ+w.mm*18446744073709551616+w.pj*340282366920938463463374607431768211456
structure U3(w:kS):Prop where
 h0:0<=w.pj
 h1:w.pj<18446744073709551616
 m0:0<=w.mm
 m1:w.mm<18446744073709551616
 l0:0<=w.lJ
 l1:w.lJ<18446744073709551616
abbrev lD:Int:=6277101735386680763835789423207666416102355444464034512896
def RE{x:Int}(a:0<=x)(h1:x<18446744073709551616):u64.wrap ((BitVec.ofInt (IntKind.bits .u64) (IntKind.max .u64)^^^BitVec.ofInt (IntKind.bits .u64) x).toNat:Int)=18446744073709551615-x:=by
 obtain⟨n,rfl⟩:=Int.eq_ofNat_of_zero_le a;have e:(BitVec.ofInt (IntKind.bits .u64) (IntKind.max .u64)^^^BitVec.ofInt (IntKind.bits .u64) (n:Int))= ~~~(BitVec.ofNat 64 n):=by
  show(BitVec.ofInt 64 18446744073709551615^^^BitVec.ofInt 64 (n:Int))=_;rw[show BitVec.ofInt 64 18446744073709551615=BitVec.allOnes 64 by decide,BitVec.allOnes_xor,BitVec.ofInt_natCast]
 have b:(BitVec.ofInt (IntKind.bits .u64) (IntKind.max .u64)^^^BitVec.ofInt (IntKind.bits .u64) (n:Int)).toNat=2^64-1-n%2^64:=by
  have h:=congrArg BitVec.toNat e;have c:(~~~(BitVec.ofNat 64 n)).toNat=2^64-1-n%2^64:=by rw[BitVec.toNat_not,BitVec.toNat_ofNat]
  exact h.trans c
 rw[b,aq];omega
def PY(N:Nat)(w:kS)(a:U3 w){top hi lo:Int}(t0:0<=top)(B:top<18446744073709551616)(a0:0<=hi)(C:hi<18446744073709551616)(E:0<=lo)(F:lo<18446744073709551616):
 ∃r:kS,uB N w hi lo top=some (r.pj,r.mm,r.lJ)/\U3 r/\∃k:Int,wv r=wv w+(lo+hi*18446744073709551616+top*340282366920938463463374607431768211456)+k*lD:=by
 obtain⟨n,o,q,t,u,v⟩:=a;obtain⟨H,M,L⟩:=w;simp only at n o q t u v;have b:∃c:Int,(c=0\/c=1)/\uB N ⟨H,M,L⟩ hi lo top=yS N ⟨H,M,L⟩ hi top lo c/\u64.wrap (L+lo)=L+lo-c*18446744073709551616:=by
  unfold uB;simp only;rw[aq];by_cases f:(L+lo)%18446744073709551616<lo;{rw[dO f];exact⟨1,.inr rfl,rfl,by omega⟩};{rw[Zx f];exact⟨0,.inl rfl,rfl,by omega⟩}
 obtain⟨c,f,b,x⟩:=b;have g:∃d:Int,(d=0\/d=1)/\yS N ⟨H,M,L⟩ hi top lo c=Av N ⟨H,M,L⟩ hi c top lo d/\u64.wrap (M+hi)=M+hi-d*18446744073709551616:=by
  unfold yS;simp only;rw[aq];by_cases h:(M+hi)%18446744073709551616<hi;{rw[dO h];exact⟨1,.inr rfl,rfl,by omega⟩};{rw[Zx h];exact⟨0,.inl rfl,rfl,by omega⟩}
 obtain⟨d,h,g,l⟩:=g;have y:=xJ (M+hi);rw[l]at y;have i:∃e:Int,(e=0\/e=1)/\Av N ⟨H,M,L⟩ hi c top lo d=G5 N ⟨H,M,L⟩ top hi c lo (d+e)/\u64.wrap (u64.wrap (M+hi)+c)=M+hi+c-(d+e)*18446744073709551616/\d+e<=1:=by
  unfold Av;simp only;rw[l,aq (M+hi-d*18446744073709551616+c),aq (d+1)];by_cases j:(M+hi-d*18446744073709551616+c)%18446744073709551616<M+hi-d*18446744073709551616
  ·rw[dO j];have:d=0:=by omega
   subst this;exact⟨1,.inr rfl,rfl,by omega,by omega⟩
  ·rw[Zx j];exact⟨0,.inl rfl,by rw[Int.add_zero];rfl,by omega,by omega⟩
 obtain⟨e,j,i,z,G⟩:=i;refine⟨⟨u64.wrap (H+u64.wrap (top+(d+e))),u64.wrap (u64.wrap (M+hi)+c),u64.wrap (L+lo)⟩,by rw[b,g,i];rfl,?_,?_⟩;{refine⟨(xJ _).1,(xJ _).2,(xJ _).1,(xJ _).2,(xJ _).1,(xJ _).2⟩}
 ·unfold wv;simp only;rw[x,z,aq,aq];refine⟨-((H+(top+(d+e))%18446744073709551616)/ 18446744073709551616+(top+(d+e))/ 18446744073709551616),?_⟩;unfold lD;generalize tO:(top+(d+e))/ 18446744073709551616=q1;generalize J:(top+(d+e))%18446744073709551616=r1;have K:top+(d+e)=18446744073709551616*q1+r1:=by omega
  generalize qp:(H+r1)/ 18446744073709551616=A;generalize P:(H+r1)%18446744073709551616=r2;have Q:H+r1=18446744073709551616*A+r2:=by omega
  omega
def afY(N:Nat)(w:kS)(a:U3 w){hi lo:Int}(a0:0<=hi)(f:hi<18446744073709551616)(g:0<=lo)(h:lo<18446744073709551616)(b:Bool):
 ∃r:kS,AS N hi lo b w=some (r.pj,r.mm,r.lJ)/\U3 r/\∃k:Int,wv r=wv w+(bif b then-(lo+hi*18446744073709551616)else lo+hi*18446744073709551616)+k*lD:=by
 unfold AS;rw[RE a0 f,RE g h,RE (Int.le_refl 0) (by decide)];cases b with
 |false=>
  rw[UQ,UQ];obtain⟨r,c,d,k,e⟩:=PY N w a (top:=0) (by decide) (by decide) a0 f g h;exact⟨r,c,d,k,by rw[e];omega⟩
 |true=>
  rw[V1,V1];simp only[aq];by_cases i:lo=0
  ·subst i;rw[show(((18446744073709551615-0+1:Int)%18446744073709551616)==0)=true by decide,V1];by_cases j:hi=0
   ·subst j;rw[show(((18446744073709551615-0+1:Int)%18446744073709551616)==0)=true by decide,V1];obtain⟨r,c,d,k,e⟩:=PY N w a (top:=(18446744073709551615-0+1)%18446744073709551616) (hi:=(18446744073709551615-0+1)%18446744073709551616) (lo:=(18446744073709551615-0+1)%18446744073709551616) (by decide) (by decide) (by decide) (by decide) (by decide) (by decide);exact⟨r,c,d,k,by rw[e];rfl⟩
   ·rw[show(((18446744073709551615-hi+1:Int)%18446744073709551616)==0)=false by rw[Vb];omega,UQ];obtain⟨r,c,d,k,e⟩:=PY N w a (top:=18446744073709551615-0) (hi:=(18446744073709551615-hi+1)%18446744073709551616) (lo:=(18446744073709551615-0+1)%18446744073709551616) (by decide) (by decide) (by omega) (by omega) (by decide) (by decide);exact⟨r,c,d,k+1,by rw[e];unfold lD;omega⟩
  ·rw[show(((18446744073709551615-lo+1:Int)%18446744073709551616)==0)=false by rw[Vb];omega,UQ];obtain⟨r,c,d,k,e⟩:=PY N w a (top:=18446744073709551615-0) (hi:=18446744073709551615-hi) (lo:=(18446744073709551615-lo+1)%18446744073709551616) (by decide) (by decide) (by omega) (by omega) (by omega) (by omega);exact⟨r,c,d,k+1,by rw[e];unfold lD;omega⟩
def aiU{a b:Int}(h:∃k:Int,a=b+k*18446744073709551616):Int64.ofInt a=Int64.ofInt b:=by
 obtain⟨k,rfl⟩:=h;apply Int64.toInt_inj.1;rw[Int64.toInt_ofInt,Int64.toInt_ofInt,Int.bmod_def,Int.bmod_def];have:(b+k*18446744073709551616)%18446744073709551616=b%18446744073709551616:=by omega
 simp only[show((2^64:Nat):Int)=18446744073709551616 by decide];rw[this]
def an9(N:Nat)(w:kS)(a:U3 w){s:Int}(x: -3138550867693340381917894711603833208051177722232017256448<=s)(y:s<3138550867693340381917894711603833208051177722232017256448)(d:∃k:Int,wv w=s+k*lD):
 Lv N w=some (Int64.ofInt s,tD s):=by
 obtain⟨f,g,h,i,j,l⟩:=a;obtain⟨H,M,L⟩:=w;obtain⟨k,d⟩:=d;unfold wv lD at d;simp only at f g h i j l d;unfold Lv;simp only;have o:(Int64.ofInt L).toInt=if L<9223372036854775808 then L else L-18446744073709551616:=by
  rw[Int64.toInt_ofInt,Int.bmod_def];simp only[show((2^64:Nat):Int)=18446744073709551616 by decide];split<;>split<;>omega
 have q:((Int64.ofInt L).toInt.fdiv (2^(min ((63:Int)).toNat (IntKind.bits .i64))))=if L<9223372036854775808 then 0 else-1:=by
  rw[show((2:Int)^(min ((63:Int)).toNat (IntKind.bits .i64)))=9223372036854775808 by decide,Int.fdiv_eq_ediv_of_nonneg _ (by decide),o];split<;>omega
 rw[q];have r:∀z:Int,(z=0\/z= -1)->u64.wrap (Int64.ofInt z).toInt=if z=0 then 0 else 18446744073709551615:=λz t=>by
   rcases t with rfl|rfl<;>decide
 rw[r _ (by split<;>simp)];have u:Int64.ofInt L=Int64.ofInt s:=aiU ⟨k*340282366920938463463374607431768211456-M-H*18446744073709551616,by omega⟩;rw[u];have v:(bif (M==(if(if L<9223372036854775808 then(0:Int)else-1)=0 then(0:Int)else 18446744073709551615))then some (H==(if(if L<9223372036854775808 then(0:Int)else-1)=0 then(0:Int)else 18446744073709551615))else some false)=some (tD s):=by
   by_cases e:L<9223372036854775808
   ·simp only[e,if_true];by_cases b:M=0
    ·rw[show(M==0)=true by rw[Ve];exact b,V1];by_cases c:H=0
     ·rw[show(H==0)=true by rw[Ve];exact c,(qK (n:=s)).2 (by subst b;subst c;omega)]
     ·rw[show(H==0)=false by rw[Vb];exact c]
      congr 1;symm
      rw[<-VC,qK];omega
    ·rw[show(M==0)=false by rw[Vb];exact b,UQ]
     congr 1;symm
     rw[<-VC,qK];omega
   ·simp only[e,if_false];rw[ZN (by decide)];by_cases b:M=18446744073709551615
    ·rw[show(M==18446744073709551615)=true by rw[Ve];exact b,V1];by_cases c:H=18446744073709551615
     ·rw[show(H==18446744073709551615)=true by rw[Ve];exact c,(qK (n:=s)).2 (by subst b;subst c;omega)]
     ·rw[show(H==18446744073709551615)=false by rw[Vb];exact c]
      congr 1;symm
      rw[<-VC,qK];omega
    ·rw[show(M==18446744073709551615)=false by rw[Vb];exact b,UQ]
     congr 1;symm
     rw[<-VC,qK];omega
 rw[v,re]
def afR(N:Nat)(m:dZ):∀(env:I aJ)(k:Nat),(nb env m.aC=none->BG N m env k=some (-1))/\(∀v,nb env m.aC=some v->∃i b,BG N m env k=some ((k+i:Nat):Int)/\env[i]?=some b/\b.dQ=v)
 |[],k=>⟨λ_=>rfl,λv h=>by cases h⟩
 |b::r,k=>by
  obtain⟨a,d⟩:=afR N m r (k+1);unfold nb BG SV;simp only[re];cases g:(bL b.aC==bL m.aC)with
  |true=>exact⟨λh=>(by cases h),λv h=>by cases h;exact⟨0,b,rfl,rfl,rfl⟩⟩
  |false=>
   simp only[UQ];refine⟨a,λv h=> ?_⟩;obtain⟨i,c,q1,e,f⟩:=d v h;exact⟨i+1,c,by rw[q1];congr 2;omega,e,f⟩
def BI:U Int->Int64×Int
 |none=>(0,9)
 |some s=>bif tD s then(Int64.ofInt s,0)else(0,3)
def afm(l:bD)(env:I aJ):dB l env=bif !jR l then(0,1)else BI (sE env l.xL l.xK.toInt):=by
 unfold dB BI;cases sE env l.xL l.xK.toInt<;>rfl
def afQ(a b:Int64):(a.toInt*b.toInt).natAbs<=85070591730234615865843651857942052864:=by
 have c:=lR a;have d:=lR b;rw[Int.natAbs_mul];exact Nat.mul_le_mul (show a.toInt.natAbs<=9223372036854775808 by omega) (show b.toInt.natAbs<=9223372036854775808 by omega)
def af8(N:Nat)(env:I aJ):∀(l:I dZ)(k:Nat)(w:kS)(s:Int),U3 w->(∃k:Int,wv w=s+k*lD)->s.natAbs+l.length*85070591730234615865843651857942052864<=1569275433846670190958947355801916604025588861116008628224->
 IF N env l k w.pj w.mm w.lJ=some (BI (sE env l s))
 |[],k,w,s,a,c,d=>by
  unfold IF sE BI;rw[show(⟨w.pj,w.mm,w.lJ⟩:kS)=w from rfl];simp only[Zc,Nat.zero_mul,Nat.add_zero]at d;rw[an9 N w a (by omega) (by omega) c,re];simp only;cases tD s<;>rfl
 |m::r,k,w,s,a,c,d=>by
  unfold IF sE;simp only;rw[show QM N env m=BG N m env 0 from rfl];obtain⟨h,j⟩:=afR N m env 0;cases g:nb env m.aC with
  |none=>rw[h g];rfl
  |some v=>
   obtain⟨i,b,q1,n,o⟩:=j v g;rw[q1,re,ZJ,Zx (by omega),UQ,dO (by omega),V1,ZB,n,re,TZ,re,TZ,re];have B:=lR m.eQ;have C:=lR b.dQ;rw[aoD N _ _ (by omega) (by omega),re];subst o;have E:=afQ m.eQ b.dQ;have q:=afe m.eQ.toInt b.dQ.toInt;have F:0<=(m.eQ.toInt.natAbs:Int)*b.dQ.toInt.natAbs:=Int.mul_nonneg (by omega) (by omega);have G:(m.eQ.toInt.natAbs:Int)*b.dQ.toInt.natAbs<=85070591730234615865843651857942052864:=by
    rw[<-Int.natCast_mul,<-Int.natAbs_mul];omega
   generalize (m.eQ.toInt.natAbs:Int)*b.dQ.toInt.natAbs=p at*;obtain⟨t,u,x,y,e⟩:=afY N w a (hi:=p / 18446744073709551616) (lo:=p%18446744073709551616) (by omega) (by omega) (by omega) (by omega) (!((decide (m.eQ.toInt<0))==(decide (b.dQ.toInt<0))));rw[show(⟨w.pj,w.mm,w.lJ⟩:kS)=w from rfl,u,re];simp only;have f:p%18446744073709551616+p / 18446744073709551616*18446744073709551616=p:=by omega
   rw[f]at e;have z:(bif (!((decide (m.eQ.toInt<0))==(decide (b.dQ.toInt<0))))then-p else p)=m.eQ.toInt*b.dQ.toInt:=by
     rw[q];cases (decide (m.eQ.toInt<0)==decide (b.dQ.toInt<0))with
     |true=>simp
     |false=>simp
   rw[z]at e;obtain⟨A,c⟩:=c;refine af8 N env r (k+1) t (s+m.eQ.toInt*b.dQ.toInt) x ⟨A+y,by rw[e,c];unfold lD;omega⟩ ?_;rw[Zi]at d;have:(s+m.eQ.toInt*b.dQ.toInt).natAbs<=s.natAbs+(m.eQ.toInt*b.dQ.toInt).natAbs:=Int.natAbs_add_le _ _;omega
def I0(N:Nat)(g:2147483648<N)(l:bD)(env:I aJ)(a:l.xL.length<=4611686018427387904):vw N l env=some (dB l env):=by
 unfold vw;rw[afm,Of N (by omega) l (Za a (by decide)),re];cases i:jR l with
 |false=>rfl
 |true=>
  simp only[Wh,UQ];rw[V1,show((0:Int) !=0)=false from rfl,UQ,TZ,re];have j:=lR l.xK;obtain⟨b,c,d,e,f⟩:=afY N af7 ⟨by decide,by decide,by decide,by decide,by decide,by decide⟩ (hi:=0) (lo:=(l.xK.toInt.natAbs:Int)) (by decide) (by decide) (by omega) (by omega) (decide (l.xK.toInt<0));rw[c,re];refine af8 N env l.xL 0 b l.xK.toInt d ⟨e,?_⟩ (by omega);rw[f];by_cases h:l.xK.toInt<0;{rw[dO h,V1];show(0:Int)+0*_+0*_+_+_=_;omega};{rw[Zx h,UQ];show(0:Int)+0*_+0*_+_+_=_;omega}
def dv(w:cE):Int:=w.cJ+w.cY*4294967296+w.dp*18446744073709551616+w.di*79228162514264337593543950336+w.dd*340282366920938463463374607431768211456+w.c6*1461501637330902918203684832716283019655932542976
structure D6(w:cE):Prop where
 a0:0<=w.cJ
 b0:w.cJ<4294967296
 a1:0<=w.cY
 b1:w.cY<4294967296
 a2:0<=w.dp
 b2:w.dp<4294967296
 a3:0<=w.di
 b3:w.di<4294967296
 a4:0<=w.dd
 b4:w.dd<4294967296
 a5:0<=w.c6
 b5:w.c6<4294967296
def nP{d n c:Int}(h:0<=d)(l:d<4294967296)(f:0<=n)(o:n<18446744073709551616)(q:0<=c)(r:c<=1):∃s a b e:Int,u64.wrap (u64.wrap (d+n.tmod 4294967296)+c)=s/\u64.wrap (s.tdiv 4294967296)=a/\u64.wrap (n.tdiv 4294967296)=b/\s.tmod 4294967296=e/\
 0<=a/\a<=1/\0<=e/\e<4294967296/\0<=b/\b*4294967296<=n/\e+4294967296*(a+b)=d+n+c:=by
 have i:n.tmod 4294967296=n%4294967296:=Int.tmod_eq_emod_of_nonneg f;have j:n.tdiv 4294967296=n / 4294967296:=a7 f;have k:u64.wrap (u64.wrap (d+n.tmod 4294967296)+c)=d+n%4294967296+c:=by
  rw[i,aq,aq];omega
 have g:0<=d+n%4294967296+c:=by omega
 refine⟨d+n%4294967296+c,(d+n%4294967296+c)/ 4294967296,n / 4294967296,(d+n%4294967296+c)%4294967296,k,?_,?_,Int.tmod_eq_emod_of_nonneg g,?_⟩;{rw[a7 g,aq];omega};{rw[j,aq];omega};{refine⟨?_,?_,?_,?_,?_,?_,?_⟩<;>omega}
def arE(N:Nat)(w:cE)(W:D6 w){n:Int}(b:0<=n)(d:n<18446744073709551616)(a:dv w+n<lD):∃r,G4 N w n=some r/\D6 r/\dv r=dv w+n:=by
 obtain⟨s0,c0,n0,e,f,g,h,i,j,k,l,o,q,t,u⟩:=nP W.a0 W.b0 b d (c:=0) (by decide) (by decide);obtain⟨s1,c1,n1,v,q1,x,y,z,A,B,C,E,F,G,H⟩:=nP W.a1 W.b1 q (by omega) j k;obtain⟨s2,c2,n2,J,K,L,M,P,Q,R,S,T,r9,r10,r11⟩:=nP W.a2 W.b2 F (by omega) A B;obtain⟨s3,c3,n3,e3,t1,t2,t3,t4,t5,t6,t7,t8,t9,t10,t11⟩:=nP W.a3 W.b3 r9 (by omega) Q R;obtain⟨s4,c4,n4,e4,u1,u2,u3,u4,u5,u6,u7,u8,u9,u10,u11⟩:=nP W.a4 W.b4 t9 (by omega) t5 t6;obtain⟨s5,c5,n5,e5,v1,v2,v3,v4,v5,v6,v7,v8,v9,v10,v11⟩:=nP W.a5 W.b5 u9 (by omega) u5 u6;refine⟨⟨e,v,J,e3,e4,e5⟩,?_,⟨l,o,C,E,S,T,t7,t8,u7,u8,v7,v8⟩,?_⟩;{unfold G4;simp only[re];simp only[f,g,h,i,q1,x,y,z,K,L,M,P,t1,t2,t3,t4,u1,u2,u3,u4,v1,v2,v3,v4]}
 ·unfold dv at a ⊢;unfold lD at a;simp only;have:c5+n5=0:=by omega
  omega
def aba(N:Nat)(w:cE)(W:D6 w){n:Int}(b:0<=n)(d:n<18446744073709551616)(a:dv w+n*4294967296<lD):∃r,DK N w n=some r/\D6 r/\dv r=dv w+n*4294967296:=by
 obtain⟨s1,c1,n1,e,q1,f,g,h,i,j,k,l,o,q,t⟩:=nP W.a1 W.b1 b d (c:=0) (by decide) (by decide);obtain⟨s2,c2,n2,u,v,x,y,z,A,B,C,E,F,G,H⟩:=nP W.a2 W.b2 o (by omega) i j;obtain⟨s3,c3,n3,J,K,L,M,P,Q,R,S,T,t9,t10,t11⟩:=nP W.a3 W.b3 F (by omega) A B;obtain⟨s4,c4,n4,e4,u1,u2,u3,u4,u5,u6,u7,u8,u9,u10,u11⟩:=nP W.a4 W.b4 t9 (by omega) Q R;obtain⟨s5,c5,n5,e5,v1,v2,v3,v4,v5,v6,v7,v8,v9,v10,v11⟩:=nP W.a5 W.b5 u9 (by omega) u5 u6;refine⟨⟨w.cJ,e,u,J,e4,e5⟩,?_,⟨W.a0,W.b0,k,l,C,E,S,T,u7,u8,v7,v8⟩,?_⟩;{unfold DK;simp only[re];simp only[q1,f,g,h,v,x,y,z,K,L,M,P,u1,u2,u3,u4,v1,v2,v3,v4]}
 ·have:=W.a0;unfold dv at a ⊢;unfold lD at a;simp only;have:c5+n5=0:=by omega
  omega
def akM(N:Nat)(w:cE)(W:D6 w){n:Int}(b:0<=n)(d:n<18446744073709551616)(a:dv w+n*18446744073709551616<lD):∃r,Gy N w n=some r/\D6 r/\dv r=dv w+n*18446744073709551616:=by
 obtain⟨s2,c2,n2,e,f,g,h,i,j,k,l,o,q,t,u⟩:=nP W.a2 W.b2 b d (c:=0) (by decide) (by decide);obtain⟨s3,c3,n3,v,x,y,z,A,B,C,E,F,G,H,J⟩:=nP W.a3 W.b3 q (by omega) j k;obtain⟨s4,c4,n4,K,L,M,P,Q,R,S,T,u8,u9,u10,u11⟩:=nP W.a4 W.b4 G (by omega) B C;obtain⟨s5,c5,n5,e5,v1,v2,v3,v4,v5,v6,v7,v8,v9,v10,v11⟩:=nP W.a5 W.b5 u9 (by omega) R S;refine⟨⟨w.cJ,w.cY,e,v,K,e5⟩,?_,⟨W.a0,W.b0,W.a1,W.b1,l,o,E,F,T,u8,v7,v8⟩,?_⟩;{unfold Gy;simp only[re];simp only[f,g,h,i,x,y,z,A,L,M,P,Q,v1,v2,v3,v4]}
 ·have:=W.a0;have:=W.a1;unfold dv at a ⊢;unfold lD at a;simp only;have:c5+n5=0:=by omega
  omega
def TD(N:Nat)(w:cE)(W:D6 w){a b:Int}(i:0<=a)(ha:a<18446744073709551616)(j:0<=b)(hb:b<18446744073709551616)(F:dv w+a*b<lD):∃r,zq N w a b=some r/\D6 r/\dv r=dv w+a*b:=by
 have c:a.tmod 4294967296=a%4294967296:=Int.tmod_eq_emod_of_nonneg i;have k:u64.wrap (a.tdiv 4294967296)=a / 4294967296:=by rw[a7 i,aq];omega
 have d:b.tmod 4294967296=b%4294967296:=Int.tmod_eq_emod_of_nonneg j;have l:u64.wrap (b.tdiv 4294967296)=b / 4294967296:=by rw[a7 j,aq];omega
 have e:a*b=(a%4294967296)*(b%4294967296)+(a%4294967296)*(b / 4294967296)*4294967296+(a / 4294967296)*(b%4294967296)*4294967296+(a / 4294967296)*(b / 4294967296)*18446744073709551616:=by
  have f:a=a%4294967296+4294967296*(a / 4294967296):=by omega
  have h:b=b%4294967296+4294967296*(b / 4294967296):=by omega
  generalize a%4294967296=x at*;generalize a / 4294967296=y at*;generalize b%4294967296=z at*;generalize b / 4294967296=u at*;subst f;subst h;rw[Int.add_mul,Int.mul_add,Int.mul_add,show x*(4294967296*u)=x*u*4294967296 by rw[Int.mul_left_comm,Int.mul_comm],show 4294967296*y*z=y*z*4294967296 by rw[ab,Int.mul_comm],show 4294967296*y*(4294967296*u)=y*u*18446744073709551616 by rw[ab,Int.mul_left_comm y 4294967296 u];omega];omega
 unfold zq;rw[c,k,d,l];have g:∀x y:Int,0<=x->x<4294967296->0<=y->y<4294967296->0<=x*y/\x*y<18446744073709551616:=λx y f h n h4=>by
  refine⟨Int.mul_nonneg f n,?_⟩;have:x*y<=4294967295*4294967295:=ah (by omega) (by omega) n (by decide);omega
 obtain⟨o,q⟩:=g (a%4294967296) (b%4294967296) (by omega) (by omega) (by omega) (by omega);obtain⟨t,v⟩:=g (a%4294967296) (b / 4294967296) (by omega) (by omega) (by omega) (by omega);obtain⟨A,B⟩:=g (a / 4294967296) (b%4294967296) (by omega) (by omega) (by omega) (by omega);obtain⟨C,E⟩:=g (a / 4294967296) (b / 4294967296) (by omega) (by omega) (by omega) (by omega);have wr:∀z:Int,0<=z->z<18446744073709551616->u64.wrap z=z:=λz f h=>by rw[aq];omega
 rw[wr _ o q,wr _ t v,wr _ A B,wr _ C E];generalize (a%4294967296)*(b%4294967296)=P at*;generalize (a%4294967296)*(b / 4294967296)=Q at*;generalize (a / 4294967296)*(b%4294967296)=R at*;generalize (a / 4294967296)*(b / 4294967296)=T at*;rw[e]at F ⊢;clear e c k d l;obtain⟨G,H,J,y1⟩:=arE N w W o q (by omega);rw[H,re];obtain⟨K,L,M,y2⟩:=aba N G J t v (by omega);rw[L,re];obtain⟨S,x3,W3,y3⟩:=aba N K M A B (by omega);rw[x3,re];obtain⟨w4,x4,W4,y4⟩:=akM N S W3 C E (by omega);rw[x4,re];exact⟨w4,rfl,W4,by omega⟩
def aoj(N:Nat)(a b:cE)(A:D6 a)(B:D6 b):Gn N a b=some (decide (dv a<dv b)):=by
 obtain⟨l,n,o,r,t,u,v,w,z,C,E,F⟩:=A;obtain⟨G,H,J,K,L,M,P,Q,R,S,T,W⟩:=B;unfold Gn dv;have c:∀{x y:Int}{p q:U Bool},x≠y->(bif (x !=y)then p else q)=p:=λh=>by rw[Vr.2 h,V1]
 have d:∀{x y:Int}{p q:U Bool},x=y->(bif (x !=y)then p else q)=q:=λh=>by subst h;simp
 by_cases e:a.c6=b.c6
 ·rw[d e];by_cases f:a.dd=b.dd
  ·rw[d f];by_cases g:a.di=b.di
   ·rw[d g];by_cases i:a.dp=b.dp
    ·rw[d i];by_cases j:a.cY=b.cY
     ·rw[d j];by_cases k:a.cJ=b.cJ
      ·rw[d k];congr 1;symm;exact Zx (by omega)
      ·rw[c k];congr 1;exact decide_eq_decide.2 (by omega)
     ·rw[c j];congr 1;exact decide_eq_decide.2 (by omega)
    ·rw[c i];congr 1;exact decide_eq_decide.2 (by omega)
   ·rw[c g];congr 1;exact decide_eq_decide.2 (by omega)
  ·rw[c f];congr 1;exact decide_eq_decide.2 (by omega)
 ·rw[c e];congr 1;exact decide_eq_decide.2 (by omega)
def A7{x y c:Int}(b:0<=x)(g:x<4294967296)(i:0<=y)(j:y<4294967296)(k:0<=c)(l:c<=1):∃c' t e:Int,(c'=0\/c'=1)/\(decide (x<u64.wrap (y+c))=true->c'=1/\t=u64.wrap (x+4294967296))/\(decide (x<u64.wrap (y+c))=false->c'=0/\t=x)/\
 u64.wrap (t-u64.wrap (y+c))=e/\0<=e/\e<4294967296/\e=x-y-c+4294967296*c':=by
 have d:u64.wrap (y+c)=y+c:=by rw[aq];omega
 have f:u64.wrap (x+4294967296)=x+4294967296:=by rw[aq];omega
 rw[d,f];by_cases h:x<y+c
 ·refine⟨1,x+4294967296,x+4294967296-(y+c),.inr rfl,λ_=>⟨rfl,rfl⟩,λa=> ?_,?_,by omega,by omega,by omega⟩
  ·rw[dO h]at a;cases a
  ·rw[aq];omega
 ·refine⟨0,x,x-(y+c),.inl rfl,λa=> ?_,λ_=>⟨rfl,rfl⟩,?_,by omega,by omega,by omega⟩
  ·rw[Zx h]at a;cases a
  ·rw[aq];omega
def Br{α:Type}{b:Bool}{a t:Int}{p:Int}{x:Int}{F:Int->Int->α}(h1:b=true->a=1/\t=p)(c:b=false->a=0/\t=x):(bif b then F 1 p else F 0 x)=F a t:=by
 cases b with
 |true=>obtain⟨rfl,rfl⟩:=h1 rfl;rfl
 |false=>obtain⟨rfl,rfl⟩:=c rfl;rfl
def afp(N:Nat)(a b:cE)(A:D6 a)(B:D6 b)(h:dv b<=dv a):∃r,BF N a b=some r/\D6 r/\dv r=dv a-dv b:=by
 obtain⟨d,t0,n,p1,o,q,t,u,v,p7⟩:=A7 A.a0 A.b0 B.a0 B.b0 (c:=0) (by decide) (by decide);obtain⟨e,f,w,q1,z,C,E,G,H,q7⟩:=A7 A.a1 A.b1 B.a1 B.b1 (c:=d) (by omega) (by omega);obtain⟨g,i,J,r1,K,L,M,P,Q,r7⟩:=A7 A.a2 A.b2 B.a2 B.b2 (c:=e) (by omega) (by omega);obtain⟨j,k,R,s1,S,T,W,s5,s6,s7⟩:=A7 A.a3 A.b3 B.a3 B.b3 (c:=g) (by omega) (by omega);obtain⟨l,t4,e4,u1,u2,u3,u4,u5,u6,u7⟩:=A7 A.a4 A.b4 B.a4 B.b4 (c:=j) (by omega) (by omega);obtain⟨c5,t5,e5,v1,v2,v3,v4,v5,v6,v7⟩:=A7 A.a5 A.b5 B.a5 B.b5 (c:=l) (by omega) (by omega);refine⟨⟨n,w,J,R,e4,e5⟩,?_,⟨u,v,G,H,P,Q,s5,s6,u5,u6,v5,v6⟩,?_⟩;{unfold BF;rw[Br (F:=λx y=>CT N a b x y) o q];unfold CT;rw[Br (F:=λx y=>Cg N a b t0 d x y) z C];unfold Cg;rw[Br (F:=λx y=>B6 N a b t0 f d e x y) K L];unfold B6;rw[Br (F:=λx y=>BM N a b t0 f d i e g x y) S T];unfold BM;rw[Br (F:=λx y=>Bi N a b t0 f d i e k g j x y) u2 u3];unfold Bi;rw[Br (F:=λx y=>AN N t0 b f d i e k g t4 j l x y) v2 v3];unfold AN;rw[t,E,M,W,u4,v4]}
 ·unfold dv at h ⊢;simp only;obtain⟨z0,z1,z2,z3,z4,z5,z6,z7,z8,z9,za,zb⟩:=A;obtain⟨y0,y1,y2,y3,y4,y5,y6,y7,y8,y9,ya,yb⟩:=B;have:c5=0:=by omega
  omega
def agf(N:Nat)(s:so):∀(env:I aJ)(k:Nat),FN N s env k=some (match nb env s with|none=>(0,false)|some v=>(v,true))
 |[],k=>rfl
 |b::r,k=>by
  unfold FN nb;cases a:(bL b.aC==bL s)with
  |true=>rfl
  |false=>exact agf N s r (k+1)
def By(N:Nat)(v:Int64):tE N v=some ((v.toInt.natAbs:Nat):Int):=by
 have a:=lR v;unfold tE;by_cases h:v.toInt<0
 ·rw[dO h,V1];have e:(-(v+(1:Int64))).toInt= -(v.toInt+1):=by
    rw[Int64.toInt_neg,Int64.toInt_add,show(1:Int64).toInt=1 from rfl,Int.bmod_eq_of_le (n:=v.toInt+1) (m:=2^64) (by omega) (by omega),Int.bmod_eq_of_le (n:= -(v.toInt+1)) (m:=2^64) (by omega) (by omega)]
  rw[e,aq,aq];exact congrArg some (by omega)
 ·rw[Zx h,UQ,aq];exact congrArg some (by omega)
def ae0(w:cE)(W:D6 w)(a:Int)(h1:0<=a)(i:a<=9223372036854775808):(bif (w.dp !=0)then some true else(bif (w.di !=0)then some true else(bif (w.dd !=0)then some true else(bif (w.c6 !=0)then some true else some (decide ((u64.wrap (w.cJ+(u64.wrap (w.cY*(4294967296:Int)))))>a))))))=some (decide (dv w>a)):=by
 obtain⟨j,k,l,n,o,r,t,u,v,y,z,A⟩:=W;have b:∀{x:Int}{q:U Bool},x≠0->(bif (x !=0)then some true else q)=some true:=λh=>by rw[Vr.2 h,V1]
 have c:∀{x:Int}{q:U Bool},x=0->(bif (x !=0)then some true else q)=q:=λh=>by subst h;rfl
 unfold dv;by_cases d:w.dp=0
 ·rw[c d];by_cases e:w.di=0
  ·rw[c e];by_cases f:w.dd=0
   ·rw[c f];by_cases g:w.c6=0
    ·rw[c g,aq,aq]
     congr 1
     exact decide_eq_decide.2 (by omega)
    ·rw[b g];congr 1;symm;exact dO (by omega)
   ·rw[b f];congr 1;symm;exact dO (by omega)
  ·rw[b e];congr 1;symm;exact dO (by omega)
 ·rw[b d];congr 1;symm;exact dO (by omega)
def acV(w:cE)(W:D6 w)(h:dv w<=9223372036854775808):u64.wrap (w.cJ+(u64.wrap (w.cY*(4294967296:Int))))=dv w:=by
 obtain⟨a,b,c,d,e,f,g,i,j,k,l,n⟩:=W;unfold dv at h ⊢;rw[aq,aq];omega
def arB{n:Int}(a:1<=n)(h1:n<=9223372036854775808):((-(Int64.ofInt (u64.wrap (n-(1:Int)))))-(1:Int64))=Int64.ofInt (-n):=by
 rw[show u64.wrap (n-1)=n-1 by rw[aq];omega];apply Int64.toInt_inj.1;rw[Int64.toInt_sub,Int64.toInt_neg,show(1:Int64).toInt=1 from rfl,Int64.toInt_ofInt_of_le (by omega) (by omega),Int64.toInt_ofInt_of_le (by omega) (by omega),Int.bmod_eq_of_le (n:= -(n-1)) (m:=2^64) (by omega) (by omega),Int.bmod_eq_of_le (n:= -(n-1)-1) (m:=2^64) (by omega) (by omega)];omega
def PJ(N:Nat)(env:I aJ):∀(l:I dZ)(k:Nat)(p q:cE)(s:Int),D6 p->D6 q->dv p-dv q=s->dv p+dv q+(l.length:Int)*85070591730234615865843651857942052864<=1569275433846670190958947355801916604025588861116008628224->
 uR N env l k p.cJ p.cY p.dp p.di p.dd p.c6 q.cJ q.cY q.dp q.di q.dd q.c6=some (BI (sE env l s))
 |[],k,p,q,s,P,Q,o,g=>by
  unfold uR sE BI;rw[show(⟨p.cJ,p.cY,p.dp,p.di,p.dd,p.c6⟩:cE)=p from rfl,show(⟨q.cJ,q.cY,q.dp,q.di,q.dd,q.c6⟩:cE)=q from rfl,aoj N p q P Q,re];by_cases h:dv p<dv q
  ·rw[dO h,V1];obtain⟨r,c,R,d⟩:=afp N q p Q P (by omega);rw[c,re,ae0 r R _ (by decide) (by decide),re];by_cases e:dv r>9223372036854775808
   ·rw[dO e,V1];simp only;rw[show tD s=false by rw[<-VC,qK];omega,UQ]
   ·rw[Zx e,UQ,acV r R (by omega),arB (by omega) (by omega)];simp only;rw[(qK (n:=s)).2 (by omega),V1,show-dv r=s by omega]
  ·rw[Zx h,UQ];obtain⟨r,c,R,d⟩:=afp N p q P Q (by omega);rw[c,re,ae0 r R _ (by decide) (by decide),re];by_cases e:dv r>9223372036854775807
   ·rw[dO e,V1];simp only;rw[show tD s=false by rw[<-VC,qK];omega,UQ]
   ·rw[Zx e,UQ,acV r R (by omega)];simp only;have:0<=dv r:=by omega
    rw[(qK (n:=s)).2 (by omega),V1,show dv r=s by omega]
 |m::r,k,p,q,s,P,Q,o,g=>by
  unfold uR sE;simp only;rw[show QO N env m.aC=FN N m.aC env 0 from rfl,agf,re];cases K:nb env m.aC with
  |none=>rfl
  |some v=>
   simp only[V1];have L:=lR m.eQ;have M:=lR v;have f:=afe v.toInt m.eQ.toInt;have S:=afQ v m.eQ;have T:0<=(v.toInt.natAbs:Int)*m.eQ.toInt.natAbs:=Int.mul_nonneg (by omega) (by omega);have hp:(v.toInt.natAbs:Int)*m.eQ.toInt.natAbs<=85070591730234615865843651857942052864:=by
    rw[<-Int.natCast_mul,<-Int.natAbs_mul];omega
   have i:v.toInt*m.eQ.toInt=m.eQ.toInt*v.toInt:=Int.mul_comm _ _;rw[Zi]at g;have hP:0<=dv p:=by obtain⟨t,u,x,y,A,B,C,E,F,G,H,J⟩:=P;unfold dv;omega
   have hQ:0<=dv q:=by obtain⟨t,u,x,y,A,B,C,E,F,G,H,J⟩:=Q;unfold dv;omega
   rw[show(⟨p.cJ,p.cY,p.dp,p.di,p.dd,p.c6⟩:cE)=p from rfl,show(⟨q.cJ,q.cY,q.dp,q.di,q.dd,q.c6⟩:cE)=q from rfl];cases j:(decide (v.toInt<0)==decide (m.eQ.toInt<0))with
   |true=>
    rw[V1,By,re,By,re];rw[j,ZL rfl]at f;obtain⟨w,c,W,d⟩:=TD N p P (a:=(v.toInt.natAbs:Int)) (b:=(m.eQ.toInt.natAbs:Int)) (by omega) (by omega) (by omega) (by omega) (by
      unfold lD;generalize (v.toInt.natAbs:Int)*m.eQ.toInt.natAbs=z at*;have:0<=(r.length:Int)*85070591730234615865843651857942052864:=by omega
      omega)
    rw[c,re];refine PJ N env r (k+1) w q (s+m.eQ.toInt*v.toInt) W Q ?_ ?_;{rw[d,f,i];omega};{rw[d];generalize (v.toInt.natAbs:Int)*m.eQ.toInt.natAbs=z at*;omega}
   |false=>
    rw[UQ,By,re,By,re];rw[j,ZN (by decide)]at f;obtain⟨w,c,W,d⟩:=TD N q Q (a:=(v.toInt.natAbs:Int)) (b:=(m.eQ.toInt.natAbs:Int)) (by omega) (by omega) (by omega) (by omega) (by
      unfold lD;generalize (v.toInt.natAbs:Int)*m.eQ.toInt.natAbs=z at*;have:0<=(r.length:Int)*85070591730234615865843651857942052864:=by omega
      omega)
    rw[c,re];refine PJ N env r (k+1) p w (s+m.eQ.toInt*v.toInt) P W ?_ ?_;{rw[d,f,i];omega};{rw[d];generalize (v.toInt.natAbs:Int)*m.eQ.toInt.natAbs=z at*;omega}
def Gu(N:Nat)(i:2147483648<N)(l:bD)(env:I aJ)(f:l.xL.length<=4611686018427387904):tN N l env=some (dB l env):=by
 unfold tN;rw[afm,show Mz N l=some (bif jR l then 0 else 1) by unfold Mz;rw[Io N (by omega) l (Za f (by decide)),re];cases jR l<;>rfl,re];cases j:jR l with
 |false=>rfl
 |true=>
  simp only[Wh,UQ];rw[V1,show((0:Int) !=0)=false from rfl,UQ];have k:=lR l.xK;have c:D6 yR:=⟨by decide,by decide,by decide,by decide,by decide,by decide,by decide,by decide,by decide,by decide,by decide,by decide⟩;have d:dv yR=0:=by decide
  obtain⟨w,e,W,g⟩:=TD N yR c (a:=(l.xK.toInt.natAbs:Int)) (b:=1) (by omega) (by omega) (by decide) (by decide) (by rw[d];unfold lD;omega);rw[d]at g;by_cases h:l.xK.toInt<0;{rw[dO h,V1,By,re,e,re];exact PJ N env l.xL 0 yR w l.xK.toInt c W (by rw[d];omega) (by rw[d];omega)};{rw[Zx h,UQ,By,re,e,re];exact PJ N env l.xL 0 w yR l.xK.toInt W c (by rw[d];omega) (by rw[d];omega)}
def qo(a:Bool)(h n:Int):Int:=bif a then(n+h)%(2*h)-h else max (-h) (min (h-1) n)
def aoJ(P:Int->Prop)(h:∀k:Fin 30,P (2^(k.val+1))){b:Int}(h1:2<=b)(a:b<=31):P (2^(b-1).toNat):=by
 have:=h ⟨(b-2).toNat,by omega⟩
 rwa [show(b-2).toNat+1=(b-1).toNat by omega]at this
def anw{w:Bool}{h n:Int}(a:0<h)(h1: -h<=n)(b:n<=h-1):qo w h n=n:=by
 unfold qo;cases w;{simp only[UQ];omega};{simp only[V1];rw[Int.emod_eq_of_lt (by omega) (by omega)];omega}
def ak2{w:Bool}{h n:Int}(a:0<h): -h<=qo w h n/\qo w h n<=h-1:=by
 unfold qo;cases w;{simp only[UQ];omega};{simp only[V1];have:=Int.emod_nonneg (n+h) (show 2*h≠0 by omega);have:=Int.emod_lt_of_pos (n+h) (show 0<2*h by omega);omega}
def afJ{h u n:Int}(c:u*(2*h)=18446744073709551616)(a:0<u)(d:0<h):
 (((n*u)%18446744073709551616+9223372036854775808)%18446744073709551616-9223372036854775808)/ u=(n+h)%(2*h)-h:=by
 have b:u*h=9223372036854775808:=by
  have:u*(2*h)=2*(u*h):=by rw[Int.mul_left_comm]
  omega
 rw[Int.emod_add_emod,<-c];have e:n*u+9223372036854775808=u*(n+h):=by rw[Int.mul_add,b,Int.mul_comm]
 rw[e,Int.mul_emod_mul_of_pos _ _ a,<-b,<-Int.mul_sub,Int.mul_ediv_cancel_left _ (by omega)]
def api{n d:Int}(a:0<d):n.tdiv d=if 0<=n then n / d else-((-n)/ d):=by
 split;{exact a7 (by assumption)}
 ·have:n= -(-n):=by omega
  conv=>lhs;rw[this]
  rw[Int.neg_tdiv,a7 (by omega)]
def agQ{m d:Int}(a:0<d)(b:0<m):(-m)/ d=if m%d=0 then-(m / d)else-(m / d)-1:=by
 have c:=Int.mul_ediv_add_emod m d;have e:=Int.emod_nonneg m (show d≠0 by omega);have f:=Int.emod_lt_of_pos m a;split
 ·rename_i h
  exact((Int.ediv_emod_unique a).2 ⟨(by rw[Int.mul_neg];omega:(0:Int)+d*(-(m / d))= -m),by omega,by omega⟩).1
 ·exact((Int.ediv_emod_unique a).2 ⟨(by rw[Int.mul_sub,Int.mul_neg];omega:(d-m%d)+d*(-(m / d)-1)= -m),by omega,by omega⟩).1
def abq{n d:Int}(a:0<d):(bif decide (n.tdiv d*d>n)then n.tdiv d-1 else n.tdiv d)=n / d:=by
 rw[api a];by_cases h:0<=n;{rw[ZL h,Zx (by have:=Int.ediv_mul_le n (show d≠0 by omega);omega)];rfl}
 ·rw[ZN h];obtain⟨m,rfl⟩:∃m,n= -m:=⟨-n,by omega⟩;rw[Int.neg_neg,agQ a (by omega),Int.neg_mul];have b:=Int.mul_ediv_add_emod m d;have c:=Int.emod_nonneg m (show d≠0 by omega);rw[Int.mul_comm]at b;split
  ·rw[Zx (by omega)];rfl
  ·rw[dO (by omega)];rfl
def afU{n d:Int}(a:0<d):(bif decide (n.tmod d<0)then n.tdiv d-1 else n.tdiv d)=n / d:=by
 rw[<-abq a];have h:n.tmod d=n-n.tdiv d*d:=by have:=Int.mul_tdiv_add_tmod n d;rw[Int.mul_comm]at this;omega
 rw[h]
 congr 1
 exact decide_eq_decide.2 (by omega)
def ny(a b:Int):Int:=bif decide (b<0)then(-a)/(-b)else a / b
def ara{a b:Int}(e:b≠0):(bif a.tmod b !=0&&(decide (a<0) !=decide (b<0))then a.tdiv b-1 else a.tdiv b)=ny a b:=by
 have d:∀a b:Int,0<b->(bif a.tmod b !=0&&(decide (a<0) !=false)then a.tdiv b-1 else a.tdiv b)=a / b:=λa b e=>by
  rw[<-afU e]
  congr 1
  have g:0<=a->0<=a.tmod b:=λh=>Int.tmod_nonneg _ h;have i:a<0->a.tmod b<=0:=λh=>by
   have:a= -(-a):=by omega
   rw[this,Int.neg_tmod];have:=Int.tmod_nonneg b (show 0<=-a by omega);omega
  by_cases h:a<0
  ·rw[dO h];have:=i h;by_cases c:a.tmod b=0
   ·rw[c];rfl
   ·rw[dO (by omega),Vr.2 c];rfl
  ·rw[Zx h];have:=g (by omega);rw[Zx (show ¬a.tmod b<0 by omega)];cases (a.tmod b !=0)<;>rfl
 unfold ny;by_cases h:b<0
 ·rw[dO h];simp only[V1];rw[<-d (-a) (-b) (by omega),Int.neg_tmod,Int.tmod_neg,Int.neg_tdiv_neg]
  congr 1
  have j:(-(a.tmod b) !=0)=(a.tmod b !=0):=by
   by_cases c:a.tmod b=0;{rw[c];rfl};{rw[Vr.2 c,Vr.2 (show-(a.tmod b)≠0 by omega)]}
  rw[j];by_cases c:a=0;{subst c;simp}
  ·by_cases f:a<0
   ·rw[dO f,Zx (show ¬-a<0 by omega)];rfl
   ·rw[Zx f,dO (show-a<0 by omega)];rfl
 ·rw[Zx h];simp only[UQ];exact d a b (by omega)
def DV(a b:Nat)(c:Bool)(how:Int):Bool:=(a%b==0||how==3)||((how==1&& !c)||(how==2&&c))||(how==4&&(decide (2*(a%b)<b)||(2*(a%b)==b&&a / b%2==0)))
def nY(a b:Nat)(c:Bool)(how:Int):Nat:=bif DV a b c how then a / b else a / b+1
def kA(n d:Int)(how:Int):Int:=bif n%d==0||how==1 then n / d else bif how==2 then n / d+1 else bif how==3 then(bif decide (n<0)then n / d+1 else n / d)else bif decide (n%d>d-n%d)||(n%d==d-n%d&&n / d%2 !=0)then n / d+1 else n / d
def ata{a b:Nat}(c:0<b)(d:a%b≠0):(-(a:Int))/(b:Int)= -((a / b:Nat):Int)-1/\(-(a:Int))%(b:Int)=(b:Int)-((a%b:Nat):Int):=by
 have e:a%b<b:=Nat.mod_lt _ c;have f:(b:Int)*((a / b:Nat):Int)+((a%b:Nat):Int)=(a:Int):=by rw[<-Int.natCast_mul,<-Int.natCast_add,Nat.div_add_mod]
 refine(Int.ediv_emod_unique (by omega)).2 ⟨?_,by omega,by omega⟩;rw[Int.mul_sub,Int.mul_neg];omega
def agX{a b:Nat}(c:0<b)(d:a%b=0):(-(a:Int))/(b:Int)= -((a / b:Nat):Int)/\(-(a:Int))%(b:Int)=0:=by
 have e:(b:Int)*((a / b:Nat):Int)+((a%b:Nat):Int)=(a:Int):=by rw[<-Int.natCast_mul,<-Int.natCast_add,Nat.div_add_mod]
 refine(Int.ediv_emod_unique (by omega)).2 ⟨?_,by omega,by omega⟩;rw[Int.mul_neg];omega
def amC{a b:Nat}(c:0<b){how:Int}(f:1<=how)(g:how<=4):((nY a b false how:Nat):Int)=kA (a:Int) (b:Int) how:=by
 unfold nY DV kA;have d:(a:Int)%(b:Int)=((a%b:Nat):Int):=(Int.natCast_emod a b).symm;have e:(a:Int)/(b:Int)=((a / b:Nat):Int):=(Int.natCast_ediv a b).symm;rw[d,e];have h:=Nat.mod_lt a c;generalize a%b=r at*;generalize a / b=q at*;rcases (by omega:how=1\/how=2\/how=3\/how=4)with rfl|rfl|rfl|rfl<;>simp only[cond_eq_ite]<;>simp<;>(repeat' split)<;>omega
def aia{a b:Nat}(c:0<b)(g:0<a){how:Int}(h:1<=how)(i:how<=4): -((nY a b true how:Nat):Int)=kA (-(a:Int)) (b:Int) how:=by
 unfold nY DV kA;have j:=Nat.mod_lt a c;by_cases d:a%b=0;{obtain⟨e,f⟩:=agX c d;rw[e,f,d];rfl};{obtain⟨e,f⟩:=ata c d;rw[e,f];generalize a%b=r at*;generalize a / b=q at*;rcases (by omega:how=1\/how=2\/how=3\/how=4)with rfl|rfl|rfl|rfl<;>simp only[cond_eq_ite]<;>simp<;>(repeat' split)<;>omega}
def rm(n d how:Int):Int:=bif decide (d<0)then kA (-n) (-d) how else kA n d how
def asu(d how:Int):kA 0 d how=0:=by unfold kA;simp
def amU{n d:Int}(f:d≠0){how:Int}(b:1<=how)(c:how<=4):
 (bif decide (n<0) !=decide (d<0)then-((nY n.natAbs d.natAbs true how:Nat):Int)else((nY n.natAbs d.natAbs false how:Nat):Int))=rm n d how:=by
 have a:∀n d:Int,0<d->(bif decide (n<0)then-((nY n.natAbs d.natAbs true how:Nat):Int)else((nY n.natAbs d.natAbs false how:Nat):Int))=kA n d how:=λn d f=>by
  by_cases h:n<0;{rw[dO h];simp only[V1];rw[aia (by omega) (by omega) b c,show-((n.natAbs:Nat):Int)=n by omega,show((d.natAbs:Nat):Int)=d by omega]};{rw[Zx h];simp only[UQ];rw[amC (by omega) b c,show((n.natAbs:Nat):Int)=n by omega,show((d.natAbs:Nat):Int)=d by omega]}
 unfold rm;by_cases h:d<0
 ·rw[dO h];simp only[V1];by_cases g:n=0
  ·subst g;rw[show(decide ((0:Int)<0) !=true)=true from rfl,Int.neg_zero,asu];unfold nY DV;simp
  ·rw[<-a (-n) (-d) (by omega),Int.natAbs_neg,Int.natAbs_neg]
   congr 1
   by_cases e:n<0;{rw[dO e,Zx (show ¬-n<0 by omega)];rfl};{rw[Zx e,dO (show-n<0 by omega)];rfl}
 ·rw[Zx h];simp only[UQ];rw[<-a n d (by omega)];cases decide (n<0)<;>rfl
def NO{n d how B:Int}(a:0<d)(b:0<=B)(h1: -B<=n)(c:n<=B): -B<=kA n d how/\kA n d how<=B+1:=by
 have e: -B<=n / d:=by
  refine Int.le_ediv_of_mul_le a ?_;have:B*1<=B*d:=Ym (by omega) b;rw[Int.neg_mul];omega
 have f:n / d<=B:=by
  have:n / d<=n\/n / d<=0:=by
   by_cases h:0<=n;{exact .inl (Int.ediv_le_self _ h)};{exact .inr (Int.le_of_lt (Int.ediv_neg_of_neg_of_pos (by omega) a))}
  omega
 unfold kA;simp only[cond_eq_ite]
 (repeat' split)<;>omega
def aiy{n d q rest:Int}(how:Int)(a:q=n / d)(b:rest=n-q*d):
 (bif rest==0||how==1 then q else bif how==2 then q+1 else bif how==3 then(bif decide (n<0)then q+1 else q)else bif decide (rest>d-rest)||(rest==d-rest&&q.tmod 2 !=0)then q+1 else q)=kA n d how:=by
 subst a;have e:rest=n%d:=by rw[b,Int.emod_def,Int.mul_comm]
 subst e;have c:((n / d).tmod 2 !=0)=(n / d%2 !=0):=by
  by_cases h:n / d%2=0;{rw[h,Int.tmod_eq_zero_of_dvd (Int.dvd_of_emod_eq_zero h)]};{rw[Vr.2 h,Vr.2 λf=>h (Int.emod_eq_zero_of_dvd (Int.dvd_of_tmod_eq_zero f))]}
 rw[c];rfl
def apO{n m:Int}{d e:Nat}(j:0<d)(k:0<e)(h1:Nat.gcd n.natAbs d=1)(g:Nat.gcd m.natAbs e=1)(h:n*(e:Int)=m*(d:Int)):n=m/\d=e:=by
 have f:n.natAbs*e=m.natAbs*d:=by
  have:=congrArg Int.natAbs h
  rwa [Int.natAbs_mul,Int.natAbs_mul,Int.natAbs_natCast,Int.natAbs_natCast]at this
 have a:d∣ e:=by
  have b:d∣ n.natAbs*e:=by rw[f];exact Nat.dvd_mul_left _ _
  exact Nat.Coprime.dvd_of_dvd_mul_left (show Nat.Coprime d n.natAbs by rw[Nat.coprime_comm];exact h1) b
 have c:e∣ d:=by
  have b:e∣ m.natAbs*d:=by rw[<-f];exact Nat.dvd_mul_left _ _
  exact Nat.Coprime.dvd_of_dvd_mul_left (show Nat.Coprime e m.natAbs by rw[Nat.coprime_comm];exact g) b
 have i:d=e:=Nat.dvd_antisymm a c;subst i;refine⟨?_,rfl⟩;exact Int.eq_of_mul_eq_mul_right (by omega) h
def amu{n d:Nat}(a:0<d):Nat.gcd (n / Nat.gcd n d) (d / Nat.gcd n d)=1:=Nat.gcd_div_gcd_div_gcd_of_pos_right a
def cQ(t:aL):Int:=2^(t.bU-1).toNat
def hY(t:aL):Int:=2^t.ck.toNat
def mG(t:aL)(n:Int):aA:=⟨Int64.ofInt (qo (t.cC==2) (cQ t) n),1⟩
def mO(n d:Int):Nat:=Nat.gcd n.natAbs d.natAbs
def ID(n d:Int):Int:=bif decide (n<0) !=decide (d<0)then-((n.natAbs / mO n d:Nat):Int)else((n.natAbs / mO n d:Nat):Int)
def kF(n d:Int):aA×Int:=bif d==0 then(cd,4)else bif decide (2147483647<n.natAbs / mO n d)||decide (2147483647<d.natAbs / mO n d)then(cd,3)else(⟨Int64.ofInt (ID n d),Int64.ofInt ((d.natAbs / mO n d:Nat):Int)⟩,0)
def ub(a b:Int):Int:=bif decide (a<b)then-1 else bif decide (a>b)then 1 else 0
def lf(t:aL)(a b:aA):Int:=bif dA t&&(dE t a&&dE t b)then bif t.bA==1 then ub (a.xN.toInt*b.xD.toInt) (b.xN.toInt*a.xD.toInt)else ub a.xN.toInt b.xN.toInt else 0
def ET(c:Int)(t:aL)(a b:Int):aA×Int:=bif c==4 then(mG t (a+b),0)else bif c==5 then(mG t (a-b),0)else bif c==6 then(mG t (kA (a*b) (hY t) t.cr),0)else bif c==8 then(mG t (-a),0)else bif b==0 then(cd,4)else(mG t (rm (a*hY t) b t.cr),0)
def wH(c a b:Int):aA×Int:=
 bif c==7&&b==0 then(cd,4)
 else
  let n:=bif c==4 then a+b else bif c==5 then a-b else bif c==6 then a*b else bif c==7 then ny a b else-a
  bif decide (-2147483647<=n)&&decide (n<=2147483647)then(⟨Int64.ofInt n,1⟩,0)else(cd,3)
def yJ(c:Int)(a b:aA):aA×Int:=bif c==4 then kF (a.xN.toInt*b.xD.toInt+b.xN.toInt*a.xD.toInt) (a.xD.toInt*b.xD.toInt)else bif c==5 then kF (a.xN.toInt*b.xD.toInt-b.xN.toInt*a.xD.toInt) (a.xD.toInt*b.xD.toInt)else bif c==6 then kF (a.xN.toInt*b.xN.toInt) (a.xD.toInt*b.xD.toInt)else bif c==7 then kF (a.xN.toInt*b.xD.toInt) (a.xD.toInt*b.xN.toInt)else(⟨-a.xN,a.xD⟩,0)
def mn(c:Int)(t:aL)(a b:aA):aA×Int:=bif decide (c<4)||decide (c>10)then(cd,1)else bif !dA t then(cd,10)else bif !dE t a||(!(c==8)&& !dE t b)then(cd,1)else bif c==9 then(bif decide (lf t a b>0)then b else a,0)else bif c==10 then(bif decide (lf t a b<0)then b else a,0)else bif t.bA==2 then ET c t a.xN.toInt b.xN.toInt else bif t.bA==3 then wH c a.xN.toInt b.xN.toInt else yJ c a b
def nq(t:aL)(v:aA):aA:=bif t.bA==2 then(kF v.xN.toInt (hY t)).1 else v
def Ce(from_ Cc:aL)(v:aA):aA×Int:=
 bif !dA from_|| !dA Cc then(cd,10)else bif !dE from_ v then(cd,1)
 else
  let x:=nq from_ v
  bif Cc.bA==3 then(⟨Int64.ofInt (x.xN.toInt / x.xD.toInt),1⟩,0)else bif Cc.bA==2 then(mG Cc (kA (x.xN.toInt*hY Cc) x.xD.toInt Cc.cr),0)else(x,0)
structure tM(t:aL):Prop where
 b1:2<=t.bU
 b2:t.bU<=31
 f1:0<=t.ck
 f2:t.ck<=30
 r1:1<=t.cr
 r2:t.cr<=4
 o:t.cC=1\/t.cC=2
def lU{t:aL}(h:dA t=true)(b:t.bA=2):tM t:=by
 unfold dA at h;rw[b]at h;have a:(decide (2<=t.bU)&&(decide (t.bU<=31)&&(decide (0<=t.ck)&&(decide (t.ck<=30)&&(decide (1<=t.cr)&&(decide (t.cr<=4)&&(t.cC==1||t.cC==2)))))))=true:=h;simp only[Zo,VX,af,Ve]at a;obtain⟨c,d,e,f,g,i,j⟩:=a;exact⟨c,d,e,f,g,i,j⟩
def kinds{t:aL}(h:dA t=true):t.bA=1\/t.bA=2\/t.bA=3:=by
 unfold dA at h;by_cases a:t.bA=1;{exact .inl a}
 ·by_cases b:t.bA=2
  ·exact .inr (.inl b)
  ·by_cases c:t.bA=3
   ·exact .inr (.inr c)
   ·simp [a,b,c]at h
def Nc{t:aL}(f:tM t):2<=cQ t/\cQ t<=1073741824:=
 aoJ (λx=>2<=x/\x<=1073741824) (by decide) f.b1 f.b2
def adh(P:Int->Prop)(h:∀k:Fin 31,P (2^k.val)){b:Int}(h1:0<=b)(a:b<=30):P (2^b.toNat):=
 h ⟨b.toNat,by omega⟩
def GH{t:aL}(f:tM t):1<=hY t/\hY t<=1073741824:=
 adh (λx=>1<=x/\x<=1073741824) (by decide) f.f1 f.f2
structure MA(t:aL)(v:aA):Prop where
 d:v.xD.toInt=1
 n1: -cQ t<=v.xN.toInt
 n2:v.xN.toInt<=cQ t-1
def mT{t:aL}{v:aA}(h:dE t v=true)(b:t.bA=2):MA t v:=by
 unfold dE at h;rw[b]at h;have a:(v.xD.toInt==1&&(decide (-(2^(t.bU-1).toNat)<=v.xN.toInt)&&decide (v.xN.toInt<2^(t.bU-1).toNat)))=true:=h;simp only[Zo,VX,Ve]at a;obtain⟨c,d,e⟩:=a;exact⟨c,d,by unfold cQ;omega⟩
structure im(v:aA):Prop where
 n1: -2147483647<=v.xN.toInt
 n2:v.xN.toInt<=2147483647
 d1:1<=v.xD.toInt
 d2:v.xD.toInt<=2147483647
 g:Nat.gcd v.xN.toInt.natAbs v.xD.toInt.toNat=1
def qH{t:aL}{v:aA}(h:dE t v=true)(c:t.bA≠2):im v:=by
 unfold dE at h;rw[WK c]at h;simp only[UQ,Zo,VX]at h;obtain⟨d,e,f,g,a⟩:=h;refine⟨e,d,f,g,?_⟩;cases b:t.bA==3 with
 |true=>
  rw[b]at a;have i:v.xD.toInt=1:=by simpa using a
  rw[i];exact Nat.gcd_one_right _
 |false=>rw[b]at a;simpa using a
def FO{t:aL}{v:aA}(h:dE t v=true)(b:t.bA=3):v.xD.toInt=1:=by
 unfold dE at h;rw[b]at h;have a:(decide (v.xN.toInt<=2147483647)&&(decide (-2147483647<=v.xN.toInt)&&(decide (1<=v.xD.toInt)&&(decide (v.xD.toInt<=2147483647)&&(v.xD.toInt==1)))))=true:=h;simp only[Zo,Ve]at a;exact a.2.2.2.2
def kh{n:Int}(h1: -9223372036854775808<=n)(a:n<=9223372036854775807):(Int64.ofInt n).toInt=n:=Int64.toInt_ofInt_of_le (by omega) (by omega)
structure aql(n d:Int)(v:aA):Prop where
 n1: -2147483647<=v.xN.toInt
 n2:v.xN.toInt<=2147483647
 d1:1<=v.xD.toInt
 d2:v.xD.toInt<=2147483647
 g:Nat.gcd v.xN.toInt.natAbs v.xD.toInt.toNat=1
 en:v.xN.toInt=ID n d
 ed:v.xD.toInt=((d.natAbs / mO n d:Nat):Int)
def apN{n d:Int}{v:aA}(h:kF n d=(v,0)):aql n d v:=by
 unfold kF at h;by_cases e:d=0;{subst e;cases h}
 ·rw[WK e]at h;simp only[UQ]at h;cases c:(decide (2147483647<n.natAbs / mO n d)||decide (2147483647<d.natAbs / mO n d))with
  |true=>rw[c]at h;cases h
  |false=>
   rw[c]at h;cases h
   rw[Yf,VT,VT]at c;have f:0<mO n d:=Nat.gcd_pos_of_pos_right _ (by omega);have i:0<d.natAbs / mO n d:=Nat.div_pos (Nat.le_of_dvd (by omega) (Nat.gcd_dvd_right _ _)) f;have g:(ID n d).natAbs=n.natAbs / mO n d:=by
     unfold ID;cases (decide (n<0) !=decide (d<0));{exact Int.natAbs_natCast _};{exact(Int.natAbs_neg _).trans (Int.natAbs_natCast _)}
   have a:=kh (n:=ID n d) (by omega) (by omega);have b:=kh (n:=((d.natAbs / mO n d:Nat):Int)) (by omega) (by omega);refine⟨?_,?_,?_,?_,?_,a,b⟩;{show _<=(Int64.ofInt _).toInt;rw[a];omega};{show(Int64.ofInt _).toInt<=_;rw[a];omega};{show _<=(Int64.ofInt _).toInt;rw[b];omega};{show(Int64.ofInt _).toInt<=_;rw[b];omega};{show Nat.gcd (Int64.ofInt _).toInt.natAbs (Int64.ofInt _).toInt.toNat=1;rw[a,b,g,ZB];exact amu (by omega)}
def as3{n S:Int}(h1: -1073741824<=n)(a:n<=1073741824)(b:1<=S)(c:S<=1073741824):∃v,kF n S=(v,0):=by
 unfold kF;rw[WK (show S≠0 by omega)];have d:n.natAbs / mO n S<=n.natAbs:=Nat.div_le_self _ _;have e:S.natAbs / mO n S<=S.natAbs:=Nat.div_le_self _ _;rw[Zx (show ¬2147483647<n.natAbs / mO n S by omega),Zx (show ¬2147483647<S.natAbs / mO n S by omega)];exact⟨_,rfl⟩
def Fy{a b:aA}(h1:a.xN.toInt=b.xN.toInt)(c:a.xD.toInt=b.xD.toInt):a=b:=by
 cases a;cases b
 congr 1;{exact Int64.toInt_inj.1 h1};{exact Int64.toInt_inj.1 c}
def Qq{a b:Int}:ub a b=0↔a=b:=by
 unfold ub;simp only[cond_eq_ite,VX]
 (repeat' split)<;>omega
def apS{t:aL}{a b:aA}(k:dA t=true)(i:dE t a=true)(j:dE t b=true)(h:lf t a b=0):a=b:=by
 unfold lf at h;rw[k,i,j]at h;simp only[Bool.and_self,V1]at h;rcases kinds k with c|c|c
 ·rw[c]at h;have f:=Qq.1 h;have A:=qH i (by omega);have B:=qH j (by omega);have e:=apO (n:=a.xN.toInt) (m:=b.xN.toInt) (d:=a.xD.toInt.toNat) (e:=b.xD.toInt.toNat) (by have:=A.d1;omega) (by have:=B.d1;omega) A.g B.g (by
    rw[show((b.xD.toInt.toNat:Nat):Int)=b.xD.toInt by have:=B.d1;omega,show((a.xD.toInt.toNat:Nat):Int)=a.xD.toInt by have:=A.d1;omega];exact f)
  exact Fy e.1 (by have:=A.d1;have:=B.d1;omega)
 ·rw[c]at h;have f:=Qq.1 h;exact Fy f (by rw[(mT i c).d,(mT j c).d])
 ·rw[c]at h;have f:=Qq.1 h;exact Fy f (by rw[FO i c,FO j c])
def afH{t:aL}{v:aA}(c:dA t=true)(b:dE t v=true):im (nq t v):=by
 unfold nq;rcases kinds c with a|a|a
 ·rw[a];exact qH b (by omega)
 ·rw[a];have F:=lU c a;have A:=mT b a;have f:=Nc F;have d:=GH F;obtain⟨x,e⟩:=as3 (n:=v.xN.toInt) (S:=hY t) (by have:=A.n1;omega) (by have:=A.n2;omega) d.1 d.2;have L:=apN e;show im (kF v.xN.toInt (hY t)).1;rw[e];exact⟨L.n1,L.n2,L.d1,L.d2,L.g⟩
 ·rw[a];exact qH b (by omega)
def wc{a b:Int64}(h1: -9223372036854775808<=a.toInt+b.toInt)(c:a.toInt+b.toInt<=9223372036854775807):(a+b).toInt=a.toInt+b.toInt:=by rw[arG,b6];omega
def qR{a b:Int64}(h1: -9223372036854775808<=a.toInt-b.toInt)(c:a.toInt-b.toInt<=9223372036854775807):(a-b).toInt=a.toInt-b.toInt:=by rw[afq,b6];omega
def sQ{a b:Int64}(h1: -9223372036854775808<=a.toInt*b.toInt)(c:a.toInt*b.toInt<=9223372036854775807):(a*b).toInt=a.toInt*b.toInt:=by rw[aoR,b6];omega
def sY{a:Int64}(h1: -9223372036854775807<=a.toInt):(-a).toInt= -a.toInt:=by
 have:=Int64.toInt_lt a;rw[Int64.toInt_neg,Int.bmod_def];omega
def ym{a b A B:Int}(f: -A<=a)(c:a<=A)(g: -B<=b)(h:b<=B): -(A*B)<=a*b/\a*b<=A*B:=by
 have d:a.natAbs<=A.natAbs:=by omega
 have e:b.natAbs<=B.natAbs:=by omega
 have i:(a*b).natAbs<=(A*B).natAbs:=by rw[Int.natAbs_mul,Int.natAbs_mul];exact Nat.mul_le_mul d e
 have j:0<=A*B:=Int.mul_nonneg (by omega) (by omega);omega
def anZ:∀n:Fin 31,u64.wrap (n.val:Int)=(n.val:Int)/\(Int64.ofInt ((1:Int)*2^(min n.val (IntKind.bits .i64)))).toInt=2^n.val/\min n.val (IntKind.bits .i64)=n.val:=by decide+kernel
def GU{f:Int}(h1:0<=f)(a:f<=30):u64.wrap f=f/\(Int64.ofInt ((1:Int)*2^(min f.toNat (IntKind.bits .i64)))).toInt=2^f.toNat/\min f.toNat (IntKind.bits .i64)=f.toNat:=by
 obtain⟨n,rfl⟩:∃n:Nat,f=n:=⟨f.toNat,by omega⟩;have:=anZ ⟨n,by omega⟩
 simpa using this
def amQ:∀n:Fin 30,(decide ((0:Int)<=(u64.wrap (aE ((64:Int)-((n.val+2:Nat):Int))))))=true/\min (u64.wrap (aE ((64:Int)-((n.val+2:Nat):Int)))).toNat (IntKind.bits .u64)=62-n.val/\
 min (u64.wrap (aE ((64:Int)-((n.val+2:Nat):Int)))).toNat (IntKind.bits .i64)=62-n.val/\(2:Int)^(62-n.val)*(2*2^(n.val+1))=18446744073709551616/\(0:Int)<2^(62-n.val):=by decide+kernel
def ajr{b:Int}(h1:2<=b)(a:b<=31):∃k:Nat,(decide ((0:Int)<=(u64.wrap (aE ((64:Int)-b)))))=true/\min (u64.wrap (aE ((64:Int)-b))).toNat (IntKind.bits .u64)=k/\
 min (u64.wrap (aE ((64:Int)-b))).toNat (IntKind.bits .i64)=k/\(2:Int)^k*(2*2^(b-1).toNat)=18446744073709551616/\(0:Int)<2^k:=by
 obtain⟨n,rfl⟩:∃n:Nat,b=n:=⟨b.toNat,by omega⟩;have:=amQ ⟨n-2,by omega⟩;simp only[show n-2+2=n by omega,show n-2+1=n-1 by omega]at this;rw[show((n:Int)-1).toNat=n-1 by omega];exact⟨_,this⟩
def NM(n:Int64):Int64.ofInt n.toInt=n:=RX (by rw[Fu,b6];have:=lR n;omega)
def ve{q:Int64}{z:Int}(h:q.toInt=z):q=Int64.ofInt z:=by rw[<-h,NM]
def BK(N:Nat){t:aL}(F:tM t)(n:Int64):qL N t n=some (mG t n.toInt):=by
 obtain⟨j,z,d,e,A,B⟩:=Ov F.b1 F.b2;obtain⟨k,l,q,r,f,g⟩:=ajr F.b1 F.b2;have i:=Nc F;unfold qL Ra EU Gr BV;rw[ij,re,re,nM,dO F.b1,dO F.b2];simp only[Bool.and_self,V1];rw[j,l];simp only[V1,re];rw[d,e,q,r]
 change _=some (⟨Int64.ofInt (qo (t.cC==2) (cQ t) n.toInt),1⟩:aA)
 have u:(-(Int64.ofInt ((1:Int)*2^(min (u64.wrap (aE (t.bU-(1:Int)))).toNat (IntKind.bits .i64)))))=Int64.ofInt (-cQ t):=ve d;have v:((Int64.ofInt ((1:Int)*2^(min (u64.wrap (aE (t.bU-(1:Int)))).toNat (IntKind.bits .i64))))-(1:Int64))=Int64.ofInt (cQ t-1):=ve e;rw[u,v,nM,ij];have w:(decide (-(2^(t.bU-1).toNat)<=n.toInt)&&decide (n.toInt<=2^(t.bU-1).toNat-1))=(decide (-cQ t<=n.toInt)&&decide (n.toInt<=cQ t-1)):=rfl;have x:(t.cC !=1&&t.cC !=2)=false:=by rcases F.o with h|h<;>rw[h]<;>rfl
 rw[x];simp only[re,UQ];rw[ij,w];by_cases b: -cQ t<=n.toInt
 ·by_cases c:n.toInt<=cQ t-1
  ·rw[dO b,dO c,anw (by omega) b c,NM];rfl
  ·rw[dO b,Zx c];simp only[Bool.and_false,UQ];rcases F.o with a|a
   ·rw[a,Zx (show ¬n.toInt< -2^(t.bU-1).toNat from λh=>by have:n.toInt< -cQ t:=h;omega)];simp only[Ys,V1,re,UQ];rw[show((1:Int)==2)=false from rfl];unfold qo;simp only[UQ];rw[show max (-cQ t) (min (cQ t-1) n.toInt)=cQ t-1 by omega]
   ·rw[a];show some (⟨Int64.ofInt (((Int64.ofInt _).toInt).fdiv (2^k)),1⟩:aA)=_;rw[Fu,b6,mg,mg,Int.fdiv_eq_ediv_of_nonneg _ (by omega),Int.mul_emod,Int.emod_emod,<-Int.mul_emod,afJ f g (by unfold cQ at i;omega)];rfl
 ·rw[Zx b];simp only[Bool.false_and,UQ];rcases F.o with a|a
  ·have y:n.toInt< -cQ t:=by omega
   rw[a,dO (show n.toInt< -2^(t.bU-1).toNat from y)];simp only[Ys,V1,re];rw[show((1:Int)==2)=false from rfl];unfold qo;simp only[UQ];rw[show max (-cQ t) (min (cQ t-1) n.toInt)= -cQ t by omega];rfl
  ·rw[a];show some (⟨Int64.ofInt (((Int64.ofInt _).toInt).fdiv (2^k)),1⟩:aA)=_;rw[Fu,b6,mg,mg,Int.fdiv_eq_ediv_of_nonneg _ (by omega),Int.mul_emod,Int.emod_emod,<-Int.mul_emod,afJ f g (by unfold cQ at i;omega)];rfl
def ahF(N:Nat)(e:2147483648<N){t:aL}(v:aA)(c:dA t=true)(f:t.bA=2):uv N t v=some (dE t v):=by
 have h:=qS N e t v c;unfold nT at h;rw[rH,c,re,f]at h;have a:Option.bind (uv N t v) (λx=>some x)=some (dE t v):=h;cases d:uv N t v with
 |none=>rw[d]at a;cases a
 |some b=>rw[d]at a;exact a
def vp:aL:=⟨1,0,0,0,0⟩
def Ro:dA vp=true:=rfl
def qk(N:Nat)(d:2147483648<N)(v:aA):lP N v=some (dE vp v):=by
 have h:=qS N d vp v Ro;unfold nT at h;rw[rH,Ro,re]at h;have a:Option.bind (lP N v) (λx=>some x)=some (dE vp v):=h;cases c:lP N v with
 |none=>rw[c]at a;cases a
 |some b=>rw[c]at a;exact a
def im.ok{v:aA}(h:im v):dE vp v=true:=by
 unfold dE;show(decide (v.xN.toInt<=2147483647)&&(decide (-2147483647<=v.xN.toInt)&&(decide (1<=v.xD.toInt)&&(decide (v.xD.toInt<=2147483647)&&(Nat.gcd v.xN.toInt.natAbs v.xD.toInt.toNat==1)))))=true;rw[dO h.n2,dO h.n1,dO h.d1,dO h.d2,h.g];rfl
def afD(N:Nat)(a:2147483648<N){t:aL}(b:dA t=true)(c:t.bA=2):∀(l:I aA)(k:Nat),(∀v∈l,dE t v=true)->KZ N t l k=some 0
 |[],_,_=>rfl
 |v::l,k,h=>by
  rw[KZ,ahF N a v b c,h v Zl];exact afD N a b c l (k+1) λx d=>h x (Zg _ d)
def adJ(N:Nat){t:aL}(b:dA t=true)(a:t.bA=2):wj N t=some 0:=by
 have F:=lU b a;have c:(t.cC==1||t.cC==2)=true:=by rcases F.o with h|h<;>rw[h]<;>rfl
 rw[SK N t (by rw[a];rfl),dO F.b1,dO F.b2,dO F.f1,dO F.f2,dO F.r1,dO F.r2,c];rfl
def af5(N:Nat)(c:2147483648<N){t:aL}(a:dA t=true)(b:t.bA=2){l:I aA}(h:∀v∈l,dE t v=true):sV N t l=some 0:=by
 unfold sV;rw[adJ N a b,re];exact afD N c a b l 0 h
def ar0{a b:Nat}(d:0<b)(o:a<=9223372036854775808)(r:b<=9223372036854775808)(c:Bool)(how:Int):um (a:Int) (b:Int) c how=((nY a b c how:Nat):Int):=by
 have t:a / b<=a:=Nat.div_le_self _ _;have u:a%b<b:=Nat.mod_lt _ d;have e:u64.wrap ((a:Int).tdiv (b:Int))=((a / b:Nat):Int):=by rw[<-Int.ofNat_tdiv,mg];generalize a / b=q at*;omega
 have f:(a:Int).tmod (b:Int)=((a%b:Nat):Int):=(Int.ofNat_tmod a b).symm;have g:u64.wrap (2*((a%b:Nat):Int))=((2*(a%b):Nat):Int):=by rw[mg];generalize a%b=q at*;omega
 have h:u64.wrap (((a / b:Nat):Int)+1)=((a / b+1:Nat):Int):=by rw[mg];generalize a / b=q at*;omega
 have i:((a / b:Nat):Int).tmod 2=((a / b%2:Nat):Int):=(Int.ofNat_tmod (a / b) 2).symm;unfold um jc nY DV;simp only[e,f,g,h,i];have j:(((a%b:Nat):Int)==0)=(a%b==0):=sJ _ 0;have k:decide (((2*(a%b):Nat):Int)<(b:Int))=decide (2*(a%b)<b):=og (by omega);have l:(((2*(a%b):Nat):Int)==(b:Int))=(2*(a%b)==b):=sJ _ _;have n:(((a / b%2:Nat):Int)==0)=(a / b%2==0):=sJ _ 0;rw[j,k,l,n];generalize ((a%b==0||how==3)||((how==1&& !c)||(how==2&&c))||(how==4&&(decide (2*(a%b)<b)||(2*(a%b)==b&&a / b%2==0))))=z;cases z<;>rfl
def af2(N:Nat)(v:Int64):IY N v=some ((v.toInt.natAbs:Nat):Int):=by
 unfold IY;have:=lR v;by_cases h:v.toInt<0
 ·rw[dO h];simp only[V1,mg]
  congr 1
  omega
 ·rw[Zx h];simp only[UQ,mg]
  congr 1
  omega
def ai1{a b:Nat}(c:Bool)(how:Int):nY a b c how<=a+1:=by
 have d:a / b<=a:=Nat.div_le_self _ _;unfold nY;cases DV a b c how;{simp only[UQ];omega};{simp only[V1];omega}
def Ty(N:Nat)(n d:Int64){how:Int}(h1:1<=how)(g:how<=4)(j: -4611686018427387904<=n.toInt)(k:n.toInt<=4611686018427387904):
 DW N n d how=some (bif d.toInt==0 then(0,4)else(Int64.ofInt (rm n.toInt d.toInt how),0)):=by
 unfold DW IK;rw[nM,ij,dO h1,dO g];simp only[Bool.and_self,re,V1];by_cases e:d.toInt=0;{rw[e];rfl}
 ·have l:=lR d;rw[WK e];simp only[UQ];rw[af2,af2];unfold Sk;simp only[re];rw[show(((d.toInt.natAbs:Nat):Int) !=0)=true by rw[Vr];omega];simp only[V1,re];rw[ar0 (by omega) (by omega) (by omega)];have c:=amU (n:=n.toInt) (d:=d.toInt) e h1 g;have h:=ai1 (a:=n.toInt.natAbs) (b:=d.toInt.natAbs);cases i:(decide (n.toInt<0)==decide (d.toInt<0))with
  |true=>
   have f:(decide (n.toInt<0) !=decide (d.toInt<0))=false:=by unfold bne;rw[i];rfl
   rw[f]at c;simp only[UQ]at c;have:=h false how;simp only[Wh,V1];rw[nM,Zx (show ¬(9223372036854775808:Int)<=((nY n.toInt.natAbs d.toInt.natAbs false how:Nat):Int) by omega)];simp only[UQ];rw[c]
  |false=>
   have f:(decide (n.toInt<0) !=decide (d.toInt<0))=true:=by unfold bne;rw[i];rfl
   rw[f]at c;simp only[V1]at c;have:=h true how;simp only[Bool.not_false,UQ];rw[<-c]
   congr 2
   refine RX ?_;rw[Fu,Fu,mg,b6,b6];omega
def rQ{t:aL}(F:tM t){v:aA}(V:MA t v): -1073741824<=v.xN.toInt/\v.xN.toInt<=1073741824:=by
 have:=Nc F;have:=V.n1;have:=V.n2;omega
structure Fx(N:Nat)(t:aL)(a b:aA):Prop where
 hN:2147483648<N
 ht:dA t=true
 hk:t.bA=2
 ha:dE t a=true
 hb:dE t b=true
def Fx.gO{N:Nat}{t:aL}{a b:aA}(h:Fx N t a b):sV N t [a,b]=some 0:=af5 N h.hN h.ht h.hk λv c=>by
 simp only[ZY,Yp,or_false]at c;rcases c with rfl|rfl
 ·exact h.ha
 ·exact h.hb
def aj5{N:Nat}{t:aL}{a:aA}(h:Fx N t a a):HX N t a=some (mG t (-a.xN.toInt),0):=by
 have B:=rQ (lU h.ht h.hk) (mT h.ha h.hk);unfold HX T1 Rn;rw[h.gO];show Option.bind (Option.bind (qL N t (-a.xN)) (λb=>some (b,0))) _=_;rw[BK N (lU h.ht h.hk),sY (by omega)];rfl
def ah4{N:Nat}{t:aL}{a b:aA}(h:Fx N t a b):E9 N t a b=some (mG t (a.xN.toInt+b.xN.toInt),0):=by
 have B:=rQ (lU h.ht h.hk) (mT h.ha h.hk);have C:=rQ (lU h.ht h.hk) (mT h.hb h.hk);unfold E9 Q4 P7;rw[h.gO];show Option.bind (Option.bind (qL N t (a.xN+b.xN)) (λc=>some (c,0))) _=_;rw[BK N (lU h.ht h.hk),wc (by omega) (by omega)];rfl
def anm{N:Nat}{t:aL}{a b:aA}(h:Fx N t a b):IM N t a b=some (mG t (a.xN.toInt-b.xN.toInt),0):=by
 have B:=rQ (lU h.ht h.hk) (mT h.ha h.hk);have C:=rQ (lU h.ht h.hk) (mT h.hb h.hk);unfold IM RD VU;rw[h.gO];show Option.bind (Option.bind (qL N t (a.xN-b.xN)) (λc=>some (c,0))) _=_;rw[BK N (lU h.ht h.hk),qR (by omega) (by omega)];rfl
def yr{n d how:Int}(a:0<d)(h1: -4611686018427387904<=n)(b:n<=4611686018427387904):(Int64.ofInt (kA n d how)).toInt=kA n d how:=by
 have:=NO (how:=how) a (B:=4611686018427387904) (by decide) h1 b;exact kh (by omega) (by omega)
def anh{n d how:Int}(b:d≠0)(h1: -4611686018427387904<=n)(a:n<=4611686018427387904):(Int64.ofInt (rm n d how)).toInt=rm n d how:=by
 unfold rm;by_cases h:d<0;{rw[dO h];exact yr (by omega) (by omega) (by omega)};{rw[Zx h];exact yr (by omega) h1 a}
def aew{n d how:Int}(a:0<d):rm n d how=kA n d how:=by unfold rm;rw[Zx (show ¬d<0 by omega)];rfl
def amK{N:Nat}{t:aL}{a b:aA}(h:Fx N t a b):Jq N t a b=some (mG t (kA (a.xN.toInt*b.xN.toInt) (hY t) t.cr),0):=by
 have F:=lU h.ht h.hk;have B:=rQ F (mT h.ha h.hk);have C:=rQ F (mT h.hb h.hk);have M:=ym B.1 B.2 C.1 C.2;have S:=GH F;obtain⟨f,c,g⟩:=GU F.f1 F.f2;unfold Jq Rq Qe;have e:=sQ (a:=a.xN) (b:=b.xN) (by omega) (by omega);have d:(Int64.ofInt ((1:Int)*2^(min (t.ck).toNat (IntKind.bits .i64)))).toInt=hY t:=c;rw[h.gO,dO F.f1,Ty N _ _ F.r1 F.r2 (by rw[e];omega) (by rw[e];omega),d,e,WK (show hY t≠0 by omega)];simp only[re,V1,UQ,bne_self_eq_false];rw[BK N F,aew (by omega),yr (by omega) (by omega) (by omega)];rfl
def ac6{n:Int64}{f:Int}(h1:0<=f)(a:f<=30)(b: -4294967296<=n.toInt)(c:n.toInt<=4294967296):
 (Int64.ofInt (n.toInt*2^(min f.toNat (IntKind.bits .i64)))).toInt=n.toInt*2^f.toNat/\-4611686018427387904<=n.toInt*2^f.toNat/\n.toInt*2^f.toNat<=4611686018427387904:=by
 obtain⟨e,g,d⟩:=GU h1 a;have S:=adh (λx=>1<=x/\x<=1073741824) (by decide) h1 a;have M:=ym b c (show-1073741824<=2^f.toNat by omega) S.2;rw[d];exact⟨kh (by omega) (by omega),by omega,by omega⟩
def arU{N:Nat}{t:aL}{a b:aA}(h:Fx N t a b):Hj N t a b=some (bif b.xN.toInt==0 then(cd,4)else(mG t (rm (a.xN.toInt*hY t) b.xN.toInt t.cr),0)):=by
 have F:=lU h.ht h.hk;have B:=rQ F (mT h.ha h.hk);obtain⟨e,d,f⟩:=ac6 (n:=a.xN) F.f1 F.f2 (by omega) (by omega);unfold Hj S1 VB;rw[h.gO,dO F.f1,Ty N _ _ F.r1 F.r2 (by rw[e];omega) (by rw[e];omega),e];by_cases c:b.xN.toInt=0;{rw[c];rfl};{rw[WK c];simp only[re,V1,UQ,bne_self_eq_false];rw[BK N F,anh c d f];rfl}
def Bw(N:Nat)(i:9223372036854775808<N)(n d:Int64):tT N n d=some (kF n.toInt d.toInt):=by
 unfold tT kF;have j:=lR n;have e:=lR d;by_cases a:d.toInt=0;{rw[a];rfl}
 ·rw[WK a];simp only[UQ];rw[Em,Em];unfold g_frac_gcd;simp only[re];rw[Mi N N _ _ (by omega)];simp only[re];have k:0<Nat.gcd n.toInt.natAbs d.toInt.natAbs:=Nat.gcd_pos_of_pos_right _ (by omega);rw[show(((Nat.gcd n.toInt.natAbs d.toInt.natAbs:Nat):Int) !=0)=true by rw[Vr];omega]
  change _=some (bif decide (2147483647<n.toInt.natAbs / Nat.gcd n.toInt.natAbs d.toInt.natAbs)||decide (2147483647<d.toInt.natAbs / Nat.gcd n.toInt.natAbs d.toInt.natAbs)then(cd,3)else(⟨Int64.ofInt (bif decide (n.toInt<0) !=decide (d.toInt<0)then-((n.toInt.natAbs / Nat.gcd n.toInt.natAbs d.toInt.natAbs:Nat):Int)else((n.toInt.natAbs / Nat.gcd n.toInt.natAbs d.toInt.natAbs:Nat):Int)),Int64.ofInt ((d.toInt.natAbs / Nat.gcd n.toInt.natAbs d.toInt.natAbs:Nat):Int)⟩,0))
  generalize f:Nat.gcd n.toInt.natAbs d.toInt.natAbs=g at*;have l:n.toInt.natAbs / g<=n.toInt.natAbs:=Nat.div_le_self _ _;have o:d.toInt.natAbs / g<=d.toInt.natAbs:=Nat.div_le_self _ _;have b:u64.wrap ((n.toInt.natAbs:Int).tdiv (g:Int))=((n.toInt.natAbs / g:Nat):Int):=by rw[<-Int.ofNat_tdiv,mg];generalize n.toInt.natAbs / g=q at*;omega
  have c:u64.wrap ((d.toInt.natAbs:Int).tdiv (g:Int))=((d.toInt.natAbs / g:Nat):Int):=by rw[<-Int.ofNat_tdiv,mg];generalize d.toInt.natAbs / g=q at*;omega
  simp only[V1];rw[b,c,kJ,re,og (p:=((n.toInt.natAbs / g:Nat):Int)>2147483647) (q:=2147483647<n.toInt.natAbs / g) (by omega),og (p:=((d.toInt.natAbs / g:Nat):Int)>2147483647) (q:=2147483647<d.toInt.natAbs / g) (by omega)];cases h:(decide (2147483647<n.toInt.natAbs / g)||decide (2147483647<d.toInt.natAbs / g))with
  |true=>rfl
  |false=>
   rw[Yf,VT,VT]at h;unfold bne;cases (decide (n.toInt<0)==decide (d.toInt<0))with
   |true=>rfl
   |false=>
    simp only[UQ,Bool.not_false,V1];clear b c;generalize n.toInt.natAbs / g=p at*;generalize d.toInt.natAbs / g=q at*
    congr 3
    refine RX ?_;rw[sY (by rw[kh]<;>omega),kh (by omega) (by omega),kh (by omega) (by omega)]
def EM{a b:Int}(d: -2147483647<=a)(c:a<=2147483647)(e: -2147483647<=b)(f:b<=2147483647): -4611686014132420609<=a*b/\a*b<=4611686014132420609:=by
 have:=ym d c e f;omega
def im.d0{v:aA}(h:im v): -2147483647<=v.xD.toInt:=by have:=h.d1;omega
def ky{a b:Int64}(h1: -2147483647<=a.toInt)(c:a.toInt<=2147483647)(d: -2147483647<=b.toInt)(e:b.toInt<=2147483647):(a*b).toInt=a.toInt*b.toInt:=by
 have:=EM h1 c d e;exact sQ (by omega) (by omega)
def aeu{a b:aA}(A:im a)(B:im b):(a.xN*b.xD+b.xN*a.xD).toInt=a.xN.toInt*b.xD.toInt+b.xN.toInt*a.xD.toInt:=by
 have p:=EM A.n1 A.n2 B.d0 B.d2;have q:=EM B.n1 B.n2 A.d0 A.d2;rw[wc]<;>rw[ky A.n1 A.n2 B.d0 B.d2,ky B.n1 B.n2 A.d0 A.d2]<;>omega
def aai{a b:aA}(A:im a)(B:im b):(a.xN*b.xD-b.xN*a.xD).toInt=a.xN.toInt*b.xD.toInt-b.xN.toInt*a.xD.toInt:=by
 have p:=EM A.n1 A.n2 B.d0 B.d2;have q:=EM B.n1 B.n2 A.d0 A.d2;rw[qR]<;>rw[ky A.n1 A.n2 B.d0 B.d2,ky B.n1 B.n2 A.d0 A.d2]<;>omega
def aq1{N:Nat}(c:9223372036854775808<N){a b:aA}(A:im a)(B:im b):He N a b=some (kF (a.xN.toInt*b.xD.toInt+b.xN.toInt*a.xD.toInt) (a.xD.toInt*b.xD.toInt)):=by
 unfold He;rw[qk N (by omega),qk N (by omega),A.ok,B.ok,Bw N c,aeu A B,ky A.d0 A.d2 B.d0 B.d2];rfl
def akV{N:Nat}(c:9223372036854775808<N){a b:aA}(A:im a)(B:im b):Hk N a b=some (kF (a.xN.toInt*b.xD.toInt-b.xN.toInt*a.xD.toInt) (a.xD.toInt*b.xD.toInt)):=by
 unfold Hk;rw[qk N (by omega),qk N (by omega),A.ok,B.ok,Bw N c,aai A B,ky A.d0 A.d2 B.d0 B.d2];rfl
def ars{N:Nat}(c:9223372036854775808<N){a b:aA}(A:im a)(B:im b):IU N a b=some (kF (a.xN.toInt*b.xN.toInt) (a.xD.toInt*b.xD.toInt)):=by
 unfold IU;rw[qk N (by omega),qk N (by omega),A.ok,B.ok,Bw N c,ky A.n1 A.n2 B.n1 B.n2,ky A.d0 A.d2 B.d0 B.d2];rfl
def alP{N:Nat}(c:9223372036854775808<N){a b:aA}(A:im a)(B:im b):Ij N a b=some (kF (a.xN.toInt*b.xD.toInt) (a.xD.toInt*b.xN.toInt)):=by
 unfold Ij;rw[qk N (by omega),qk N (by omega),A.ok,B.ok,Bw N c,ky A.n1 A.n2 B.d0 B.d2,ky A.d0 A.d2 B.n1 B.n2];rfl
def amn(N:Nat)(n:Int64):rT N n=some (decide (-2147483647<=n.toInt)&&decide (n.toInt<=2147483647)):=by
 unfold rT;rw[nM,ij];rfl
def SO{a b:Int}: -(a.natAbs:Int)<=a.tdiv b/\a.tdiv b<=(a.natAbs:Int):=by
 have h:(a.tdiv b).natAbs<=a.natAbs:=by rw[Int.natAbs_tdiv];exact Nat.div_le_self _ _
 omega
def Ru{a b:Int}(c:b≠0): -(a.natAbs:Int)<=a.tmod b/\a.tmod b<=(a.natAbs:Int):=by
 have h:(a.tmod b).natAbs<=a.natAbs:=by rw[Int.natAbs_tmod];exact Nat.mod_le _ _
 omega
def asL(N:Nat)(e:Int)(a b:Int64)(h1: -2147483647<=a.toInt)(i:a.toInt<=2147483647)(j: -2147483647<=b.toInt)(k:b.toInt<=2147483647)(l:e=4\/e=5\/e=6\/e=7):
 HR N e a b=some (wH e a.toInt b.toInt):=by
 have o:=wc (a:=a) (b:=b) (by omega) (by omega);have q:=qR (a:=a) (b:=b) (by omega) (by omega);have r:=ky h1 i j k;have c:∀(z:Int64)(n:Int),z.toInt=n->((rT N z).bind λv=>bif v then some ((⟨z,1⟩:aA),(0:Int))else some (cd,(3:Int)))=some (bif decide (-2147483647<=n)&&decide (n<=2147483647)then(⟨Int64.ofInt n,1⟩,0)else(cd,3)):=λz n g=>by
  subst g;rw[amn,re,NM];cases (decide (-2147483647<=z.toInt)&&decide (z.toInt<=2147483647))<;>rfl
 unfold HR wH;rcases l with rfl|rfl|rfl|rfl
 ·exact c _ _ o
 ·exact c _ _ q
 ·exact c _ _ r
 ·show(bif b.toInt==0 then some (cd,(4:Int))else _)=some (bif true&&b.toInt==0 then(cd,4)else bif decide (-2147483647<=ny a.toInt b.toInt)&&decide (ny a.toInt b.toInt<=2147483647)then(⟨Int64.ofInt (ny a.toInt b.toInt),1⟩,0)else(cd,3));by_cases f:b.toInt=0
  ·rw[f];rfl
  ·have w:=SO (a:=a.toInt) (b:=b.toInt);have x:=Ru (a:=a.toInt) f;have q1:(Int64.ofInt (a.toInt.tmod b.toInt)).toInt=a.toInt.tmod b.toInt:=kh (by omega) (by omega);have h:(Int64.ofInt (a.toInt.tdiv b.toInt)).toInt=a.toInt.tdiv b.toInt:=kh (by omega) (by omega);have t:((Int64.ofInt (a.toInt.tdiv b.toInt))-(1:Int64)).toInt=a.toInt.tdiv b.toInt-1:=by
    rw[qR]<;>rw[h,show(1:Int64).toInt=1 from rfl]<;>omega
   have d:=ara (a:=a.toInt) f;rw[WK f,Vr.2 f,q1];simp only[UQ,V1,Bool.and_false];rw[ij,re];have u:(!(decide (a.toInt<0)==decide (b.toInt<0)))=(decide (a.toInt<0) !=decide (b.toInt<0)):=rfl;rw[u];cases g:(a.toInt.tmod b.toInt !=0&&(decide (a.toInt<0) !=decide (b.toInt<0)))with
   |true=>rw[g]at d;exact c _ _ (t.trans d)
   |false=>rw[g]at d;exact c _ _ (h.trans d)
def anQ(N:Nat)(a b:Int64):Da N a b=some (ub a.toInt b.toInt):=by
 unfold Da ub;cases decide (a.toInt<b.toInt);{cases decide (a.toInt>b.toInt)<;>rfl};{rfl}
def afF(N:Nat)(c:2147483648<N)(t:aL)(a b:aA)(d:dA t=true):Ee N t a b=some (lf t a b):=by
 unfold Ee lf;rw[qS N c t a d,qS N c t b d,d];cases e:dE t a with
 |false=>rfl
 |true=>
  cases f:dE t b with
  |false=>rfl
  |true=>
   simp only[re,V1,Wh,UQ,Bool.and_self];cases g:t.bA==1 with
   |true=>
    have h:t.bA=1:=by simpa using g
    have A:=qH e (by omega);have B:=qH f (by omega);simp only[V1];unfold Vx;rw[qk N c,qk N c,A.ok,B.ok,anQ,ky A.n1 A.n2 B.d0 B.d2,ky B.n1 B.n2 A.d0 A.d2];rfl
   |false=>
    simp only[UQ];unfold ub;cases decide (a.xN.toInt<b.xN.toInt);{cases decide (a.xN.toInt>b.xN.toInt)<;>rfl};{rfl}
def ahM(N:Nat)(e:9223372036854775808<N){c:Int}{t:aL}{a b:aA}(i:dA t=true)(f:dE t a=true)(g:dE t b=true)(h:c=4\/c=5\/c=6\/c=7):
 K3 N c t a b=some (bif t.bA==2 then ET c t a.xN.toInt b.xN.toInt else bif t.bA==3 then wH c a.xN.toInt b.xN.toInt else yJ c a b):=by
 unfold K3;rcases kinds i with d|d|d
 ·have A:=qH f (by omega);have B:=qH g (by omega);rw[d];rcases h with rfl|rfl|rfl|rfl
  ·show Option.bind (He N a b) _=_;rw[aq1 e A B];rfl
  ·show Option.bind (Hk N a b) _=_;rw[akV e A B];rfl
  ·show Option.bind (IU N a b) _=_;rw[ars e A B];rfl
  ·show Option.bind (Ij N a b) _=_;rw[alP e A B];rfl
 ·have X:Fx N t a b:=⟨by omega,i,d,f,g⟩;rw[d];rcases h with rfl|rfl|rfl|rfl
  ·show Option.bind (E9 N t a b) _=_;rw[ah4 X];rfl
  ·show Option.bind (IM N t a b) _=_;rw[anm X];rfl
  ·show Option.bind (Jq N t a b) _=_;rw[amK X];rfl
  ·show Option.bind (Hj N t a b) _=_;rw[arU X];rfl
 ·have A:=qH f (by omega);have B:=qH g (by omega);rw[d];show Option.bind (HR N c a.xN b.xN) _=_;rw[asL N c _ _ A.n1 A.n2 B.n1 B.n2 h];rfl
def apJ(N:Nat)(g:2147483648<N){t:aL}{a:aA}(f:dA t=true)(d:dE t a=true)(b:Int):JK N t a=some (bif t.bA==2 then ET 8 t a.xN.toInt b else bif t.bA==3 then wH 8 a.xN.toInt b else yJ 8 a a):=by
 unfold JK;rcases kinds f with c|c|c
 ·rw[c];rfl
 ·rw[c];show Option.bind (HX N t a) _=_;rw[aj5 ⟨g,f,c,d,d⟩];rfl
 ·have A:=qH d (by omega);have D:=FO d c;have e:(-a.xN).toInt= -a.xN.toInt:=sY (by have:=A.n1;omega);rw[c];unfold wH;rw[show((8:Int)==7&&b==0)=false from rfl,show((8:Int)==4)=false from rfl,show((8:Int)==5)=false from rfl,show((8:Int)==6)=false from rfl,show((8:Int)==7)=false from rfl,show((3:Int)==2)=false from rfl,show((3:Int)==3)=true from rfl];simp only[UQ,V1];rw[dO (show-2147483647<=-a.xN.toInt by have:=A.n2;omega),dO (show-a.xN.toInt<=2147483647 by have:=A.n1;omega)];simp only[Bool.and_self,V1]
  congr 2
  exact Fy (by rw[e];exact(kh (by have:=A.n2;omega) (by have:=A.n1;omega)).symm) D
def agj(N:Nat)(f:2147483648<N){t:aL}{a b:aA}(g:dA t=true)(e:Int):CS N t a b e true=some (bif e==9 then(bif decide (lf t a b>0)then b else a)else(bif decide (lf t a b<0)then b else a),0):=by
 unfold CS;rw[afF N f t a b g];simp only[V1,re];generalize lf t a b=c;cases i:e==9 with
 |true=>
  by_cases d:c>0;{rw[dO d,Vr.2 (show c≠0 by omega)];rfl};{rw[Zx d];rfl}
 |false=>
  by_cases d:c<0;{rw[dO d,Zx (show ¬c>0 by omega),Vr.2 (show c≠0 by omega)];rfl}
  ·rw[Zx d];by_cases h:c>0
   ·rw[dO h];rfl
   ·obtain rfl:c=0:=by omega
    rfl
def aiS(a b c:aA):yJ 8 a b=yJ 8 a c:=by
 unfold yJ;rw[show((8:Int)==4)=false from rfl,show((8:Int)==5)=false from rfl,show((8:Int)==6)=false from rfl,show((8:Int)==7)=false from rfl];simp only[UQ]
def Rk(N:Nat)(f:9223372036854775808<N)(c:Int)(t:aL)(a b:aA):yM N c t a b=some (mn c t a b):=by
 have e:2147483648<N:=Nat.lt_trans (by decide) f;unfold yM mn;rw[kJ,re,rH,re];by_cases g:c<4;{rw[dO g];rfl}
 by_cases n:c<=10
 ·rw[Zx g,Zx (show ¬c>10 by omega)];simp only[Bool.or_self,UQ];cases d:dA t with
  |false=>rfl
  |true=>
   simp only[V1,Wh,UQ,bne_self_eq_false];rw[qS N e t a d,qS N e t b d];cases h:dE t a with
   |false=>rfl
   |true=>
    simp only[re,V1,Wh,ai];rw[yU,ij,re];by_cases i:c=8;{subst i;rw[apJ N e d h b.xN.toInt,aiS a a b];rfl}
    ·rw[WK i];simp only[Bool.not_false,YJ,UQ];cases l:dE t b with
     |false=>rfl
     |true=>
      simp only[Wh,UQ];by_cases j:c=9;{subst j;rw[show((9:Int)==9)=true from rfl,agj N e d];rfl}
      ·rw[WK j];simp only[UQ];by_cases k:c=10
       ·subst k;rw[show((10:Int)==10)=true from rfl,agj N e d];rfl
       ·rw[WK k];unfold CS;simp only[UQ];rw[ahM N f d h l (by omega)];rfl
 ·rw[dO (show c>10 by omega),Bool.or_true];rfl
def agV(N:Nat)(d:9223372036854775808<N){t:aL}{v:aA}(a:dA t=true)(e:dE t v=true):Ln N t v=some (nq t v):=by
 unfold Ln nq;cases f:t.bA==2 with
 |false=>rfl
 |true=>
  have b:t.bA=2:=by simpa using f
  have F:=lU a b;obtain⟨i,g,j⟩:=GU F.f1 F.f2;have h:(Int64.ofInt ((1:Int)*2^(min (t.ck).toNat (IntKind.bits .i64)))).toInt=hY t:=g;simp only[V1];unfold Ua;rw[af5 N (by omega) a b (l:=[v]) (by intro x c;simp only[ZY,Yp,or_false]at c;subst c;exact e),dO F.f1,Bw N d,h];rfl
def arn(N:Nat)(f:2147483648<N){v:aA}(V:im v):Fj N v=some (Int64.ofInt (v.xN.toInt / v.xD.toInt)):=by
 unfold Fj JW;have h:=V.d1;have i:=SO (a:=v.xN.toInt) (b:=v.xD.toInt);have j:=Ru (a:=v.xN.toInt) (show v.xD.toInt≠0 by omega);have k:=V.n1;have l:=V.n2;rw[qk N f,V.ok,Vr.2 (show v.xD.toInt≠0 by omega),kh (by omega) (by omega)];simp only[re,V1];have c:=afU (n:=v.xN.toInt) (d:=v.xD.toInt) (by omega);have g:(Int64.ofInt (v.xN.toInt.tdiv v.xD.toInt)).toInt=v.xN.toInt.tdiv v.xD.toInt:=kh (by omega) (by omega);cases e:decide (v.xN.toInt.tmod v.xD.toInt<0)with
 |true=>
  rw[e]at c;simp only[V1]at c ⊢;rw[<-c]
  congr 1
  refine ve ?_;rw[qR]<;>rw[g,show(1:Int64).toInt=1 from rfl]<;>omega
 |false=>
  rw[e]at c;simp only[UQ]at c ⊢;rw[<-c]
def aol(N:Nat)(c:2147483648<N){t:aL}{v:aA}(a:dA t=true)(b:t.bA=2)(V:im v):Ih N t v=some (mG t (kA (v.xN.toInt*hY t) v.xD.toInt t.cr),0):=by
 have F:=lU a b;obtain⟨d,h,i⟩:=GU F.f1 F.f2;have j:=V.n1;have k:=V.n2;have l:=V.d1;obtain⟨e,f,g⟩:=ac6 (n:=v.xN) F.f1 F.f2 (by omega) (by omega);unfold Ih RK IK;rw[adJ N a b,qk N c,V.ok,d,nM,ij,dO F.r1,dO F.r2,dO F.f1,Zx (show ¬t.ck<0 by have:=F.f1;omega),Zx (show ¬t.ck>30 by have:=F.f2;omega)];simp only[re,bne_self_eq_false,UQ,V1,Bool.and_self,Wh];rw[Ty N _ _ F.r1 F.r2 (by rw[e];omega) (by rw[e];omega),e,WK (show v.xD.toInt≠0 by omega)];simp only[re,UQ,bne_self_eq_false];rw[BK N F,aew (by omega),yr (by omega) f g];rfl
def ajy(N:Nat)(f:9223372036854775808<N)(t u:aL)(v:aA):Ku N t u v=some (Ce t u v):=by
 unfold Ku Ce;rw[rH,rH];cases c:dA t with
 |false=>rfl
 |true=>
  cases d:dA u with
  |false=>rfl
  |true=>
   simp only[re,V1,bne_self_eq_false,UQ,Wh,Bool.or_self];rw[qS N (by omega) t v c];cases e:dE t v with
   |false=>rfl
   |true=>
    simp only[re,V1,Wh,UQ];have a:=afH c e;rw[agV N f c e,re];rcases kinds d with b|b|b
    ·rw[b];rfl
    ·rw[b];show Option.bind (Ih N u (nq t v)) _=_;rw[aol N (by omega) d b a];rfl
    ·rw[b];show Option.bind (Fj N (nq t v)) _=_;rw[arn N (by omega) a];rfl
def arX{n d:Int}: -(n.natAbs:Int)<=n.tdiv d*d/\n.tdiv d*d<=(n.natAbs:Int):=by
 have h:(n.tdiv d*d).natAbs<=n.natAbs:=by rw[Int.natAbs_mul,Int.natAbs_tdiv];exact Nat.div_mul_le_self _ _
 omega
def MN(N:Nat)(n d:Int64)(f:0<d.toInt)(i: -4611686025000000000<=n.toInt)(j:n.toInt<=4611686025000000000):
 AA N n d=some (Int64.ofInt (n.toInt / d.toInt)):=by
 have k:=SO (a:=n.toInt) (b:=d.toInt);have l:=arX (n:=n.toInt) (d:=d.toInt);have q1:(Int64.ofInt (n.toInt.tdiv d.toInt)).toInt=n.toInt.tdiv d.toInt:=kh (by omega) (by omega);have g:((Int64.ofInt (n.toInt.tdiv d.toInt))*d).toInt=n.toInt.tdiv d.toInt*d.toInt:=by
  rw[sQ]<;>rw[q1]<;>omega
 have h:((Int64.ofInt (n.toInt.tdiv d.toInt))-(1:Int64)).toInt=n.toInt.tdiv d.toInt-1:=by
  rw[qR]<;>rw[q1,show(1:Int64).toInt=1 from rfl]<;>omega
 have c:=abq (n:=n.toInt) f;unfold AA;rw[Vr.2 (show d.toInt≠0 by omega),g];simp only[V1];cases e:decide (n.toInt.tdiv d.toInt*d.toInt>n.toInt)with
 |true=>
  rw[e]at c;simp only[V1]at c ⊢
  congr 1
  exact ve (h.trans c)
 |false=>
  rw[e]at c;simp only[UQ]at c ⊢;rw[<-c]
def Qm{n d B:Int}(a:0<d)(b:0<=B)(h1: -B<=n)(c:n<=B): -B<=n / d/\n / d<=B/\n-d<n / d*d/\n / d*d<=n:=by
 have e:=Int.mul_ediv_add_emod n d;have f:=Int.emod_nonneg n (show d≠0 by omega);have g:=Int.emod_lt_of_pos n a;rw[Int.mul_comm]at e;refine⟨?_,?_,by omega,by omega⟩;{refine Int.le_ediv_of_mul_le a ?_;have:B*1<=B*d:=Ym (by omega) b;rw[Int.neg_mul];omega}
 ·by_cases h:0<=n
  ·exact Int.le_trans (Int.ediv_le_self _ h) c
  ·exact Int.le_trans (Int.le_of_lt (Int.ediv_neg_of_neg_of_pos (by omega) a)) b
def Qd(N:Nat)(n d:Int64)(how:Int)(e:0<d.toInt)(l:d.toInt<=4294967296)(g: -4611686018427387904<=n.toInt)(h:n.toInt<=4611686018427387904):
 DG N n d how=some (Int64.ofInt (kA n.toInt d.toInt how)):=by
 obtain⟨o,r,t,u⟩:=Qm e (B:=4611686018427387904) (by decide) g h;have c:(Int64.ofInt (n.toInt / d.toInt)).toInt=n.toInt / d.toInt:=kh (by omega) (by omega);have q1:(Int64.ofInt (n.toInt / d.toInt)*d).toInt=n.toInt / d.toInt*d.toInt:=by rw[sQ]<;>rw[c]<;>omega
 have f:(n-Int64.ofInt (n.toInt / d.toInt)*d).toInt=n.toInt-n.toInt / d.toInt*d.toInt:=by rw[qR]<;>rw[q1]<;>omega
 have i:(d-(n-Int64.ofInt (n.toInt / d.toInt)*d)).toInt=d.toInt-(n.toInt-n.toInt / d.toInt*d.toInt):=by rw[qR]<;>rw[f]<;>omega
 have j:Int64.ofInt (n.toInt / d.toInt)+(1:Int64)=Int64.ofInt (n.toInt / d.toInt+1):=ve (by rw[wc]<;>rw[c,show(1:Int64).toInt=1 from rfl]<;>omega);have k:(Int64.ofInt ((n.toInt / d.toInt).tmod 2)).toInt=(n.toInt / d.toInt).tmod 2:=by
  have:=Ru (a:=n.toInt / d.toInt) (b:=2) (by decide);exact kh (by omega) (by omega)
 rw[<-aiy how (n:=n.toInt) (d:=d.toInt) (q:=n.toInt / d.toInt) (rest:=n.toInt-n.toInt / d.toInt*d.toInt) rfl rfl];unfold DG;rw[MN N n d e (by omega) (by omega),re,f,i,c,k,j,kJ,re];generalize n.toInt-n.toInt / d.toInt*d.toInt=rest;generalize n.toInt / d.toInt=q;cases (rest==0||how==1)with
 |true=>rfl
 |false=>
  simp only[UQ];cases how==2 with
  |true=>rfl
  |false=>
   simp only[UQ];cases how==3 with
   |true=>simp only[V1];cases decide (n.toInt<0)<;>rfl
   |false=>
    simp only[UQ];rw[ij,kJ,re];cases (decide (rest>d.toInt-rest)||(rest==d.toInt-rest&&q.tmod 2 !=0))<;>rfl
def aqZ(a b:Int64):(qN a b).toInt=max a.toInt b.toInt:=by unfold qN;split<;>omega
def apw(a b:Int64):(sA a b).toInt=min a.toInt b.toInt:=by unfold sA;split<;>omega
def AT(N:Nat){t:aL}(F:tM t)(n:Int64)(Q: -4611686018427387905<=n.toInt)(R:n.toInt<=4611686018427387905):vj N t n=some (mG t n.toInt):=by
 obtain⟨o,S,q,f,T,W⟩:=Ov F.b1 F.b2;obtain⟨r,h2⟩:=Nc F;have u:(-(Int64.ofInt ((1:Int)*2^(min (u64.wrap (aE (t.bU-(1:Int)))).toNat (IntKind.bits .i64)))))=Int64.ofInt (-cQ t):=ve q;have k:((Int64.ofInt ((1:Int)*2^(min (u64.wrap (aE (t.bU-(1:Int)))).toNat (IntKind.bits .i64))))-(1:Int64))=Int64.ofInt (cQ t-1):=ve f;have g:(Int64.ofInt ((1:Int)*2^(min (u64.wrap (aE (t.bU-(1:Int)))).toNat (IntKind.bits .i64))))=Int64.ofInt (cQ t):=by
  have c:=congrArg Int64.toInt k;have i:=f;have e:∀x:Int64,(x-1).toInt=cQ t-1->x=Int64.ofInt (cQ t):=λx v=>by
   refine ve ?_;rw[afq,show(1:Int64).toInt=1 from rfl,b6]at v;have:=lR x;omega
  exact e _ f
 have j:(Int64.ofInt (cQ t)).toInt=cQ t:=kh (by omega) (by omega);have y:(Int64.ofInt (-cQ t)).toInt= -cQ t:=kh (by omega) (by omega);have A:(Int64.ofInt (cQ t-1)).toInt=cQ t-1:=kh (by omega) (by omega);have J:∀z:Int64,z.toInt=n.toInt/\(t.cC==2)=false\/(z.toInt=qo true (cQ t) n.toInt/\(t.cC==2)=true)->GC N t z=some (mG t n.toInt):=λz b=>by
  unfold GC;rw[u,k];unfold mG
  congr 1
  refine Fy ?_ rfl;show(qN (Int64.ofInt (-cQ t)) (sA (Int64.ofInt (cQ t-1)) z)).toInt=(Int64.ofInt (qo (t.cC==2) (cQ t) n.toInt)).toInt;have C:=ak2 (w:=t.cC==2) (h:=cQ t) (n:=n.toInt) (by omega);rw[aqZ,apw,y,A,kh (by omega) (by omega)];rcases b with⟨b,a⟩|⟨b,a⟩
  ·rw[b,a];rfl
  ·rw[a]at C ⊢;rw[b];omega
 unfold vj;rw[o];simp only[V1];cases a:t.cC==2 with
 |false=>exact J n (.inl ⟨rfl,a⟩)
 |true=>
  simp only[V1];rw[g];have c:(n+Int64.ofInt (cQ t)).toInt=n.toInt+cQ t:=by rw[wc]<;>rw[j]<;>omega
  have i:((2:Int64)*Int64.ofInt (cQ t)).toInt=2*cQ t:=by rw[sQ]<;>rw[j,show(2:Int64).toInt=2 from rfl]<;>omega
  rw[MN N _ _ (by rw[i];omega) (by rw[c];omega) (by rw[c];omega),re,c,i];obtain⟨k1,k2,k3,k4⟩:=Qm (n:=n.toInt+cQ t) (d:=2*cQ t) (B:=4611686025000000000) (by omega) (by decide) (by omega) (by omega);have E:(Int64.ofInt ((n.toInt+cQ t)/(2*cQ t))).toInt=(n.toInt+cQ t)/(2*cQ t):=kh (by omega) (by omega);have G:(n.toInt+cQ t)/(2*cQ t)*(2*cQ t)=(n.toInt+cQ t)/(2*cQ t)*2*cQ t:=by rw[ab]
  have H:(n.toInt+cQ t)%(2*cQ t)=n.toInt+cQ t-(n.toInt+cQ t)/(2*cQ t)*(2*cQ t):=by
   rw[Int.emod_def,Int.mul_comm]
  have tO:2<=cQ t->-4611686025000000000<=(n.toInt+cQ t)/(2*cQ t)*2/\(n.toInt+cQ t)/(2*cQ t)*2<=4611686025000000000:=λhh=>by
   have K:(n.toInt+cQ t)/(2*cQ t)*2<=(n.toInt+cQ t).natAbs:=by
    by_cases l:0<=(n.toInt+cQ t)/(2*cQ t);{have:(n.toInt+cQ t)/(2*cQ t)*2<=(n.toInt+cQ t)/(2*cQ t)*(2*cQ t):=Ym (by omega) l;omega};{omega}
   have L: -((n.toInt+cQ t).natAbs:Int)-4*cQ t<=(n.toInt+cQ t)/(2*cQ t)*2:=by
    by_cases l:0<=(n.toInt+cQ t)/(2*cQ t);{omega};{have:(n.toInt+cQ t)/(2*cQ t)*(2*cQ t)<=(n.toInt+cQ t)/(2*cQ t)*2:=Int.mul_le_mul_of_nonpos_left (by omega) (by omega);omega}
   omega
  obtain⟨K,L⟩:=tO r;have M:(Int64.ofInt ((n.toInt+cQ t)/(2*cQ t))*(2:Int64)).toInt=(n.toInt+cQ t)/(2*cQ t)*2:=by rw[sQ]<;>rw[E,show(2:Int64).toInt=2 from rfl]<;>omega
  have P:(Int64.ofInt ((n.toInt+cQ t)/(2*cQ t))*(2:Int64)*Int64.ofInt (cQ t)).toInt=(n.toInt+cQ t)/(2*cQ t)*(2*cQ t):=by
   rw[sQ]<;>rw[M,j,<-G]<;>omega
  refine J _ (.inr ⟨?_,a⟩);rw[qR]<;>rw[P];{unfold qo;simp only[V1];rw[H];omega};{omega};{omega}
def Mm(N:Nat){t:aL}(F:tM t):xu N t=some (Int64.ofInt (hY t)):=by
 obtain⟨a,b,d⟩:=GU F.f1 F.f2;have c:(Int64.ofInt ((1:Int)*2^(min (t.ck).toNat (IntKind.bits .i64))))=Int64.ofInt (hY t):=ve b;unfold xu;rw[a,dO F.f1,c];rfl
def Uq{t:aL}(F:tM t):(Int64.ofInt (hY t)).toInt=hY t:=by
 have:=GH F;exact kh (by omega) (by omega)
def ak4(N:Nat){c:Int}{t:aL}{a b:aA}(F:tM t)(A:MA t a)(B:c≠8->MA t b):N2 N c t a.xN b.xN=some (ET c t a.xN.toInt b.xN.toInt):=by
 have g:=rQ F A;have S:=GH F;have s:=Uq F;unfold N2 ET;by_cases h:c=8;{subst h;have e:(-a.xN).toInt= -a.xN.toInt:=sY (by omega);rw[show((8:Int)==4)=false from rfl,show((8:Int)==5)=false from rfl,show((8:Int)==6)=false from rfl,show((8:Int)==8)=true from rfl];simp only[UQ,V1];rw[AT N F _ (by rw[e];omega) (by rw[e];omega),e];rfl}
 have k:=rQ F (B h);rw[WK h];cases c==4 with
 |true=>
  have e:=wc (a:=a.xN) (b:=b.xN) (by omega) (by omega);simp only[V1];rw[AT N F _ (by rw[e];omega) (by rw[e];omega),e];rfl
 |false=>
  simp only[UQ];cases c==5 with
  |true=>
   have e:=qR (a:=a.xN) (b:=b.xN) (by omega) (by omega);simp only[V1];rw[AT N F _ (by rw[e];omega) (by rw[e];omega),e];rfl
  |false=>
   simp only[UQ];cases c==6 with
   |true=>
    have M:=ym g.1 g.2 k.1 k.2;have e:=sQ (a:=a.xN) (b:=b.xN) (by omega) (by omega);simp only[V1];rw[Mm N F,re,Qd N _ _ _ (by rw[s];omega) (by rw[s];omega) (by rw[e];omega) (by rw[e];omega),re,e,s];have r:=NO (n:=a.xN.toInt*b.xN.toInt) (d:=hY t) (how:=t.cr) (B:=4611686018427387904) (by omega) (by decide) (by omega) (by omega);have f:=yr (n:=a.xN.toInt*b.xN.toInt) (d:=hY t) (how:=t.cr) (by omega) (by omega) (by omega);rw[AT N F _ (by rw[f];omega) (by rw[f];omega),f];rfl
   |false=>
    simp only[UQ];by_cases l:b.xN.toInt=0;{rw[l];rfl}
    ·rw[WK l];simp only[UQ];have M:=ym g.1 g.2 (show-1073741824<=hY t by omega) S.2;have J:∀x y:Int64,0<y.toInt->y.toInt<=1073741824->-1073741824<=x.toInt->x.toInt<=1073741824->FI N t x y=some (mG t (kA (x.toInt*hY t) y.toInt t.cr),0):=λx y v w q u=>by
       have M:=ym q u (show-1073741824<=hY t by omega) S.2;have e:(x*Int64.ofInt (hY t)).toInt=x.toInt*hY t:=by rw[sQ]<;>rw[s]<;>omega
       unfold FI;rw[Mm N F,re,Qd N _ _ _ (by omega) (by omega) (by rw[e];omega) (by rw[e];omega),re,e];have r:=NO (n:=x.toInt*hY t) (d:=y.toInt) (how:=t.cr) (B:=4611686018427387904) (by omega) (by decide) (by omega) (by omega);have f:=yr (n:=x.toInt*hY t) (d:=y.toInt) (how:=t.cr) (by omega) (by omega) (by omega);rw[AT N F _ (by rw[f];omega) (by rw[f];omega),f];rfl
     unfold rm;by_cases o:b.xN.toInt<0;{have i:(-a.xN).toInt= -a.xN.toInt:=sY (by omega);have j:(-b.xN).toInt= -b.xN.toInt:=sY (by omega);rw[dO o];simp only[V1];rw[J _ _ (by rw[j];omega) (by rw[j];omega) (by rw[i];omega) (by rw[i];omega),i,j,Int.neg_mul]};{rw[Zx o];simp only[UQ];rw[J _ _ (by omega) (by omega) (by omega) (by omega)]}
def aox(N:Nat){e:Int}{a b:Int64}(h1: -2147483647<=a.toInt)(t:a.toInt<=2147483647)(f:e≠8->-2147483647<=b.toInt/\b.toInt<=2147483647)(A:4<=e/\e<=8):
 NP N e a b=some (wH e a.toInt b.toInt):=by
 have c:∀(z:Int64)(n:Int),z.toInt=n->((bif (decide (z.toInt>2147483647))then some true else some (decide (z.toInt<(-2147483647:Int)))).bind λv=>bif v then some (cd,(3:Int))else some ((⟨z,1⟩:aA),(0:Int)))=some (bif decide (-2147483647<=n)&&decide (n<=2147483647)then(⟨Int64.ofInt n,1⟩,0)else(cd,3)):=λz n u=>by
  subst u;rw[kJ,re,NM];by_cases k:z.toInt>2147483647;{rw[dO k,Zx (show ¬z.toInt<=2147483647 by omega),Bool.and_false];rfl}
  ·rw[Zx k,dO (show z.toInt<=2147483647 by omega),Bool.and_true];by_cases l:z.toInt< -2147483647
   ·rw[dO l,Zx (show ¬-2147483647<=z.toInt by omega)];rfl
   ·rw[Zx l,dO (show-2147483647<=z.toInt by omega)];rfl
 unfold NP wH;rcases (by omega:e=4\/e=5\/e=6\/e=7\/e=8)with rfl|rfl|rfl|rfl|rfl
 ·obtain⟨g,h⟩:=f (by decide);exact c _ _ (wc (a:=a) (b:=b) (by omega) (by omega))
 ·obtain⟨g,h⟩:=f (by decide);exact c _ _ (qR (a:=a) (b:=b) (by omega) (by omega))
 ·obtain⟨g,h⟩:=f (by decide);exact c _ _ (ky h1 t g h)
 ·obtain⟨g,h⟩:=f (by decide);show(bif b.toInt==0 then some (cd,(4:Int))else _)=some (bif true&&b.toInt==0 then(cd,4)else bif decide (-2147483647<=ny a.toInt b.toInt)&&decide (ny a.toInt b.toInt<=2147483647)then(⟨Int64.ofInt (ny a.toInt b.toInt),1⟩,0)else(cd,3));by_cases o:b.toInt=0
  ·rw[o];rfl
  ·rw[WK o];simp only[UQ,Bool.and_false];have J:∀x y:Int64,0<y.toInt->-2147483647<=x.toInt->x.toInt<=2147483647->ny a.toInt b.toInt=x.toInt / y.toInt->Fi N x y=some (bif decide (-2147483647<=ny a.toInt b.toInt)&&decide (ny a.toInt b.toInt<=2147483647)then(⟨Int64.ofInt (ny a.toInt b.toInt),1⟩,0)else(cd,3)):=λx y q C E w=>by
     unfold Fi;obtain⟨F,G,H,K⟩:=Qm (n:=x.toInt) (d:=y.toInt) (B:=2147483647) q (by decide) (by omega) (by omega);rw[MN N x y q (by omega) (by omega),re,w];exact c _ _ (kh (by omega) (by omega))
   by_cases i:b.toInt<0;{have j:(-a).toInt= -a.toInt:=sY (by omega);have r:(-b).toInt= -b.toInt:=sY (by omega);rw[dO i];exact J _ _ (by rw[r];omega) (by rw[j];omega) (by rw[j];omega) (by unfold ny;rw[dO i,j,r];rfl)};{rw[Zx i];exact J _ _ (by omega) (by omega) (by omega) (by unfold ny;rw[Zx i];rfl)}
 ·exact c _ _ (sY (by omega))
def qW(N:Nat)(a:2147483648<N)(v:aA):n7 N v=some (dE vp v):=by
 unfold n7;have h:=su N a vp v Ro;have b:nR N ⟨1,0,0,0,0⟩ v=some (dE vp v):=h;rw[b];rfl
def ab2(N:Nat)(v:Int64):EW N v=some ((v.toInt.natAbs:Nat):Int):=by
 unfold EW;have c:=lR v;by_cases h:v.toInt<0
 ·have a:(v+(1:Int64)).toInt=v.toInt+1:=by rw[wc]<;>rw[show(1:Int64).toInt=1 from rfl]<;>omega
  have b:(-(v+(1:Int64))).toInt= -(v.toInt+1):=by rw[sY]<;>rw[a];omega
  rw[dO h,b];simp only[V1,mg]
  congr 1
  omega
 ·rw[Zx h];simp only[UQ,mg]
  congr 1
  omega
def aer(N:Nat):∀(k a b:Nat),b<k->IT N k (a:Int) (b:Int)=some ((Nat.gcd a b:Nat):Int)
 |0,a,b,h=>absurd h (Z5 _)
 |k+1,a,b,h=>by
  rw[IT];by_cases c:b=0;{subst c;simp};{rw[show(((b:Nat):Int) !=0)=true by rw[Vr];omega];simp only[V1];rw[<-Int.ofNat_tmod,aer N k b (a%b) (by have:=Nat.mod_lt a (Nat.pos_of_ne_zero c);omega),Nat.gcd_comm a b,Nat.gcd_rec b a,Nat.gcd_comm]}
def HS(N:Nat)(e:9223372036854775808<N)(n d:Int64):xt N n d=some (kF n.toInt d.toInt):=by
 have h:=Bw N e n d;unfold tT g_frac_gcd at h;rw[Em,Em]at h;unfold xt Sg UN;rw[ab2,ab2];have f:=lR d;by_cases a:d.toInt=0;{rw[a]at h ⊢;exact h}
 ·rw[WK a]at h ⊢;simp only[UQ,re]at h ⊢;rw[Mi N N _ _ (by omega)]at h;rw[aer N N _ _ (by omega)];simp only[re]at h ⊢;have g:0<Nat.gcd n.toInt.natAbs d.toInt.natAbs:=Nat.gcd_pos_of_pos_right _ (by omega);rw[show(((Nat.gcd n.toInt.natAbs d.toInt.natAbs:Nat):Int) !=0)=true by rw[Vr];omega]at h ⊢;simp only[V1]at h ⊢;rw[kJ,re]at h ⊢;cases b:(decide (u64.wrap (((n.toInt.natAbs:Nat):Int).tdiv ((Nat.gcd n.toInt.natAbs d.toInt.natAbs:Nat):Int))>2147483647)||decide (u64.wrap (((d.toInt.natAbs:Nat):Int).tdiv ((Nat.gcd n.toInt.natAbs d.toInt.natAbs:Nat):Int))>2147483647))with
  |true=>rw[b]at h;exact h
  |false=>
   rw[b]at h;simp only[UQ]at h ⊢;cases c:(decide (n.toInt<0)==decide (d.toInt<0))with
   |true=>rw[c]at h;exact h
   |false=>rw[c]at h;exact h
def apL{N:Nat}(c:9223372036854775808<N){a b:aA}(A:im a)(B:im b):OF N a b=some (kF (a.xN.toInt*b.xD.toInt+b.xN.toInt*a.xD.toInt) (a.xD.toInt*b.xD.toInt)):=by
 unfold OF;rw[qW N (by omega),qW N (by omega),A.ok,B.ok,HS N c,aeu A B,ky A.d0 A.d2 B.d0 B.d2];rfl
def ami{N:Nat}(c:9223372036854775808<N){a b:aA}(A:im a)(B:im b):KQ N a b=some (kF (a.xN.toInt*b.xD.toInt-b.xN.toInt*a.xD.toInt) (a.xD.toInt*b.xD.toInt)):=by
 unfold KQ;rw[qW N (by omega),qW N (by omega),A.ok,B.ok,HS N c,aai A B,ky A.d0 A.d2 B.d0 B.d2];rfl
def ajs{N:Nat}(c:9223372036854775808<N){a b:aA}(A:im a)(B:im b):Nj N a b=some (kF (a.xN.toInt*b.xN.toInt) (a.xD.toInt*b.xD.toInt)):=by
 unfold Nj;rw[qW N (by omega),qW N (by omega),A.ok,B.ok,HS N c,ky A.n1 A.n2 B.n1 B.n2,ky A.d0 A.d2 B.d0 B.d2];rfl
def aqj{N:Nat}(c:9223372036854775808<N){a b:aA}(A:im a)(B:im b):Kg N a b=some (kF (a.xN.toInt*b.xD.toInt) (a.xD.toInt*b.xN.toInt)):=by
 unfold Kg;rw[qW N (by omega),qW N (by omega),A.ok,B.ok,HS N c,ky A.n1 A.n2 B.d0 B.d2,ky A.d0 A.d2 B.n1 B.n2];rfl
def aoQ{N:Nat}(b:2147483648<N){a:aA}(A:im a):M3 N a=some ⟨-a.xN,a.xD⟩:=by
 unfold M3;rw[qW N b,A.ok];rfl
def aqi(N:Nat)(a b:Int64):Ca N a b=some (ub a.toInt b.toInt):=by
 unfold Ca ub;cases decide (a.toInt<b.toInt);{cases decide (a.toInt>b.toInt)<;>rfl};{rfl}
def xz{t:aL}{v:aA}(c:dA t=true)(b:dE t v=true):im v:=by
 by_cases a:t.bA=2;{have F:=lU c a;have A:=mT b a;have B:=rQ F A;have d:=A.d;exact⟨by omega,by omega,by omega,by omega,by rw[d];exact Nat.gcd_one_right _⟩};{exact qH b a}
def SB(N:Nat)(e:2147483648<N)(t:aL)(a b:aA):Gl N t a b=some (lf t a b):=by
 unfold Gl OI lf;rw[tb];cases c:dA t with
 |false=>rfl
 |true=>
  simp only[re,V1];rw[su N e t a c,su N e t b c];cases g:dE t a with
  |false=>rfl
  |true=>
   cases i:dE t b with
   |false=>rfl
   |true=>
    have A:=xz c g;have B:=xz c i;simp only[re,V1,Wh,UQ,Bool.and_self];unfold Q3;rw[qW N e,qW N e,A.ok,B.ok];simp only[re,V1];rw[aqi,ky A.n1 A.n2 B.d0 B.d2,ky B.n1 B.n2 A.d0 A.d2];cases f:t.bA==1 with
    |true=>rfl
    |false=>
     have j:a.xD.toInt=1:=by
      rcases kinds c with h|h|h
      ·rw[h]at f;cases f
      ·exact(mT g h).d
      ·exact FO g h
     have k:b.xD.toInt=1:=by
      rcases kinds c with h|h|h
      ·rw[h]at f;cases f
      ·exact(mT i h).d
      ·exact FO i h
     rw[j,k,Int.mul_one,Int.mul_one];rfl
def TF(N:Nat)(i:9223372036854775808<N)(c:Int)(t:aL)(a b:aA):DM N c t a b=some (mn c t a b):=by
 have j:2147483648<N:=Nat.lt_trans (by decide) i;unfold DM mn;rw[kJ,re,tb,re];by_cases o:c<4;{rw[dO o];rfl}
 by_cases x:c<=10
 ·rw[Zx o,Zx (show ¬c>10 by omega)];simp only[Bool.or_self,UQ];cases d:dA t with
  |false=>rfl
  |true=>
   simp only[V1,Wh,UQ];rw[su N j t a d,su N j t b d];cases l:dE t a with
   |false=>rfl
   |true=>
    have A:=xz d l;simp only[re,V1,Wh,ai];rw[yU,ij,re];have v:(!(c==8)&& !dE t b)=false->c≠8->dE t b=true:=λh k=>by
     rw[WK k]at h
     simpa using h
    cases w:(!(c==8)&& !dE t b)with
    |true=>rfl
    |false=>
     have f:=v w;simp only[UQ];rw[kJ,re];by_cases q:c=9;{subst q;rw[SB N j t a b];simp only[Ys,Bool.true_or,V1,re];cases decide (lf t a b>0)<;>rfl}
     ·by_cases r:c=10
      ·subst r;have f:=f (by decide);rw[SB N j t a b,show((10:Int)==9)=false from rfl,show((10:Int)==10)=true from rfl];simp only[Bool.or_true,V1,re,UQ];by_cases n:lf t a b>0
       ·rw[dO n,Zx (show ¬lf t a b<0 by omega)];rfl
       ·by_cases u:lf t a b<0
        ·rw[Zx n,dO u];rfl
        ·have e:=apS d l f (by omega);subst e;rw[Zx n,Zx u];rfl
      ·rw[WK q,WK r];simp only[Bool.or_self,UQ];rcases kinds d with g|g|g
       ·rw[g,show((1:Int)==2)=false from rfl,show((1:Int)==3)=false from rfl];simp only[UQ];unfold yJ;rcases (by omega:c=4\/c=5\/c=6\/c=7\/c=8)with rfl|rfl|rfl|rfl|rfl
        ·have B:=xz d (f (by decide));rw[apL i A B];rfl
        ·have B:=xz d (f (by decide));rw[ami i A B];rfl
        ·have B:=xz d (f (by decide));rw[ajs i A B];rfl
        ·have B:=xz d (f (by decide));rw[aqj i A B];rfl
        ·rw[aoQ j A];rfl
       ·rw[g,show((2:Int)==2)=true from rfl];simp only[V1];rw[ak4 N (lU d g) (mT l g) λk=>mT (f k) g];rfl
       ·rw[g,show((3:Int)==2)=false from rfl,show((3:Int)==3)=true from rfl];simp only[V1,UQ];rw[aox N A.n1 A.n2 (λk=>by have B:=xz d (f k);exact⟨B.n1,B.n2⟩) (by omega)];rfl
 ·rw[dO (show c>10 by omega),Bool.or_true];rfl
def apg(N:Nat)(a:9223372036854775808<N){t:aL}{v:aA}(b:dA t=true):Pw N t v=some (nq t v):=by
 unfold Pw J2 nq;cases c:t.bA==2 with
 |false=>rfl
 |true=>
  have F:=lU b (by simpa using c);simp only[V1];rw[Mm N F,re,HS N a,Uq F];rfl
def ao9(N:Nat)(f:9223372036854775808<N)(t u:aL)(v:aA):Kz N t u v=some (Ce t u v):=by
 have h:2147483648<N:=Nat.lt_trans (by decide) f;unfold Kz Ce;rw[tb,tb];cases b:dA t with
 |false=>rfl
 |true=>
  cases g:dA u with
  |false=>rfl
  |true=>
   simp only[re,V1,UQ,Wh,Bool.or_self];rw[su N h t v b];cases i:dE t v with
   |false=>rfl
   |true=>
    simp only[re,V1,Wh,UQ];have V:=afH b i;have j:=V.n1;have k:=V.n2;have l:=V.d1;have o:=V.d2;rw[apg N f b,re];rcases kinds g with a|a|a
    ·rw[a];rfl
    ·have F:=lU g a;have S:=GH F;have s:=Uq F;have M:=ym j k (show-1073741824<=hY u by omega) S.2;have e:((nq t v).xN*Int64.ofInt (hY u)).toInt=(nq t v).xN.toInt*hY u:=by rw[sQ]<;>rw[s]<;>omega
     rw[a,show((2:Int)==3)=false from rfl,show((2:Int)==2)=true from rfl];simp only[V1,UQ];rw[Mm N F,re,Qd N _ _ _ (by omega) (by omega) (by rw[e];omega) (by rw[e];omega),re,e];have r:=NO (n:=(nq t v).xN.toInt*hY u) (d:=(nq t v).xD.toInt) (how:=u.cr) (B:=4611686018427387904) (by omega) (by decide) (by omega) (by omega);have c:=yr (n:=(nq t v).xN.toInt*hY u) (d:=(nq t v).xD.toInt) (how:=u.cr) (by omega) (by omega) (by omega);rw[AT N F _ (by rw[c];omega) (by rw[c];omega),c];rfl
    ·rw[a,show((3:Int)==3)=true from rfl];simp only[V1];rw[MN N _ _ (by omega) (by omega) (by omega)];rfl
def uj(d:I Int):Bool:=decide (d.length<=6)&&(d.all (λn=>decide (1<=n))&&decide (d.foldl (·*·) 1<=4096))
def aeq{d:I Int}:d.all (λn=>decide (1<=n))=true↔∀n∈d,1<=n:=by rw[Zb];simp
def N9(d:I Int)(a:Int):d.foldl (·*·) a=a*d.foldl (·*·) 1:=by
 induction d generalizing a with
 |nil=>simp
 |cons x d b=>rw[List.foldl_cons,List.foldl_cons,b (a*x),b (1*x),ao,ab]
def vN{d:I Int}(h:∀n∈d,1<=n):1<=d.foldl (·*·) 1:=by
 induction d with
 |nil=>simp
 |cons x d a=>
  rw[List.foldl_cons,ao,N9];have b:=h x Zl;have c:=a λn e=>h n (Zg _ e);have:=ah b c (by decide) (by omega);omega
def wy{n:Int}(h1: -9223372036854775808<=n)(a:n<=9223372036854775807):aE n=n:=by unfold aE;rw[b6];omega
def arK{s n:Int}(a:1<=s)(b:s<=4096):decide (n>i64.wrap ((4096:Int).tdiv s))=decide (4096<s*n):=by
 have e:(4096:Int).tdiv s=4096 / s:=a7 (by decide);have c:0<=4096/ s:=Int.ediv_nonneg (by decide) (by omega);have d:(4096:Int)/ s<=4096:=Int.ediv_le_self s (by decide);rw[e,show i64.wrap ((4096:Int)/ s)=4096 / s from wy (by omega) (by omega)];refine decide_eq_decide.2 ?_;rw[gt_iff_lt,Int.ediv_lt_iff_lt_mul (by omega),Int.mul_comm]
def aaa(N:Nat):∀(d:I Int)(k:Nat)(s:Int),1<=s->s<=4096->(∀n∈d,1<=n)->xc N d k s=some (bif decide (d.foldl (·*·) s<=4096)then 0 else 2)
 |[],k,s,a,b,h=>by unfold xc;rw[List.foldl_nil,dO b];rfl
 |n::d,k,s,a,b,h=>by
  unfold xc;rw[show(s !=0)=true by rw[Vr];omega,V1,arK a b,List.foldl_cons];have f:=h n Zl;have c:∀m∈d,1<=m:=λm g=>h m (Zg _ g);have i:1<=s*n:=by have:=ah a f (by decide) (by omega);omega
  by_cases e:4096<s*n
  ·rw[dO e,V1,Zx]
   ·rfl
   ·rw[N9];have:=ah (Int.le_refl (s*n)) (vN c) (by decide) (by omega);omega
  ·rw[Zx e,UQ,wy (by omega) (by omega)];exact aaa N d (k+1) (s*n) i (by omega) c
def abK(N:Nat)(v:I Int):∀(d:I Int)(k:Nat),(v=d\/True)->zM N v d k=bif d.all (λn=>decide (1<=n))then xc N v 0 1 else some 1
 |[],k,_=>rfl
 |n::d,k,_=>by
  unfold zM;rw[Z4,abK N v d (k+1) (.inr trivial)];by_cases h:n<1;{rw[dO h,Zx (show ¬1<=n by omega)];rfl};{rw[Zx h,dO (show 1<=n by omega)];rfl}
def Ri(N:Nat)(d:I Int):∃e,xQ N d=some e/\(e !=0)= !uj d:=by
 unfold xQ uj;by_cases h:d.length<=6
 ·rw[Zx (show ¬(d.length:Int)>6 by omega),UQ,dO h,YJ,abK N d d 0 (.inr trivial)];cases a:d.all (λn=>decide (1<=n))with
  |false=>exact⟨1,rfl,rfl⟩
  |true=>
   rw[V1,aaa N d 0 1 (by decide) (by decide) (aeq.1 a),YJ];refine⟨_,rfl,?_⟩;cases decide (d.foldl (·*·) 1<=4096)<;>rfl
 ·rw[dO (show(d.length:Int)>6 by omega),Zx h];exact⟨2,rfl,rfl⟩
def afG(N:Nat):∀(d:I Int)(k:Nat)(s:Int),Pc N d k s=xc N d k s
 |[],k,s=>rfl
 |n::d,k,s=>by unfold Pc xc;simp only[afG N d (k+1)]
def aep(N:Nat)(v:I Int):∀(d:I Int)(k:Nat),Es N v d k=zM N v d k
 |[],k=>by unfold Es zM;exact afG N v 0 1
 |n::d,k=>by unfold Es zM;rw[aep N v d (k+1)]
def an4(N:Nat)(d:I Int):Pp N d=xQ N d:=by
 unfold Pp xQ;rw[aep]
def R7(N:Nat):∀(d:I Int)(k:Nat)(s:Int),1<=s->(∀n∈d,1<=n)->d.foldl (·*·) s<=4096->A9 N d k s=some (d.foldl (·*·) s)
 |[],k,s,_,_,_=>rfl
 |n::d,k,s,c,h,a=>by
  unfold A9;rw[List.foldl_cons]at a ⊢;have e:=h n Zl;have b:∀m∈d,1<=m:=λm f=>h m (Zg _ f);have g:1<=s*n:=by have:=ah c e (by decide) (by omega);omega
  have i:s*n<=4096:=by
   rw[N9]at a;have:=ah (Int.le_refl (s*n)) (vN b) (by decide) (by omega);omega
  simp only;rw[wy (by omega) (by omega)];exact R7 N d (k+1) (s*n) g b a
def aeo(N:Nat):∀(d:I Int)(k:Nat)(s:Int),Pd N d k s=A9 N d k s
 |[],k,s=>rfl
 |n::d,k,s=>by unfold Pd A9;exact aeo N d (k+1) _
structure adt(d:List Int):Prop where
 len:d.length<=6
 pos:∀n∈d,1<=n
 le:d.foldl (·*·) 1<=4096
def Iv{d:I Int}(h:uj d=true):adt d:=by
 unfold uj at h;simp only[Zo,VX]at h;exact⟨h.1,aeq.1 h.2.1,h.2.2⟩
def ase(N:Nat){d:I Int}(h:uj d=true):O4 N d=some (d.foldl (·*·) 1):=by
 obtain⟨e,a,b⟩:=Ri N d;unfold O4;rw[a,re,b,h];exact R7 N d 0 1 (by decide) (Iv h).pos (Iv h).le
def as2(N:Nat){d:I Int}(h:uj d=true):NT N d=some (d.foldl (·*·) 1):=by
 unfold NT;rw[aeo];exact R7 N d 0 1 (by decide) (Iv h).pos (Iv h).le
def mq(t:bk):Bool:=dA t.aH&&(uj t.aQ&&(((t.eF.length:Int)==t.aQ.foldl (·*·) 1)&&t.eF.all (dE t.aH)))
def ael(N:Nat)(a:2147483648<N)(t:bk)(b:dA t.aH=true):∀(l:I aA)(k:Nat),Lc N t l k=some (bif l.all (dE t.aH)then 0 else 1)
 |[],k=>rfl
 |v::l,k=>by
  unfold Lc;rw[qS N a _ _ b,re,Z4];cases dE t.aH v with
  |true=>rw[V1,ael N a t b l (k+1),YJ]
  |false=>rfl
def aeQ(N:Nat)(a:2147483648<N)(t:bk)(b:dA t.aH=true):∀(l:I aA)(k:Nat),JM N t l k=some (bif l.all (dE t.aH)then 0 else 1)
 |[],k=>rfl
 |v::l,k=>by
  unfold JM;rw[su N a _ _ b,re,Z4];cases dE t.aH v with
  |true=>rw[V1,aeQ N a t b l (k+1),YJ]
  |false=>rfl
def aax(N:Nat)(d:2147483648<N)(t:bk):∃e,Ef N t=some e/\(e !=0)= !mq t:=by
 unfold Ef mq;rw[rH,re];cases f:dA t.aH with
 |false=>exact⟨10,rfl,rfl⟩
 |true=>
  rw[V1,show((0:Int) !=0)=false from rfl,UQ,YJ];obtain⟨e,g,a⟩:=Ri N t.aQ;rw[g,re,a];cases b:uj t.aQ with
  |false=>
   refine⟨e,rfl,?_⟩;rw[a,b];rfl
  |true=>
   rw[Wh,UQ,ase N b,re,YJ];cases c:((t.eF.length:Int)==t.aQ.foldl (·*·) 1)with
   |false=>
    refine⟨1,?_,rfl⟩;rw[show((t.eF.length:Int) !=t.aQ.foldl (·*·) 1)=true by unfold bne;rw[c];rfl];rfl
   |true=>
    rw[show((t.eF.length:Int) !=t.aQ.foldl (·*·) 1)=false by unfold bne;rw[c];rfl,UQ,ael N d t f];refine⟨_,rfl,?_⟩;rw[YJ];cases t.eF.all (dE t.aH)<;>rfl
def aek(N:Nat)(d:2147483648<N)(t:bk):∃e,FL N t=some e/\(e !=0)= !mq t:=by
 unfold FL mq;rw[tb,re];cases f:dA t.aH with
 |false=>exact⟨10,rfl,rfl⟩
 |true=>
  rw[V1,YJ];obtain⟨e,g,a⟩:=Ri N t.aQ;rw[an4,g,re,a];cases b:uj t.aQ with
  |false=>
   refine⟨e,rfl,?_⟩;rw[a,b];rfl
  |true=>
   rw[Wh,UQ,as2 N b,re,YJ];cases c:((t.eF.length:Int)==t.aQ.foldl (·*·) 1)with
   |false=>
    refine⟨1,?_,rfl⟩;rw[show((t.eF.length:Int) !=t.aQ.foldl (·*·) 1)=true by unfold bne;rw[c];rfl];rfl
   |true=>
    rw[show((t.eF.length:Int) !=t.aQ.foldl (·*·) 1)=false by unfold bne;rw[c];rfl,UQ,aeQ N d t f];refine⟨_,rfl,?_⟩;rw[YJ];cases t.eF.all (dE t.aH)<;>rfl
def jW:I aR->so->U bk
 |[],_=>none
 |x::r,s=>bif bL x.aC==bL s then some x.iH else jW r s
def ado:∀{l:I aR}{s:so}{t:bk},jW l s=some t->∃x∈l,x.iH=t/\bL x.aC=bL s
 |[],s,t,h=>by cases h
 |x::r,s,t,h=>by
  unfold jW at h;cases a:(bL x.aC==bL s)with
  |true=>rw[a]at h;cases h;exact⟨x,Zl,rfl,by simpa using a⟩
  |false=>
   rw[a]at h;obtain⟨y,b,c⟩:=ado (l:=r) h;exact⟨y,Zg _ b,c⟩
def aeh(N:Nat)(s:so):∀(l:I aR)(k:Nat),(jW l s=none->Dj N s l k=some (-1))/\(∀t,jW l s=some t->∃i x,Dj N s l k=some ((k+i:Nat):Int)/\l[i]?=some x/\x.iH=t)
 |[],k=>⟨λ_=>rfl,λv h=>by cases h⟩
 |b::r,k=>by
  obtain⟨a,d⟩:=aeh N s r (k+1);unfold jW Dj UL;simp only[re];cases g:(bL b.aC==bL s)with
  |true=>exact⟨λh=>(by cases h),λv h=>by cases h;exact⟨0,b,rfl,rfl,rfl⟩⟩
  |false=>
   simp only[UQ];refine⟨a,λv h=> ?_⟩;obtain⟨i,c,q1,e,f⟩:=d v h;exact⟨i+1,c,by rw[q1];congr 2;omega,e,f⟩
def adT(N:Nat)(l:I aR)(s:so):zg N l s=some (match jW l s with|none=>(iV,false)|some t=>(t,true)):=by
 obtain⟨b,c⟩:=aeh N s l 0;unfold zg;rw[show Q9 N l s=Dj N s l 0 from rfl];cases a:jW l s with
 |none=>rw[b a];rfl
 |some t=>
  obtain⟨i,x,q1,d,e⟩:=c t a;rw[q1,re,ZJ,Zx (by omega),UQ,dO (by omega),V1,ZB,d,re,e]
def adw(N:Nat)(s:so):∀(l:I aR)(k:Nat),Ow N s l k=some (match jW l s with|none=>(iV,false)|some t=>(t,true))
 |[],k=>rfl
 |x::r,k=>by
  unfold Ow jW;cases a:(bL x.aC==bL s)with
  |true=>rfl
  |false=>exact adw N s r (k+1)
def aea(N:Nat)(l:I aR)(s:so):PC N l s=some (match jW l s with|none=>(iV,false)|some t=>(t,true)):=adw N s l 0
def na(mem:I aR)(s:so):Except Int bk:=match jW mem s with
 |none=>.error 9
 |some t=>bif mq t then .ok t else .error 1
def aaI(N:Nat)(a:2147483648<N)(mem:I aR)(s:so):Jj N mem s=some (match na mem s with| .ok t=>(t,0)| .error e=>(iV,e)):=by
 unfold Jj na;rw[aea,re];cases jW mem s with
 |none=>rfl
 |some t=>
  simp only[V1];obtain⟨e,b,c⟩:=aek N a t;rw[b,re,c];cases mq t<;>rfl
def tJ(e:ay):Prop:=∀x∈dR e,qh x=true/\qn x=true
def tJ.arg{e x:ay}(h:tJ e)(a:x∈e.bS):tJ x:=λy b=>h y (Js a b)
def tJ.len{e:ay}(h:tJ e):(e.bS.length:Int)=px e.aD:=by
 have:=(h e Zl).1;unfold qh at this;rw[Zo,Ve]at this;exact this.1
def tJ.op{e:ay}(h:tJ e):1<=e.aD/\e.aD<=18:=by
 have:=(h e Zl).2;unfold qn at this;simp only[Zo,VX]at this;exact⟨this.1,this.2.1⟩
def aeV:∀l:I ay,mC l=0->∀x∈l,om x=0
 |[],_,x,a=>by cases a
 |y::l,h,x,a=>by
  rw[mC]at h;cases e:om y !=0 with
  |true=>rw[e,V1]at h;rw[h]at e;cases e
  |false=>
   rw[e,UQ]at h;rcases ZY.1 a with rfl|a
   ·exact ku e
   ·exact aeV l h x a
def RH{e:ay}(h:nU e=0):∀x∈dR e,om x=0:=λx c=>by
 unfold nU at h;cases a:decide (40<j7 40 e)with
 |true=>rw[a]at h;cases h
 |false=>
  cases b:decide (2000<(dR e).length)with
  |true=>rw[a,b]at h;cases h
  |false=>rw[a,b]at h;exact aeV (dR e) h x c
def VH{x:ay}(h:om x=0):qn x=true/\uh x=true/\qh x=true/\po x=true/\wU x=true:=by
 unfold om at h;cases p:qn x<;>cases q:uh x<;>cases r:qh x<;>cases s:po x<;>cases t:wU x<;>rw[p,q,r,s,t]at h<;>first|exact⟨rfl,rfl,rfl,rfl,rfl⟩|(exact absurd h (by decide))
def aoF{e:ay}(h:nU e=0):tJ e:=λx a=>⟨(VH (RH h x a)).2.2.1,(VH (RH h x a)).1⟩
section
variable {α:Type}
def asM{l:I α}(h:(l.length:Int)=1):∃a,l=[a]:=by
 match l,h with
 |[a],_=>exact⟨a,rfl⟩
 |[],h=>simp at h
 |a::b::l,h=>simp at h;omega
def asv{l:I α}(h:(l.length:Int)=2):∃a b,l=[a,b]:=by
 match l,h with
 |[a,b],_=>exact⟨a,b,rfl⟩
 |[],h=>simp at h
 |[a],h=>simp at h
 |a::b::c::l,h=>simp at h;omega
def akB{l:I α}(h:(l.length:Int)=3):∃a b c,l=[a,b,c]:=by
 match l,h with
 |[a,b,c],_=>exact⟨a,b,c,rfl⟩
 |[],h=>simp at h
 |[a],h=>simp at h
 |[a,b],h=>simp at h
 |a::b::c::d::l,h=>simp at h;omega
end
def Ai(a b:U (aL×Int)):Prop:=∃t c x,a=some (t,x)/\b=some (c,x)/\(x=0->t=c)
def aeT{α:Type}(f:α->Int)(x:α):gY f [x]=f x:=by
 rw[gY,gY];cases e:f x !=0 with
 |true=>rfl
 |false=>exact(ku e).symm
def aqg{a:Int}(h1:1<=a)(b:a<=18):(a=1\/a=2\/a=3\/a=8\/a=11\/a=12)\/(a=4\/a=5\/a=6\/a=7\/a=9\/a=10)\/(a=13\/a=14\/a=15)\/(a=16\/a=17\/a=18):=by omega
section
variable {N:Nat} {m:I (so×Int)} {vars:I so} {p p':bo}
def ake(g:VN m (vars++p'.bG))(l:p.bu=p'.bu)(i:p.aM=p'.aM)(n:mu p.bu)(j:hX p.aM)(e:ay)(h1:1<=e.aD)(o:e.aD<=18)(d:I aL)(f:(d.length:Int)=px e.aD)
 (q:ay->bo->I (so×Int)->U (aL×Int)) (r:bo->I so->ay->U (aL×Int)) (k:Nat):
 Ai (An N e p m q [] k d) (pP N e p' vars r [] k d):=by
 rw[An,pP];unfold Lm GO GK I6;rcases aqg h1 o with(h|h|h|h|h|h)|(h|h|h|h|h|h)|(h|h|h)|(h|h|h)
 ·rw[h];exact⟨_,_,_,rfl,rfl,λ_=>rfl⟩
 ·rw[h,Rb N g,QX,aeT];exact⟨_,_,_,rfl,rfl,λ_=>rfl⟩
 ·rw[h,aiV N g p n j,acH N vars p' (i▸j),l,i];exact⟨_,_,_,rfl,rfl,λ_=>rfl⟩
 ·rw[h]at f;obtain⟨a,rfl⟩:=asM f;rw[h];exact⟨_,_,_,rfl,rfl,λ_=>rfl⟩
 ·rw[h]at f;obtain⟨a,b,c,rfl⟩:=akB f;rw[h];show Ai (Option.bind (bif _ then _ else _) _) (bif _ then _ else _);cases ((b.bA==c.bA)&&((b.bU==c.bU)&&((b.ck==c.ck)&&((b.cr==c.cr)&&((b.cC==c.cC)&&true)))))with
  |true=>exact⟨_,_,_,rfl,rfl,λ_=>rfl⟩
  |false=>exact⟨_,_,_,rfl,rfl,λh=>by cases h⟩
 ·rw[h];exact⟨_,_,_,rfl,rfl,λ_=>rfl⟩
 all_goals first
  |(rw[h];exact⟨_,_,_,rfl,rfl,λ_=>rfl⟩)
  |(rw[h]at f
    obtain⟨a,b,rfl⟩:=asv f;rw[h];show Ai (Option.bind (bif _ then _ else _) _) (bif _ then _ else _);cases ((a.bA==b.bA)&&((a.bU==b.bU)&&((a.ck==b.ck)&&((a.cr==b.cr)&&((a.cC==b.cC)&&true)))))with
    |true=>exact⟨_,_,_,rfl,rfl,λ_=>rfl⟩
    |false=>exact⟨_,_,_,rfl,rfl,λh=>by cases h⟩)
def afr(e:ay)(c:ay->bo->I (so×Int)->U (aL×Int))(d:bo->I so->ay->U (aL×Int)):
 ∀(l:I ay)(k:Nat)(a:I aL),a.length+l.length<=1000000000->(∀x∈l,Ai (c x p m) (d p' vars x))->
  (∀(b:I aL)(f:Nat),b.length=a.length+l.length->Ai (An N e p m c [] f b) (pP N e p' vars d [] f b))->
  Ai (An N e p m c l k a) (pP N e p' vars d l k a)
 |[],k,a,_,_,g=>g a k rfl
 |x::l,k,a,i,h,g=>by
  rw[An,pP];obtain⟨t,u,z,j,n,o⟩:=h x Zl;rw[j,n,re,re];dsimp only;cases q:z !=0 with
  |true=>exact⟨_,_,_,rfl,rfl,λ_=>rfl⟩
  |false=>
   obtain rfl:=o (ku q);simp only[Zi]at i;rw[fq (by omega)];exact afr e c d l (k+1) (a++[t]) (by simp only[Zj,Zi,Zc];omega) (λy r=>h y (Zg _ r)) λb f v=>g b f (by simp only[Zj,Zi,Zc]at*;omega)
def ab1(c:VN m (vars++p'.bG))(f:p.bu=p'.bu)(g:p.aM=p'.aM)(i:mu p.bu)(j:hX p.aM):
 ∀(d:Nat)(e:ay),SizeOf.sizeOf e<d->tJ e->Ai (yu N d e p m) (tQ N d p' vars e)
 |0,_,h,_=>absurd h (Z5 _)
 |d+1,e,h,b=>by
  rw[yu,tQ];have a:=b.len;have q:(e.bS.length:Int)<=3:=by
    rw[a];unfold px;cases (e.aD==1||(e.aD==2||e.aD==3))<;>cases (e.aD==8||(e.aD==12||e.aD==18))<;>cases e.aD==11<;>decide
  refine afr e _ _ e.bS 0 [] (by simp only[Zc];omega) (λx k=>ab1 c f g i j d x (by have:=vi k;omega) (b.arg k)) λl n o=> ?_;exact ake c f g i j e b.op.1 b.op.2 l (by rw[o,<-a];simp only[Zc,ZJ]) _ _ n
end
def aqN{m:I (so×Int)}{V W:I so}(h:VN m V)(e:∀s,dw W s=dw V s)(a:V.length<=W.length):VN m W:=⟨λs=>by rw[h.val,e],Za h.len a⟩
def acP(N:Nat)(e:ay)(p:bo):∀(l:I so)(k:Nat)(m:I (so×Int))(V:I so),VN m V->V.length+l.length<1000000000->∃a b,VN a (V++l)/\yi N e p l k m=yi N e p [] b a
 |[],k,m,V,h,_=>⟨m,k,by rw[ZV];exact h,rfl⟩
 |s::l,k,m,V,h,d=>by
  simp only[Zi]at d;rw[yi,show Nat.blt m.length 9223372036854775807=true from WS (by have:=h.len;omega),V1];obtain⟨a,b,c,f⟩:=acP N e p l (k+1) _ _ (h.add s 3 rfl) (by simp only[Zj,Zi,Zc];omega);exact⟨a,b,by rw[ZP]at c;exact c,f⟩
def afl(N:Nat)(e:ay)(p:bo)(vars:I so):∀(l:I so)(k:Nat)(m:I (so×Int))(V:I so),VN m V->V.length+l.length<1000000000->∃a,VN a (V++l)/\N4 N e p vars l k m=yi N e p vars 0 a
 |[],k,m,V,h,_=>⟨m,by rw[ZV];exact h,rfl⟩
 |s::l,k,m,V,h,c=>by
  simp only[Zi]at c;rw[N4,show Nat.blt m.length 9223372036854775807=true from WS (by have:=h.len;omega),V1];obtain⟨a,b,d⟩:=afl N e p vars l (k+1) _ _ (h.add s 1 rfl) (by simp only[Zj,Zi,Zc];omega);exact⟨a,by rw[ZP]at b;exact b,d⟩
def aqL(N:Nat)(c:2147483648<N)(p p':bo)(vars:I so)(e:ay)(d:SizeOf.sizeOf e<N)(h:ov e)(f:p.bG=p'.bG)(g:p.bu=p'.bu)(i:p.aM=p'.aM)(j:mu p.bu)(k:hX p.aM)
 (B:p.bG.length+vars.length<1000000000):∃t x,PN N p vars e=some (t,x)/\wI N p' vars e=some (t,x)/\(x=0->nU e=0):=by
 unfold PN wI;rw[aon N c e h,at6 N c e d h,re,re];cases a:nU e !=0 with
 |true=>exact⟨_,_,rfl,rfl,λb=>b⟩
 |false=>
  have a:=ku a;simp only[UQ];rw[adD,LZ,re,re];cases fi e with
  |true=>exact⟨_,_,rfl,rfl,λb=>by cases b⟩
  |false=>
   simp only[UQ];obtain⟨l,n,o⟩:=afl N e p vars p.bG 0 [] [] ⟨λ_=>rfl,Zr _⟩ (by simp only[Zc];omega);obtain⟨q,C,r,u⟩:=acP N e p vars 0 l _ n (by simp only[Zc,Wo];omega);rw[o,u,yi];have v:VN q (vars++p'.bG):=aqN r (λs=>by rw[Wo,mN,mN,f,Bool.or_comm]) (by rw[f];simp only[Zj,Wo];omega);unfold QU IN;obtain⟨t,E,x,w,y,z⟩:=ab1 (N:=N) v g i j k N e d (aoF a);rw[w,y,re,re];dsimp only;cases A:x !=0 with
   |true=>exact⟨_,_,rfl,rfl,λ_=>a⟩
   |false=>obtain rfl:=z (ku A);exact⟨_,_,rfl,rfl,λ_=>a⟩
def Mb{y:ay}:∀{l:I ay},y∈k8 l->∃x∈l,y∈dR x
 |[],h=>by rw[k8]at h;cases h
 |x::l,h=>by
  rw[vq]at h;rcases ZE.1 h with h|h
  ·exact⟨x,Zl,h⟩
  ·obtain⟨z,a,b⟩:=Mb h;exact⟨z,Zg _ a,b⟩
def ar8{t a:aL}{x:Int}(h:Ay t x=(a,0)):x=0:=congrArg Prod.snd h
def aco(N:Nat)(e:ay)(p:bo)(vars:I so)(rec:bo->I so->ay->U (aL×Int)):
 ∀(l:I ay)(k:Nat)(a:I aL)(t:aL),pP N e p vars rec l k a=some (t,0)->
  (∀x∈l,∃g,rec p vars x=some (g,0))/\∃i j,pP N e p vars rec [] i j=some (t,0)
 |[],k,a,t,h=>⟨λ_ n=>(by cases n),k,a,h⟩
 |x::l,k,a,t,h=>by
  rw[pP]at h;cases c:rec p vars x with
  |none=>rw[c]at h;cases h
  |some q=>
   rw[c,re]at h;cases b:q.2 !=0 with
   |true=>rw[b,V1]at h;rw[(Prod.mk.inj (Zs h)).2]at b;cases b
   |false=>
    rw[b,UQ]at h;cases f:Nat.ble ((a.length+1)*40) 140737488355328 with
    |false=>rw[f]at h;cases h
    |true=>
     rw[f,V1]at h;obtain⟨o,r⟩:=aco N e p vars rec l (k+1) (a++[q.1]) t h;refine⟨λy d=> ?_,r⟩;rcases ZY.1 d with rfl|d
     ·exact⟨q.1,by rw[c,<-ku b]⟩
     ·exact o y d
def aeR(N:Nat)(p:bo)(vars:I so)(g:hX p.aM):∀(d:Nat)(e:ay)(t:aL),tQ N d p vars e=some (t,0)->∀y∈dR e,(y.aD=3->Ak (vars++p.bG) p.bu p.aM y=0)/\(y.aD=2->pY (vars++p.bG) y.bO=0)
 |0,e,t,h=>by cases h
 |d+1,e,t,h=>by
  rw[tQ]at h;obtain⟨i,l,n,b⟩:=aco N e p vars _ _ _ _ _ h;intro y a;rcases ZY.1 a with rfl|a
  ·refine⟨λc=> ?_,λc=> ?_⟩
   ·rw[pP,c,acH N vars p g]at b;exact ar8 (Zs b)
   ·rw[pP,c,QX,aeT]at b;have f:=congrArg Prod.snd (Zs b);exact f
  ·obtain⟨x,j,a⟩:=Mb a;obtain⟨k,f⟩:=i x j;exact aeR N p vars g d x k f y a
def aiJ(N:Nat)(p:bo)(vars:I so)(i:hX p.aM)(e:ay)(t:aL)(h:wI N p vars e=some (t,0)):∀y∈dR e,(y.aD=3->Ak (vars++p.bG) p.bu p.aM y=0)/\(y.aD=2->pY (vars++p.bG) y.bO=0):=by
 unfold wI at h;cases f:H9 N e with
 |none=>rw[f]at h;cases h
 |some a=>
  rw[f,re]at h;cases b:a !=0 with
  |true=>rw[b,V1]at h;rw[(Prod.mk.inj (Zs h)).2]at b;cases b
  |false=>
   rw[b,UQ,LZ,re]at h;cases g:fi e with
   |true=>rw[g]at h;cases h
   |false=>
    rw[g,UQ]at h;cases c:IN N p vars e with
    |none=>rw[c]at h;cases h
    |some q=>
     rw[c,re]at h;cases d:q.2 !=0 with
     |true=>rw[d,V1]at h;rw[(Prod.mk.inj (Zs h)).2]at d;cases d
     |false=>exact aeR N p vars i N e q.1 (by unfold IN at c;rw[c,<-ku d])
structure Bd(N:Nat)(p:bo):Prop where
 s:p.bG.length<=1000
 w:p.dU.length<=1000
 q:p.bu.length<=1000
 d:p.aM.length<=1000
 o:p.dM.length<=1000
 P:mu p.bu
 D:hX p.aM
 W:∀c∈p.dU,ng 1000000000 c.bO
 E:∀d∈p.aM,ov d.cw/\SizeOf.sizeOf d.cw<N
def Ww(d:bZ):I so:=(d.aQ++d.cl).map (·.aC)
structure xo(p:bo)(k:Nat)(d:bZ):Prop where
 par:dw (p.bu.map (·.aC)) d.aC=false
 body:nU d.cw=0
 amm:sZ p.bG [] (d.aQ++d.cl)=0
 reads:∀y∈dR d.cw,y.aD=3->Ak (Ww d++p.bG) p.bu (p.aM.take k) y=0
 Hf:∀y∈dR d.cw,y.aD=2->pY (Ww d++p.bG) y.bO=0
 len:d.aQ.length<=6/\d.cl.length<=6
 ajl:dw ((p.aM.take k).map (·.aC)) d.aC=false
def acB{D:I bZ}(h:hX D)(k:Nat):hX (D.take k):=⟨λd a=>h.len d (List.mem_of_mem_take a),λd a=>h.me d (List.mem_of_mem_take a)⟩
section
variable {N:Nat} {p:bo}
def amq(C:2147483648<N)(B:Bd N p){m:I (so×Int)}{T:I so}{k:Nat}{d:bZ}(h:KN m p.bG T)(c:p.aM[k]?=some d)(M:T.length<=1000000)(F:∀s,dw (p.bu.map (·.aC)++(p.aM.take k).map (·.aC)) s=true->dw T s=true):
 ∃x q,JG N (k:Int) p m=some (x,q)/\wV N p (k:Int) (p.bG++T)=some x/\(x=0->KN q p.bG (T++[d.aC])/\xo p k d):=by
 have f:=Pm c;have G:=B.D.len d f;have b:d.aQ.length+d.cl.length<1000000000:=by omega
 have r:∀x∈d.aQ++d.cl,lk x.eH:=λx H=>(B.D.me d f x H).ok;have Q:=B.s;unfold JG wV;rw[show decide ((0:Int)<=(k:Int))=true from dO (by omega),ZB,c,V1,V1,re,re,
  UD N (by omega) _ 2 p h (by omega),CW N (by omega),re,re,aoY,tb,re,re,zR,zR]
 dsimp only;cases e:jI (p.bG++T) d.aC !=0 with
 |true=>exact⟨_,_,rfl,rfl,λa=>by rw[a]at e;cases e⟩
 |false=>
  have g:=ku e;have u:=h.adb (RZ g).2;rw[g];simp only[UQ,Ys,V1];cases dA d.aH with
  |false=>exact⟨_,_,rfl,rfl,λa=>by cases a⟩
  |true=>
   simp only[V1];rw[show(bif !decide (d.aQ.length<=6)then some true else some !decide (d.cl.length<=6))=some (!(decide (d.aQ.length<=6)&&decide (d.cl.length<=6))) by cases decide (d.aQ.length<=6)<;>cases decide (d.cl.length<=6)<;>rfl,re];cases v:decide (d.aQ.length<=6)&&decide (d.cl.length<=6)with
   |false=>exact⟨_,_,rfl,rfl,λa=>by cases a⟩
   |true=>
    rw[Zo,VX,VX]at v;simp only[V1,Wh,UQ];rw[fq (by omega),fq (by omega),arI N (by omega) d p u r b,at3 N (by omega) _ _ r (by simp only[Zj];omega)];simp only[re,V1,bne_self_eq_false,UQ];cases i:sZ p.bG [] (d.aQ++d.cl) !=0 with
    |true=>exact⟨_,_,rfl,rfl,λa=>by rw[a]at i;cases i⟩
    |false=>
     simp only[UQ];rw[anN,at2,re,re];cases w:vO d !=0 with
     |true=>exact⟨_,_,rfl,rfl,λa=>by rw[a]at w;cases w⟩
     |false=>
      simp only[UQ];have z:k<p.aM.length:=by
       by_cases z:k<p.aM.length;{exact z};{rw[Yz (by omega)]at c;cases c}
      rw[show decide (k<=p.aM.length)=true from dO (by omega),V1,V1,alm N d b,at0 N d b,re,re,Yq];obtain⟨t,x,J,j,K⟩:=aqL N C ⟨p.bG,p.dU,p.bu,p.aM.take k,p.dM⟩ ⟨p.bG,[],p.bu,p.aM.take k,[]⟩ ((d.aQ++d.cl).map (·.aC)) d.cw (B.E d f).2 (B.E d f).1 rfl rfl rfl B.P (acB B.D k)
        (by simp only[Zq,Zj];omega)
      rw[J,j,re,re];dsimp only;cases l:x !=0 with
      |true=>exact⟨_,_,rfl,rfl,λa=>by rw[a]at l;cases l⟩
      |false=>
       have A:=ku l;simp only[UQ];cases ((t.bA==d.aH.bA)&&((t.bU==d.aH.bU)&&((t.ck==d.aH.ck)&&((t.cr==d.aH.cr)&&((t.cC==d.aH.cC)&&true)))))with
       |false=>exact⟨_,_,rfl,rfl,λa=>by cases a⟩
       |true=>
        have n:dw (p.bu.map (·.aC)++(p.aM.take k).map (·.aC)) d.aC=false:=by
         cases L:dw (p.bu.map (·.aC)++(p.aM.take k).map (·.aC)) d.aC with
         |false=>rfl
         |true=>
          have:=(RZ g).2;rw[mN,F _ L,Bool.or_true]at this;cases this
        rw[mN,Yf]at n;rw[A]at j;have tr:=aiJ N _ _ (acB B.D k) d.cw t j;exact⟨_,_,rfl,rfl,λ_=>⟨u,n.1,K A,ku i,λy o=>(tr y o).1,λy o=>(tr y o).2,v,n.2⟩⟩
def Ax(p:bo):Bool:=decide (p.bG.length<=64)&&(decide (p.bu.length<=64)&&(decide (p.aM.length<=64)&&(decide (p.dM.length<=64)&&decide (p.dU.length<=256))))
def alI:PK N p=some (Ax p):=by
 unfold PK Ax;simp only[Mj];rw[show decide (((max (max (max p.bG.length p.bu.length) p.aM.length) p.dM.length:Nat):Int)<=64)=decide (max (max (max p.bG.length p.bu.length) p.aM.length) p.dM.length<=64)from xP _ 64,show decide ((p.dU.length:Int)<=256)=decide (p.dU.length<=256)from xP _ 256];rw[show decide (max (max (max p.bG.length p.bu.length) p.aM.length) p.dM.length<=64)=(decide (p.bG.length<=64)&&(decide (p.bu.length<=64)&&(decide (p.aM.length<=64)&&decide (p.dM.length<=64)))) by
  rw[Bool.eq_iff_iff];simp only[Zo,decide_eq_true_iff];omega]
 cases decide (p.bG.length<=64)<;>cases decide (p.bu.length<=64)<;>cases decide (p.aM.length<=64)<;>cases decide (p.dM.length<=64)<;>rfl
def We:(bif (decide ((p.bG.length:Int)>64))then some true else(bif (decide ((p.bu.length:Int)>64))then some true else(bif (decide ((p.aM.length:Int)>64))then some true else(bif (decide ((p.dM.length:Int)>64))then some true else some (decide ((p.dU.length:Int)>256))))))=some (!Ax p):=by
 unfold Ax;rw[show ∀n:Nat,decide ((n:Int)>64)= !decide (n<=64)from λn=>lZ n 64,show decide ((p.bu.length:Int)>64)= !decide (p.bu.length<=64)from lZ _ 64,show decide ((p.aM.length:Int)>64)= !decide (p.aM.length<=64)from lZ _ 64,show decide ((p.dM.length:Int)>64)= !decide (p.dM.length<=64)from lZ _ 64,show decide ((p.dU.length:Int)>256)= !decide (p.dU.length<=256)from lZ _ 256];cases decide (p.bG.length<=64)<;>cases decide (p.bu.length<=64)<;>cases decide (p.aM.length<=64)<;>cases decide (p.dM.length<=64)<;>rfl
def tB:I so->I so->Int
 |_,[]=>0
 |S,s::l=>bif jI S s !=0 then jI S s else tB (S++[s]) l
def QC(c:16<N):∀(l:I so)(k:Nat)(m:I (so×Int))(S:I so),KN m S []->S.length+l.length<=1000->
 ∃a,KN a (S++l) []/\Pa N p l k m=bif tB S l !=0 then some (0,tB S l)else Hx N p a p.dU 0
 |[],k,m,S,h,_=>⟨m,by rw[ZV];exact h,rfl⟩
 |s::l,k,m,S,h,d=>by
  simp only[Zi]at d;rw[Pa,UD N c s 1 p h (by simp only[Zc];omega),re,ZV,tB];dsimp only;cases e:jI S s !=0 with
  |true=>
   obtain⟨a,b,_⟩:=QC c l k _ _ (h.sb s) (by simp only[Zj,Zi,Zc];omega);refine⟨a,by rw[ZP]at b;exact b,?_⟩;simp only[V1];rw[e];rfl
  |false=>
   rw[ku e];obtain⟨a,b,f⟩:=QC c l (k+1) _ _ (h.sb s) (by simp only[Zj,Zi,Zc];omega);exact⟨a,by rw[ZP]at b;exact b,f⟩
def Wr{α:Type}{L l:I α}{x:α}{k:Nat}(h:L.drop k=x::l):L.take (k+1)=L.take k++[x]:=by
 have:=aY h;rw[List.take_add_one,this];rfl
def xf{α:Type}{L l:I α}{x:α}{k:Nat}(h:L.drop k=x::l):L.drop (k+1)=l:=by
 rw[<-List.drop_drop,h];rfl
def aeL{α:Type}{L l:I α}{x:α}{k:Nat}(h:L.drop k=x::l):k<L.length:=by
 by_cases a:k<L.length;{exact a};{rw[List.drop_eq_nil_of_le (by omega)]at h;cases h}
def JY(a:16<N):∀(l:I so)(k:Nat),p.bG.drop k=l->NI N p l k=some (tB (p.bG.take k) l)
 |[],_,_=>rfl
 |s::l,k,h=>by
  rw[NI,ZB,show decide (k<=p.bG.length)=true from dO (by have:=aeL h;omega),V1,Yq,CW N a,re,tB,JY a l (k+1) (xf h),Wr h];cases jI (p.bG.take k) s !=0<;>rfl
def agv(a:16<N){m:I (so×Int)}(h:KN m p.bG []):∀(l:I iu)(k:Nat),(∀c∈l,ng 1000000000 c.bO)->
 Hx N p m l k=bif gY (λc=>jv p.bG c.bO) l !=0 then some (1,gY (λc=>jv p.bG c.bO) l)else DI N p p.bu 0 2 m
 |[],_,_=>rfl
 |c::l,k,b=>by
  have d:lk c.bO:=(b c Zl).ok;have f:Nz N c p m=some (jv p.bG c.bO):=by
   unfold Nz Vu;rw[Of N a _ d,re,re,UX N a _ p d h];unfold jv;cases jR c.bO<;>rfl
  rw[Hx,f,re,gY,agv a h l (k+1) λy g=>b y (Zg _ g)];cases e:jv p.bG c.bO !=0 with
  |true=>simp only[V1];rw[e];rfl
  |false=>rfl
def KS(a:16<N)(d:p.bG.length<=1000):∀(l:I iu)(k:Nat),(∀c∈l,ng 1000000000 c.bO)->
 HK N p l k=bif gY (λc=>jv p.bG c.bO) l !=0 then some (1,gY (λc=>jv p.bG c.bO) l)else ud N p p.bu 0 p.bG 2
 |[],_,_=>by
  rw[HK,fq (by omega)];rfl
 |c::l,k,b=>by
  rw[HK,Sq N a _ (b c Zl).ok,re,gY,KS a d l (k+1) λy f=>b y (Zg _ f)];cases e:jv p.bG c.bO !=0 with
  |true=>simp only[V1];rw[e];rfl
  |false=>rfl
def aaO(f:16<N)(i:p.bG.length<=1000):∀(l:I fm)(k:Nat)(at_:Int)(m:I (so×Int))(T:I so),KN m p.bG T->mu l->T.length+l.length<=1000->
 (∃a x,x≠0/\DI N p l k at_ m=some (a,x)/\ud N p l k (p.bG++T) at_=some (a,x))\/
 ∃c g,KN g p.bG (T++l.map (·.aC))/\DI N p l k at_ m=Bg N p p.aM 0 c g/\ud N p l k (p.bG++T) at_=qy N p p.aM 0 (p.bG++(T++l.map (·.aC))) c
 |[],k,at_,m,T,h,_,_=>.inr ⟨at_,m,by rw[a6,ZV];exact h,rfl,by rw[a6,ZV];rfl⟩
 |x::l,k,at_,m,T,h,d,j=>by
  simp only[Zi]at j;obtain⟨n,o,q⟩:=ajp N f x p (λy b=>(d.me x Zl y b).ok) h (by omega);rw[DI,ud,o,aae N f x p.bG T (λy b=>(d.me x Zl y b).ok),re,re];dsimp only;cases e:xI p.bG T x !=0 with
  |true=>exact .inl ⟨_,_,λr=>(by rw[r]at e;cases e),rfl,rfl⟩
  |false=>
   simp only[UQ];rw[fq (by simp only[Zj];omega),V1,ZP];have:=aaO f i l (k+1) (aE (at_+1)) n (T++[x.aC]) (q (ku e)) ⟨λy b=>d.len y (Zg _ b),λy b=>d.me y (Zg _ b)⟩ (by simp only[Zj,Zi,Zc];omega);rw[ZP]at this;exact this
def abu(n:2147483648<N)(B:Bd N p):∀(l:I bZ)(k:Nat)(at_:Int)(m:I (so×Int))(T:I so),p.aM.drop k=l->KN m p.bG T->(∀s,dw (p.bu.map (·.aC)++(p.aM.take k).map (·.aC)) s=true->dw T s=true)->T.length+l.length<=10000->
 (∃a x,x≠0/\Bg N p l k at_ m=some (a,x)/\qy N p l k (p.bG++T) at_=some (a,x))\/
 ((∀i d,k<=i->p.aM[i]?=some d->xo p i d)/\∃j o,KN o p.bG (T++l.map (·.aC))/\Bg N p l k at_ m=Jf N o p p.dM 0 j/\qy N p l k (p.bG++T) at_=rD N p p.dM 0 j)
 |[],k,at_,m,T,c,h,_,_=>by
  refine .inr ⟨λi d r f=> ?_,at_,m,by rw[a6,ZV];exact h,rfl,rfl⟩
  ·have:p.aM.length<=k:=by
    by_cases t:p.aM.length<=k;{exact t};{have:=congrArg List.length c;simp at this;omega}
   rw[Yz (by omega)]at f;cases f
 |d::l,k,at_,m,T,c,h,q,u=>by
  simp only[Zi]at u;have b:=B.s;obtain⟨x,v,w,y,z⟩:=amq n B h (aY c) (by omega) q;rw[Bg,qy,w,y,re,re];dsimp only;cases e:x !=0 with
  |true=>exact .inl ⟨_,_,λA=>(by rw[A]at e;cases e),rfl,rfl⟩
  |false=>
   obtain⟨C,E⟩:=z (ku e);simp only[UQ];rw[fq (by simp only[Zj];omega),V1,ZP];have:=abu n B l (k+1) (aE (at_+1)) v (T++[d.aC]) (xf c) C (λs b=>by
    rw[Wr c,ZD,<-ZP,mN]at b;rw[mN];rcases af _ _▸b with b|b
    ·rw[q s b];rfl
    ·rw[show dw [d.aC] s=true from b,Bool.or_true]) (by simp only[Zj,Zi,Zc];omega)
   rw[ZP]at this;rcases this with this|⟨g,this⟩
   ·exact .inl this
   ·refine .inr ⟨λi F r f=> ?_,this⟩;by_cases G:i=k
    ·subst G;rw[aY c]at f;cases f;exact E
    ·exact g i F (by omega) f
def Hp{α:Type}(f:α->so)(s:so):∀l:I α,dw (l.map f) s=(l.find? λx=>bL (f x)==bL s).isSome
 |[]=>rfl
 |x::l=>by
  rw[ZS,List.find?_cons,show dw (f x::l.map f) s=(bL (f x)==bL s||dw (l.map f) s)from Ye,Hp f s l];cases bL (f x)==bL s<;>rfl
def V7(P:I fm)(D:I bZ)(s:so):(ep P D s).2.2=dw (P.map (·.aC)++D.map (·.aC)) s:=by
 unfold ep;rw[mN,Hp,Hp];show _=(_||(D.find? (lX s)).isSome);cases P.find? λx=>bL x.aC==bL s with
 |some x=>rfl
 |none=>cases D.find? (lX s)<;>rfl
def ae8(b:hX p.aM){m:I (so×Int)}(h:KN m p.bG (p.bu.map (·.aC)++p.aM.map (·.aC))):∀(l:I so)(k:Nat)(at_:Int),p.dM.drop k=l->
 ∃a x,Jf N m p l k at_=some (a,x)/\rD N p l k at_=some (a,x)
 |[],_,_,_=>⟨_,_,rfl,rfl⟩
 |s::l,k,at_,c=>by
  rw[Jf,rD,h.ne2,FK N p s b,re,V7,ZB,show decide (k<=p.dM.length)=true from dO (by have:=aeL c;omega),Yq,anH,Db,re,re];cases dw (p.bu.map (·.aC)++p.aM.map (·.aC)) s with
  |false=>exact⟨_,_,rfl,rfl⟩
  |true=>
   cases dw (p.dM.take k) s with
   |true=>exact⟨_,_,rfl,rfl⟩
   |false=>exact ae8 b h l (k+1) (aE (at_+1)) (xf c)
def alB(u:2147483648<N)(B:Bd N p):∃a x,JL N p=some (a,x)/\wm N p=some (a,x)/\(x=0->∀i d,p.aM[i]?=some d->xo p i d):=by
 have n:=B.s;have C:=B.q;have E:=B.d;unfold JL wm Fz;rw[alI,We,re,re];cases Ax p with
 |false=>exact⟨_,_,rfl,rfl,λh=>by cases h⟩
 |true=>
  simp only[V1,Wh,UQ];obtain⟨v,j,b⟩:=QC (N:=N) (p:=p) (by omega) p.bG 0 [] [] KN.nil (by simp only[Zc];omega);rw[Wo]at j;rw[b,JY (by omega) p.bG 0 rfl,re,List.take_zero];cases o:tB [] p.bG !=0 with
  |true=>exact⟨_,_,rfl,rfl,λf=>by rw[f]at o;cases o⟩
  |false=>
   simp only[UQ];rw[agv (by omega) j _ _ B.W,KS (by omega) n _ _ B.W];cases r:gY (λc=>jv p.bG c.bO) p.dU !=0 with
   |true=>exact⟨_,_,rfl,rfl,λf=>by rw[f]at r;cases r⟩
   |false=>
    simp only[UQ];have t:=aaO (N:=N) (p:=p) (by omega) n p.bu 0 2 v [] j B.P (by simp only[Zc];omega);rw[ZV,Wo]at t;rcases t with⟨a,x,k,b,e⟩|⟨l,w,y,b,e⟩
    ·exact⟨a,x,b,e,λf=>absurd f k⟩
    ·rw[b,e];rcases abu u B p.aM 0 l w _ rfl y (λs h=>by rw[List.take_zero,a6,ZV]at h;exact h) (by simp only[Zq];omega)with⟨a,x,k,b,e⟩|⟨g,z,F,A,b,e⟩
     ·exact⟨a,x,b,e,λf=>absurd f k⟩
     ·rw[b,e];obtain⟨a,x,b,e⟩:=ae8 (N:=N) B.D A p.dM 0 z rfl;exact⟨a,x,b,e,λ_ i d h=>g i d (WJ _) h⟩
end
def aeI:∀{l:I aR}{s s':so},bL s=bL s'->jW l s=jW l s'
 |[],_,_,_=>rfl
 |x::r,s,s',h=>by unfold jW;rw[h,aeI (l:=r) h]
structure CK(mem:List aR)(kv:List (ByteArray×bk)):Prop where
 ok:∀p∈kv,jW mem p.1=some p.2/\mq p.2=true
 nd:(kv.map λp=>bL p.1).Nodup
def CK.nil(mem:I aR):CK mem []:=⟨λp h=>(by cases h),by simp⟩
def aeH{α:Type}:∀{l m:I α},l.Nodup->(∀x∈l,x∈m)->l.length<=m.length
 |[],m,_,_=>WJ _
 |x::l,m,h,d=>by
  have f:=d x Zl;obtain⟨a,b,rfl⟩:=List.append_of_mem f;rw[List.nodup_cons]at h;have:=aeH (l:=l) (m:=a++b) h.2 λy e=>by
   have c:=d y (Zg _ e);rw[ZE,ZY]at c;rw[ZE];rcases c with c|rfl|c
   ·exact .inl c
   ·exact absurd e h.1
   ·exact .inr c
  simp only[Zj,Zi]at this ⊢;omega
def CK.len{mem:I aR}{a:I (so×bk)}(h:CK mem a):a.length<=mem.length:=by
 have:=aeH h.nd (m:=mem.map λx=>bL x.aC) λy b=>by
  obtain⟨p,c,rfl⟩:=W1.1 b;obtain⟨x,d,_,e⟩:=ado (h.ok p c).1;exact W1.2 ⟨x,d,e⟩
 simpa using this
def agy{mem:I aR}{s:so}{d:bk}:∀{a:I (so×bk)},(∀p∈a,jW mem p.1=some p.2/\mq p.2=true)->mY a s=true->jW mem s=some (ia a s d)/\mq (ia a s d)=true
 |[],_,h=>by cases h
 |(k,t)::a,c,h=>by
  unfold mY at h;unfold ia;cases b:(bL k==bL s)with
  |true=>
   rw[V1];have:=c (k,t) Zl;rw[Ve]at b;rw[<-aeI b];exact this
  |false=>
   rw[b]at h;simp only[UQ,ai]at h ⊢;exact agy (λp e=>c p (Zg _ e)) h
def aeG{s:so}:∀{c:I (so×bk)},mY c s=false->bL s ∉ c.map λp=>bL p.1
 |[],_,h=>by cases h
 |(k,t)::c,a,h=>by
  unfold mY at a;rw[ZS,ZY]at h;cases b:(bL k==bL s)with
  |true=>rw[b]at a;simp at a
  |false=>
   rw[b]at a;simp only[UQ,ai]at a;rcases h with h|h
   ·rw[h]at b;simp at b
   ·exact aeG a h
def mB{α β:Type}(r:Except Int α)(a:Int)(b:β)(f:α->β->Prop):Prop:=match r with
 | .ok x=>a=0/\f x b
 | .error z=>a=z/\z≠0
def TU{mem:I aR}{s:so}{z:Int}(h:na mem s= .error z):z≠0:=by
 unfold na at h;split at h;{cases h;decide}
 ·next t e=>
  cases a:mq t<;>rw[a]at h<;>cases h
  decide
def Jm{mem:I aR}{s:so}{t:bk}(h:na mem s= .ok t):jW mem s=some t/\mq t=true:=by
 unfold na at h;split at h;{cases h}
 ·next b e=>
  cases a:mq b<;>rw[a]at h<;>cases h
  exact⟨e,a⟩
def adL(N:Nat)(k:2147483648<N)(mem:I aR)(o:mem.length<=4611686018427387904)(s:so)(b:I (so×bk))(a:CK mem b):
 ∃t h i,IW N s mem b=some (t,h,i)/\CK mem i/\mB (na mem s) h t (λx y=>y=x):=by
 unfold IW;cases j:mY b s with
 |true=>
  obtain⟨c,f⟩:=agy (d:=(⟨(⟨0,0,0,0,0⟩:aL),[],[]⟩:bk)) a.ok j;refine⟨_,_,_,rfl,a,?_⟩;unfold na;rw[c];simp only[f,V1];exact⟨rfl,rfl⟩
 |false=>
  rw[UQ,adT,re];unfold na;cases l:jW mem s with
  |none=>exact⟨_,_,_,rfl,a,rfl,by decide⟩
  |some t=>
   simp only[V1];obtain⟨e,c,f⟩:=aax N k t;rw[c,re,f];cases n:mq t with
   |false=>exact⟨_,_,_,rfl,a,rfl,by decide⟩
   |true=>
    have q:=a.len;rw[Wh,UQ,show Nat.blt b.length 9223372036854775807=true by rw[Nat.blt_eq];omega,V1];refine⟨_,_,_,rfl,⟨λp g=> ?_,?_⟩,rfl,rfl⟩
    ·rcases ZY.1 g with rfl|g
     ·exact⟨l,n⟩
     ·exact a.ok p g
    ·rw[ZS,List.nodup_cons];exact⟨aeG j,a.nd⟩
def oz(env:I aJ):I bD->I Int->Int->Except Int Int
 |[],_,a=>.ok a
 |_::_,[],a=>.ok a
 |l::b,d::c,a=>bif (dB l env).2 !=0 then .error (dB l env).2 else bif decide ((dB l env).1.toInt<0)||decide ((dB l env).1.toInt>=d)then .error 12 else oz env b c (a*d+(dB l env).1.toInt)
def D4(d:Int)(a:I Int):(d::a).foldl (·*·) 1=d*a.foldl (·*·) 1:=by rw[List.foldl_cons,ao,N9]
def CR{a n d p q:Int}(b:0<=a)(h:a<p)(i:0<=n)(j:n<d)(c:1<=q)(e:p*(d*q)<=4096):0<=a*d+n/\a*d+n<p*d/\(p*d)*q<=4096/\aE (aE (a*d)+n)=a*d+n:=by
 have k:0<=a*d:=Int.mul_nonneg b (by omega);have f:(a+1)*d<=p*d:=Int.mul_le_mul_of_nonneg_right (by omega) (by omega);rw[Int.add_mul,ao]at f;have g:(p*d)*q<=4096:=by rw[ab];exact e
 have l:(p*d)*1<=(p*d)*q:=Ym c (by omega);refine⟨by omega,by omega,g,?_⟩;rw[wy (n:=a*d) (by omega) (by omega),wy (by omega) (by omega)]
def abF(N:Nat)(a:Int)(n:Int64)(d:Int):GA N a n d=some (bif decide (n.toInt<0)||decide (n.toInt>=d)then(0,12)else(aE (aE (a*d)+n.toInt),0)):=by
 unfold GA;cases decide (n.toInt<0)with
 |true=>rfl
 |false=>
  rw[UQ,re,ai];cases decide (n.toInt>=d)<;>rfl
def aff(r:Except Int Int)(p:Int):Prop:=∀a,r= .ok a->0<=a/\a<p
def Uo(env:I aJ):∀(g:I bD)(e:I Int)(a p:Int),0<=a->a<p->(∀n∈e,1<=n)->g.length=e.length->p*e.foldl (·*·) 1<=4096->aff (oz env g e a) (p*e.foldl (·*·) 1)
 |[],[],a,p,h,i,_,_,_=>λb c=>by cases c;rw[List.foldl_nil,Int.mul_one];exact⟨h,i⟩
 |[],_::_,a,p,_,_,_,f,_=>by simp at f
 |_::_,[],a,p,_,_,_,f,_=>by simp at f
 |l::g,d::e,a,p,h,i,o,f,q=>by
  intro b c;unfold oz at c;cases r:((dB l env).2 !=0)with
  |true=>rw[r]at c;cases c
  |false=>
   rw[r,UQ]at c;cases j:(decide ((dB l env).1.toInt<0)||decide ((dB l env).1.toInt>=d))with
   |true=>rw[j]at c;cases c
   |false=>
    rw[j,UQ]at c;rw[Yf,VT,VT]at j;rw[D4]at q ⊢;have t:=vN λn k=>o n (Zg _ k);obtain⟨u,v,w,_⟩:=CR (n:=(dB l env).1.toInt) h i (by omega) (by omega) t q;have:=Uo env g e _ _ u v (λn k=>o n (Zg _ k)) (by simpa using f) w b c;rw[ab]at this;exact this
def qY(n ext:Int):Int:=max 0 (min n (ext-1))
def gS(mem:I aR)(env:I aJ)(x:c7)(ext:Int):Except Int Int64:=match na mem x.dc with
 | .error z=>.error z
 | .ok t=>bif t.aH.bA !=3 then .error 10 else bif (x.cP.length:Int) !=(t.aQ.length:Int)then .error 11 else match oz env x.cP t.aQ 0 with
   | .error z=>.error z
   | .ok a=>match t.eF[a.toNat]? with
     |some v=>.ok (Int64.ofInt (qY v.xN.toInt ext))
     |none=>.error 1
def apz{n ext:Int}(h1:1<=ext)(a:ext<=4096):(if(if(aE (ext-(1:Int)))<n then(aE (ext-(1:Int)))else n)>0then(if(aE (ext-(1:Int)))<n then(aE (ext-(1:Int)))else n)else(0:Int))=qY n ext:=by
 rw[wy (by omega) (by omega)];unfold qY;split<;>split<;>omega
def an6{n ext:Int}(h1:1<=ext)(a:ext<=4096):(if(if n<(aE (ext-(1:Int)))then n else(aE (ext-(1:Int))))>0then(if n<(aE (ext-(1:Int)))then n else(aE (ext-(1:Int))))else(0:Int))=qY n ext:=by
 rw[wy (by omega) (by omega)];unfold qY;split<;>split<;>omega
def aeF{n ext:Int}(h1:1<=ext)(a:ext<=4096):(aE (qY n ext)==qY n ext)=true:=by
 rw[Ve];exact wy (by unfold qY;omega) (by unfold qY;omega)
structure yw(t:bk):Prop where
 ty:dA t.aH=true
 sh:adt t.aQ
 len:(t.eF.length:Int)=t.aQ.foldl (·*·) 1
 abG:∀v∈t.eF,dE t.aH v=true
def IX{t:bk}(h:mq t=true):yw t:=by
 unfold mq at h;simp only[Zo,Ve]at h;exact⟨h.1,Iv h.2.1,h.2.2.1,Zb.1 h.2.2.2⟩
def yw.get{t:bk}(h:yw t){a:Int}(c:0<=a)(h1:a<t.aQ.foldl (·*·) 1):∃v,t.eF[a.toNat]?=some v/\v∈t.eF:=by
 have d:=h.len;have b:a.toNat<t.eF.length:=by omega
 exact⟨t.eF[a.toNat],Zd b,List.getElem_mem b⟩
def aga(N:Nat)(u:2147483648<N)(env:I aJ)(e:bk×Int×I (so×bk))(h:yw e.1)(ext:Int)(q:1<=ext)(r:ext<=4096):∀(f:I bD)(k:Nat)(c:I Int)(a p:Int),(∀l∈f,l.xL.length<=4611686018427387904)->e.1.aQ.drop k=c->f.length=c.length->0<=a->a<p->p*c.foldl (·*·) 1=e.1.aQ.foldl (·*·) 1->
 Jr N e ext env f k a=some (match oz env f c a with| .error z=>(0,z,e.2.2)| .ok b=>match e.1.eF[b.toNat]? with|some v=>(Int64.ofInt (qY v.xN.toInt ext),0,e.2.2)|none=>(0,1,e.2.2))
 |[],k,c,a,p,_,i,j,o,w,g=>by
  cases c with
  |cons=>simp at j
  |nil=>
   rw[List.foldl_nil,Int.mul_one]at g;obtain⟨v,y,_⟩:=h.get o (by omega);unfold Jr oz;rw[dO o,V1,y,re,apz q r,aeF q r,V1];simp only[y]
 |l::f,k,c,a,p,A,i,j,o,w,g=>by
  cases c with
  |nil=>simp at j
  |cons d c=>
   have B:=aY i;have C:∀n∈d::c,1<=n:=λn t=>h.sh.pos n (Z2 (i▸t));unfold Jr oz;rw[I0 N u l env (A l Zl),re];cases L:((dB l env).2 !=0)with
   |true=>rfl
   |false=>
    rw[UQ,UQ,ZB,B,re,abF,re];cases E:(decide ((dB l env).1.toInt<0)||decide ((dB l env).1.toInt>=d))with
    |true=>rfl
    |false=>
     rw[UQ,UQ];rw[Yf,VT,VT]at E;rw[D4]at g;have F:=vN λn t=>C n (Zg _ t);obtain⟨G,H,M,J⟩:=CR (n:=(dB l env).1.toInt) (d:=d) o w (by omega) (by omega) F (by rw[g];exact h.sh.le);simp only;rw[show((0:Int) !=0)=false from rfl,UQ,J];exact aga N u env e h ext q r f (k+1) c _ (p*d) (λx K=>A x (Zg _ K)) (kI i) (by simpa using j) G H (by rw[ab];exact g)
def ae6(N:Nat)(u:2147483648<N)(env:I aJ)(e:bk×Int)(i:yw e.1)(ext:Int)(r:1<=ext)(t:ext<=4096):∀(f:I bD)(k:Nat)(c:I Int)(a p:Int),(∀l∈f,l.xL.length<=4611686018427387904)->e.1.aQ.drop k=c->f.length=c.length->0<=a->a<p->p*c.foldl (·*·) 1=e.1.aQ.foldl (·*·) 1->
 FF N e ext env f k a=some (match oz env f c a with| .error z=>(0,z)| .ok b=>match e.1.eF[b.toNat]? with|some v=>(Int64.ofInt (qY v.xN.toInt ext),0)|none=>(0,1))
 |[],k,c,a,p,_,j,o,q,w,g=>by
  cases c with
  |cons=>simp at o
  |nil=>
   rw[List.foldl_nil,Int.mul_one]at g;obtain⟨v,y,_⟩:=i.get q (by omega);unfold FF oz;rw[dO q,V1,y,re,an6 r t,aeF r t,V1];simp only[y]
 |l::f,k,c,a,p,A,j,o,q,w,g=>by
  cases c with
  |nil=>simp at o
  |cons d c=>
   have B:=aY j;have C:∀n∈d::c,1<=n:=λn h=>i.sh.pos n (Z2 (j▸h));unfold FF oz;rw[Gu N u l env (A l Zl),re];cases L:((dB l env).2 !=0)with
   |true=>rfl
   |false=>
    rw[UQ,UQ,ZB,B,re,re];cases h:decide ((dB l env).1.toInt<0)with
    |true=>rfl
    |false=>
     rw[UQ,re,ai];cases E:decide ((dB l env).1.toInt>=d)with
     |true=>rfl
     |false=>
      rw[UQ,UQ];rw[VT]at E h;rw[D4]at g;have F:=vN λn h=>C n (Zg _ h);obtain⟨G,H,M,J⟩:=CR (n:=(dB l env).1.toInt) (d:=d) q w (by omega) (by omega) F (by rw[g];exact i.sh.le);simp only;rw[J];exact ae6 N u env e i ext r t f (k+1) c _ (p*d) (λx K=>A x (Zg _ K)) (kI j) (by simpa using o) G H (by rw[ab];exact g)
def aaQ{mem:I aR}{env:I aJ}{x:c7}{ext z:Int}(h:gS mem env x ext= .error z):z≠0:=by
 unfold gS at h;split at h;{next e=>cases h;exact TU e}
 ·next t e=>
  cases j:(t.aH.bA !=3)with
  |true=>rw[j]at h;cases h;decide
  |false=>
   rw[j,UQ]at h;cases k:((x.cP.length:Int) !=(t.aQ.length:Int))with
   |true=>rw[k]at h;cases h;decide
   |false=>
    rw[k,UQ]at h;split at h
    ·next n=>
     cases h
     have g:∀(f:I bD)(c:I Int)(a:Int),oz env f c a= .error z->z≠0:=by
      intro f
      induction f with
      |nil=>intro c a h;cases h
      |cons l f q=>
       intro c a h;cases c with
       |nil=>cases h
       |cons d c=>
        unfold oz at h;cases i:((dB l env).2 !=0)with
        |true=>rw[i]at h;cases h;simpa using i
        |false=>
         rw[i,UQ]at h;cases o:(decide ((dB l env).1.toInt<0)||decide ((dB l env).1.toInt>=d))with
         |true=>rw[o]at h;cases h;decide
         |false=>rw[o,UQ]at h;exact q _ _ h
     exact g _ _ _ n
    ·next b n=>
     split at h;{cases h};{cases h;decide}
def asU(N:Nat)(j:2147483648<N)(mem:I aR)(w:mem.length<=4611686018427387904)(env:I aJ)(x:c7)(y:∀l∈x.cP,l.xL.length<=4611686018427387904)(ext:Int)(A:1<=ext)(B:ext<=4096)(h:I (so×bk))(C:CK mem h):
 ∃n i d,N7 N env x ext mem h=some (n,i,d)/\CK mem d/\mB (gS mem env x ext) i n (λa b=>b=a):=by
 unfold N7;obtain⟨t,i,d,E,c,e⟩:=adL N j mem w x.dc h C;rw[E,re];unfold gS;cases f:na mem x.dc with
 |error z=>
  rw[f]at e;obtain⟨rfl,k⟩:=e;simp only;rw[Vr.2 k,V1];exact⟨_,_,_,rfl,c,rfl,k⟩
 |ok K=>
  rw[f]at e;obtain⟨rfl,rfl⟩:=e;simp only;rw[show((0:Int) !=0)=false from rfl,UQ];have g:=IX (Jm f).2;cases F:(t.aH.bA !=3)with
  |true=>exact⟨_,_,_,rfl,c,rfl,by decide⟩
  |false=>
   rw[UQ,UQ];cases o:((x.cP.length:Int) !=(t.aQ.length:Int))with
   |true=>exact⟨_,_,_,rfl,c,rfl,by decide⟩
   |false=>
    rw[UQ,UQ];have q:x.cP.length=t.aQ.length:=by
      have:(x.cP.length:Int)=t.aQ.length:=by simpa using o
      omega
    rw[aga N j env (t,0,d) g ext A B x.cP 0 t.aQ 0 1 y rfl q (by decide) (by decide) (ao _)];have G:=Uo env x.cP t.aQ 0 1 (by decide) (by decide) g.sh.pos q (by rw[ao];exact g.sh.le);cases r:oz env x.cP t.aQ 0 with
    |error z=>
     refine⟨_,_,_,rfl,c,rfl,?_⟩;refine aaQ (mem:=mem) (env:=env) (x:=x) (ext:=ext) ?_;unfold gS;rw[f];simp only[F,o,UQ,r]
    |ok b=>
     obtain⟨H,u⟩:=G b r;rw[ao]at u;obtain⟨v,J,_⟩:=g.get H u;simp only[J];exact⟨_,_,_,rfl,c,rfl,rfl⟩
def tF(mem:I aR)(env:I aJ)(x:c7)(a:Int):Except Int Int64:=bif bL x.dc==bL (bs [])then(bif (dB x.bO env).2 !=0 then .error (dB x.bO env).2 else .ok (dB x.bO env).1)else gS mem env x a
structure OO(x:c7):Prop where
 l:x.bO.xL.length<=4611686018427387904
 a:∀l∈x.cP,l.xL.length<=4611686018427387904
def apU(N:Nat)(d:2147483648<N)(mem:I aR)(env:I aJ)(x:c7)(f:OO x)(ext:Int)(r:1<=ext)(u:ext<=4096):
 ∃n g,Lg N mem env x ext=some (n,g)/\mB (tF mem env x ext) g n (λa b=>b=a):=by
 unfold Lg tF;cases C:(bL x.dc==bL (bs []))with
 |true=>
  rw[V1,V1,Gu N d _ _ f.l,re];refine⟨_,_,rfl,?_⟩;cases h:((dB x.bO env).2 !=0)with
  |true=>exact⟨rfl,by simpa using h⟩
  |false=>exact⟨by simpa using h,rfl⟩
 |false=>
  rw[UQ,UQ,aaI N d,re];unfold gS;cases e:na mem x.dc with
  |error z=>
   have i:=TU e;simp only;rw[Vr.2 i,V1];exact⟨_,_,rfl,rfl,i⟩
  |ok t=>
   simp only;rw[show((0:Int) !=0)=false from rfl,UQ];have c:=IX (Jm e).2;cases w:(t.aH.bA !=3)with
   |true=>exact⟨_,_,rfl,rfl,by decide⟩
   |false=>
    rw[UQ,UQ];cases j:((x.cP.length:Int) !=(t.aQ.length:Int))with
    |true=>exact⟨_,_,rfl,rfl,by decide⟩
    |false=>
     rw[UQ,UQ];have k:x.cP.length=t.aQ.length:=by
       have:(x.cP.length:Int)=t.aQ.length:=by simpa using j
       omega
     rw[ae6 N d env (t,0) c ext r u x.cP 0 t.aQ 0 1 f.a rfl k (by decide) (by decide) (ao _)];have y:=Uo env x.cP t.aQ 0 1 (by decide) (by decide) c.sh.pos k (by rw[ao];exact c.sh.le);cases o:oz env x.cP t.aQ 0 with
     |error z=>
      refine⟨_,_,rfl,rfl,?_⟩;refine aaQ (mem:=mem) (env:=env) (x:=x) (ext:=ext) ?_;unfold gS;rw[e];simp only[w,j,UQ,o]
     |ok b=>
      obtain⟨A,q⟩:=y b o;rw[ao]at q;obtain⟨v,B,_⟩:=c.get A q;simp only[B];exact⟨_,_,rfl,rfl,rfl⟩
def n6(mem:I aR)(env:I aJ):I c7->I Int->Int->Except Int Int
 |[],_,a=>.ok a
 |_::_,[],a=>.ok a
 |x::b,d::c,a=>match tF mem env x d with
  | .error z=>.error z
  | .ok n=>bif decide (n.toInt<0)||decide (n.toInt>=d)then .error 12 else n6 mem env b c (a*d+n.toInt)
def ae5(mem:I aR)(env:I aJ):∀(xs:I c7)(e:I Int)(a p:Int),0<=a->a<p->(∀n∈e,1<=n)->xs.length=e.length->p*e.foldl (·*·) 1<=4096->aff (n6 mem env xs e a) (p*e.foldl (·*·) 1)
 |[],[],a,p,g,h,_,_,_=>λb c=>by cases c;rw[List.foldl_nil,Int.mul_one];exact⟨g,h⟩
 |[],_::_,a,p,_,_,_,f,_=>by simp at f
 |_::_,[],a,p,_,_,_,f,_=>by simp at f
 |x::xs,d::e,a,p,g,h,k,f,l=>by
  intro b c;unfold n6 at c;cases o:tF mem env x d with
  |error y=>rw[o]at c;cases c
  |ok n=>
   rw[o]at c;simp only at c;cases i:(decide (n.toInt<0)||decide (n.toInt>=d))with
   |true=>rw[i]at c;cases c
   |false=>
    rw[i,UQ]at c;rw[Yf,VT,VT]at i;rw[D4]at l ⊢;have q:=vN λn j=>k n (Zg _ j);obtain⟨r,t,u,_⟩:=CR (n:=n.toInt) (d:=d) g h (by omega) (by omega) q l;have:=ae5 mem env xs e _ _ r t (λn j=>k n (Zg _ j)) (by simpa using f) u b c;rw[ab]at this;exact this
def aal{a:I Int}(e:∀n∈a,1<=n){p d q:Int}(b:1<=p)(h1:1<=d)(c:1<=q)(h:p*(d*q)<=4096):d<=4096:=by
 have f:d*1<=d*q:=Ym c (by omega);have g:1*(d*q)<=p*(d*q):=Int.mul_le_mul_of_nonneg_right b (by omega);omega
def acX(N:Nat)(F:2147483648<N)(mem:I aR)(J:mem.length<=4611686018427387904)(env:I aJ)(e:bk×Int×I (so×bk))(r:yw e.1):∀(xs:I c7)(k:Nat)(c:I Int)(a p:Int)(i:I (so×bk)),(∀x∈xs,OO x)->e.1.aQ.drop k=c->xs.length=c.length->0<=a->a<p->p*c.foldl (·*·) 1=e.1.aQ.foldl (·*·) 1->CK mem i->
 ∃t f g,rl N e env mem xs k a i=some (t,f,g)/\CK mem g/\mB (n6 mem env xs c a) f t (λb y=>∃v,e.1.eF[b.toNat]?=some v/\y=(⟨v,e.1.aH⟩:fQ))
 |[],k,c,a,p,i,_,u,w,A,K,h,B=>by
  cases c with
  |cons=>simp at w
  |nil=>
   rw[List.foldl_nil,Int.mul_one]at h;obtain⟨v,L,_⟩:=r.get A (by omega);unfold rl n6;rw[dO A,V1,L,re];exact⟨_,_,_,rfl,B,rfl,v,L,rfl⟩
 |x::xs,k,c,a,p,i,M,u,w,A,K,h,B=>by
  cases c with
  |nil=>simp at w
  |cons d c=>
   have P:=aY u;have G:∀n∈d::c,1<=n:=λn j=>r.sh.pos n (Z2 (u▸j));have Q:=G d Zl;have Xu:=h;rw[D4]at h;have R:=vN λn j=>G n (Zg _ j);have o:p*(d*c.foldl (·*·) 1)<=4096:=by rw[h];exact r.sh.le
   have Wj:=aal (λn j=>G n (Zg _ j)) (by omega) Q R o;have S:=M x Zl;have q:∀(f:Int)(n:Int64)(C:I (so×bk)),CK mem C->mB (tF mem env x d) f n (λa b=>b=a)->
       ∃t T g,Cx N e k a (λbP eE=>rl N e env mem xs (k+1) bP eE) f n C=some (t,T,g)/\CK mem g/\mB (n6 mem env (x::xs) (d::c) a) T t (λb y=>∃v,e.1.eF[b.toNat]?=some v/\y=(⟨v,e.1.aH⟩:fQ)):=by
    intro f n C H E;unfold Cx n6;cases W:tF mem env x d with
    |error z=>
     rw[W]at E;obtain⟨rfl,hz⟩:=E;rw[Vr.2 hz,V1];exact⟨_,_,_,rfl,H,rfl,hz⟩
    |ok m=>
     rw[W]at E;obtain⟨rfl,rfl⟩:=E;rw[show((0:Int) !=0)=false from rfl,UQ,ZB,P,re,abF,re];simp only;cases hc:(decide (n.toInt<0)||decide (n.toInt>=d))with
     |true=>exact⟨_,_,_,rfl,H,rfl,by decide⟩
     |false=>
      rw[UQ,UQ];rw[Yf,VT,VT]at hc;obtain⟨k1,k2,k3,k4⟩:=CR (n:=n.toInt) (d:=d) A K (by omega) (by omega) R o;simp only;rw[show((0:Int) !=0)=false from rfl,UQ,k4];exact acX N F mem J env e r xs (k+1) c _ (p*d) C (λy hy=>M y (Zg _ hy)) (kI u) (by simpa using w) k1 k2 (by rw[ab];exact h) H
   unfold rl;cases hb:(bL x.dc==bL (bs []))with
   |true=>
    rw[V1,I0 N F _ _ S.l,re];refine q _ _ _ B ?_;unfold tF;rw[hb,V1];cases he:((dB x.bO env).2 !=0)with
    |true=>exact⟨rfl,by simpa using he⟩
    |false=>exact⟨by simpa using he,rfl⟩
   |false=>
    rw[UQ,ZB,P,re];obtain⟨n,f,g,h1,h2,h3⟩:=asU N F mem J env x S.a d Q Wj i B;rw[h1,re];refine q _ _ _ h2 ?_;unfold tF;rw[hb,UQ];exact h3
def ae1(N:Nat)(r:2147483648<N)(mem:I aR)(env:I aJ)(t:bk)(l:yw t):∀(xs:I c7)(k:Nat)(c:I Int)(a p:Int),(∀x∈xs,OO x)->t.aQ.drop k=c->xs.length=c.length->0<=a->a<p->p*c.foldl (·*·) 1=t.aQ.foldl (·*·) 1->
 ∃b o,D9 N t mem env xs k a=some (b,o)/\mB (n6 mem env xs c a) o b (λx y=>y=x)
 |[],k,c,a,p,_,g,h,u,v,i=>by
  cases c with
  |cons=>simp at h
  |nil=>
   unfold D9 n6;exact⟨_,_,rfl,rfl,rfl⟩
 |x::xs,k,c,a,p,w,g,h,u,v,i=>by
  cases c with
  |nil=>simp at h
  |cons d c=>
   have F:=aY g;have q:∀n∈d::c,1<=n:=λn e=>l.sh.pos n (Z2 (g▸e));have A:=q d Zl;rw[D4]at i;have B:=vN λn e=>q n (Zg _ e);have f:p*(d*c.foldl (·*·) 1)<=4096:=by rw[i];exact l.sh.le
   have G:=aal (λn e=>q n (Zg _ e)) (by omega) A B f;unfold D9 n6;rw[ZB,F,re];obtain⟨n,o,H,j⟩:=apU N r mem env x (w x Zl) d A G;rw[H,re];cases C:tF mem env x d with
   |error z=>
    rw[C]at j;obtain⟨rfl,E⟩:=j;simp only;rw[Vr.2 E,V1];exact⟨_,_,rfl,rfl,E⟩
   |ok m=>
    rw[C]at j;obtain⟨rfl,rfl⟩:=j;simp only;rw[show((0:Int) !=0)=false from rfl,UQ];cases e:decide (n.toInt<0)with
    |true=>exact⟨_,_,rfl,rfl,by decide⟩
    |false=>
     rw[UQ,re,ai];cases J:decide (n.toInt>=d)with
     |true=>exact⟨_,_,rfl,rfl,by decide⟩
     |false=>
      rw[UQ,UQ];rw[VT]at J e;obtain⟨K,L,Q,M⟩:=CR (n:=n.toInt) (d:=d) u v (by omega) (by omega) B f;rw[M];exact ae1 N r mem env t l xs (k+1) c _ (p*d) (λy P=>w y (Zg _ P)) (kI g) (by simpa using h) K L (by rw[ab];exact i)
def HN(mem:I aR)(env:I aJ)(e:ay):Except Int (aA×aL):=match na mem e.aC with
 | .error z=>.error z
 | .ok t=>bif (e.xIdx.length:Int) !=(t.aQ.length:Int)then .error 11 else match n6 mem env e.xIdx t.aQ 0 with
   | .error z=>.error z
   | .ok a=>match t.eF[a.toNat]? with
     |some v=>.ok (v,t.aH)
     |none=>.error 1
def ade:aL:=⟨3,0,0,0,0⟩
def rM(mem:I aR)(env:I aJ)(e:ay):Except Int (aA×aL):=bif e.aD==1 then .ok (e.dQ,e.aH)else bif e.aD==2 then(bif (dB e.bO env).2 !=0 then .error (dB e.bO env).2 else bif decide ((dB e.bO env).1.toInt>2147483647)||decide ((dB e.bO env).1.toInt< -2147483647)then .error 3 else .ok (⟨(dB e.bO env).1,1⟩,ade))else HN mem env e
structure HV(e:ay):Prop where
 l:e.bO.xL.length<=4611686018427387904
 x:∀x∈e.xIdx,OO x
def ahd(N:Nat)(j:2147483648<N)(mem:I aR)(k:mem.length<=4611686018427387904)(env:I aJ)(e:ay)(q:HV e)(g:I (so×bk))(r:CK mem g):
 ∃t c a,Hg N env e mem g=some (t,c,a)/\CK mem a/\mB (HN mem env e) c t (λx y=>y=(⟨x.1,x.2⟩:fQ)):=by
 unfold Hg;obtain⟨t,c,a,u,h,d⟩:=adL N j mem k e.aC g r;rw[u,re];unfold HN;cases i:na mem e.aC with
 |error z=>
  rw[i]at d;obtain⟨rfl,l⟩:=d;simp only;rw[Vr.2 l,V1];exact⟨_,_,_,rfl,h,rfl,l⟩
 |ok E=>
  rw[i]at d;obtain⟨rfl,rfl⟩:=d;simp only;rw[show((0:Int) !=0)=false from rfl,UQ];have w:=IX (Jm i).2;cases A:((e.xIdx.length:Int) !=(t.aQ.length:Int))with
  |true=>exact⟨_,_,_,rfl,h,rfl,by decide⟩
  |false=>
   rw[UQ,UQ];have B:e.xIdx.length=t.aQ.length:=by
     have:(e.xIdx.length:Int)=t.aQ.length:=by simpa using A
     omega
   obtain⟨y,c,F,q1,C,f⟩:=acX N j mem k env (t,0,a) w e.xIdx 0 t.aQ 0 1 a q.x rfl B (by decide) (by decide) (ao _) h;rw[q1];refine⟨_,_,_,rfl,C,?_⟩;cases n:n6 mem env e.xIdx t.aQ 0 with
   |error z=>rw[n]at f;exact f
   |ok b=>
    rw[n]at f;obtain⟨rfl,v,o,rfl⟩:=f;simp only at o ⊢;rw[o];exact⟨rfl,rfl⟩
def aij(N:Nat)(g:2147483648<N)(mem:I aR)(j:mem.length<=4611686018427387904)(env:I aJ)(e:ay)(h:HV e)(c:I (so×bk))(a:CK mem c):
 ∃t d f,Mt N env e mem c=some (t,d,f)/\CK mem f/\mB (rM mem env e) d t (λx y=>y=(⟨x.1,x.2⟩:fQ)):=by
 unfold Mt rM;cases o:(e.aD==1)with
 |true=>exact⟨_,_,_,rfl,a,rfl,rfl⟩
 |false=>
  rw[UQ,UQ];cases q:(e.aD==2)with
  |true=>
   rw[V1,V1,I0 N g _ _ h.l,re];unfold Kf;cases i:((dB e.bO env).2 !=0)with
   |true=>
    have b:(dB e.bO env).2≠0:=by simpa using i
    rw[show((dB e.bO env).2==0)=false by rw[Vb];exact b,UQ,re,UQ];exact⟨_,_,_,rfl,a,rfl,b⟩
   |false=>
    have b:(dB e.bO env).2=0:=by simpa using i
    rw[b,show((0:Int)==0)=true from rfl,V1,UQ];cases r:decide ((dB e.bO env).1.toInt>2147483647)with
    |true=>exact⟨_,_,_,rfl,a,rfl,by decide⟩
    |false=>
     rw[UQ,re,ai];cases u:decide ((dB e.bO env).1.toInt< -2147483647)with
     |true=>exact⟨_,_,_,rfl,a,rfl,by decide⟩
     |false=>exact⟨_,_,_,rfl,a,rfl,rfl⟩
  |false=>
   rw[UQ,UQ];obtain⟨t,d,f,q1,k,n⟩:=ahd N g mem j env e h c a;rw[q1,re];exact⟨_,_,_,rfl,k,n⟩
def ajo(N:Nat)(i:2147483648<N)(mem:I aR)(env:I aJ)(e:ay)(k:HV e):
 ∃g,IP N mem env e=some g/\mB (rM mem env e) g.xE g (λx y=>y.xV=x.1/\y.xT=x.2)/\(g.xE≠0->g.xV=cd/\g.xT=dX):=by
 unfold IP rM;cases C:(e.aD==1)with
 |true=>exact⟨_,rfl,⟨rfl,rfl,rfl⟩,λh=>absurd rfl h⟩
 |false=>
  rw[UQ,UQ];cases E:(e.aD==2)with
  |true=>
   rw[V1,V1,Gu N i _ _ k.l,re];unfold LX;cases n:((dB e.bO env).2 !=0)with
   |true=>
    have a:(dB e.bO env).2≠0:=by simpa using n
    rw[show((dB e.bO env).2==0)=false by rw[Vb];exact a,UQ,re,UQ,V1];exact⟨_,rfl,⟨rfl,a⟩,λ_=>⟨rfl,rfl⟩⟩
   |false=>
    have a:(dB e.bO env).2=0:=by simpa using n
    rw[a,show((0:Int)==0)=true from rfl,V1,UQ];cases F:decide ((dB e.bO env).1.toInt>2147483647)with
    |true=>exact⟨_,rfl,⟨rfl,by decide⟩,λ_=>⟨rfl,rfl⟩⟩
    |false=>
     rw[UQ,re,ai];cases G:decide ((dB e.bO env).1.toInt< -2147483647)with
     |true=>exact⟨_,rfl,⟨rfl,by decide⟩,λ_=>⟨rfl,rfl⟩⟩
     |false=>exact⟨_,rfl,⟨rfl,rfl,rfl⟩,λh=>absurd rfl h⟩
  |false=>
   rw[UQ,UQ,aaI N i,re];unfold HN;cases o:na mem e.aC with
   |error z=>
    have a:=TU o;simp only;rw[Vr.2 a,V1];exact⟨_,rfl,⟨rfl,a⟩,λ_=>⟨rfl,rfl⟩⟩
   |ok t=>
    simp only;rw[show((0:Int) !=0)=false from rfl,UQ];have d:=IX (Jm o).2;unfold Rp;cases w:((e.xIdx.length:Int) !=(t.aQ.length:Int))with
    |true=>exact⟨_,rfl,⟨rfl,by decide⟩,λ_=>⟨rfl,rfl⟩⟩
    |false=>
     rw[UQ,UQ];have q:e.xIdx.length=t.aQ.length:=by
       have:(e.xIdx.length:Int)=t.aQ.length:=by simpa using w
       omega
     obtain⟨b,H,q1,f⟩:=ae1 N i mem env t d e.xIdx 0 t.aQ 0 1 k.x rfl q (by decide) (by decide) (ao _);have A:=ae5 mem env e.xIdx t.aQ 0 1 (by decide) (by decide) d.sh.pos q (by rw[ao];exact d.sh.le);rw[q1,re];cases j:n6 mem env e.xIdx t.aQ 0 with
     |error z=>
      rw[j]at f;obtain⟨rfl,a⟩:=f;simp only;rw[Vr.2 a,V1];exact⟨_,rfl,⟨rfl,a⟩,λ_=>⟨rfl,rfl⟩⟩
     |ok c=>
      rw[j]at f;obtain⟨rfl,rfl⟩:=f;obtain⟨r,u⟩:=A b j;rw[ao]at u;obtain⟨v,B,_⟩:=d.get r u;simp only;rw[show((0:Int) !=0)=false from rfl,UQ,dO r,V1,B,re];exact⟨_,rfl,⟨rfl,rfl,rfl⟩,λh=>absurd rfl h⟩
def ana{mem:I aR}{env:I aJ}{e:ay}(h1:e.aD=1->dA e.aH=true/\dE e.aH e.dQ=true){x:aA×aL}(h:rM mem env e= .ok x):dA x.2=true/\dE x.2 x.1=true:=by
 unfold rM at h;cases a:(e.aD==1)with
 |true=>
  rw[a,V1]at h;cases h;exact h1 (by simpa using a)
 |false=>
  rw[a,UQ]at h;cases g:(e.aD==2)with
  |true=>
   rw[g,V1]at h;cases i:((dB e.bO env).2 !=0)with
   |true=>rw[i]at h;cases h
   |false=>
    rw[i,UQ]at h;cases b:(decide ((dB e.bO env).1.toInt>2147483647)||decide ((dB e.bO env).1.toInt< -2147483647))with
    |true=>rw[b]at h;cases h
    |false=>
     rw[b,UQ]at h;cases h;rw[Yf,VT,VT]at b;refine⟨rfl,?_⟩;unfold dE ade;simp only;rw[show((3:Int)==2)=false from rfl,UQ,show((3:Int)==3)=true from rfl,V1,dO (show(dB e.bO env).1.toInt<=2147483647 by omega),dO (show-2147483647<=(dB e.bO env).1.toInt by omega)];rfl
  |false=>
   rw[g,UQ]at h;unfold HN at h;cases d:na mem e.aC with
   |error z=>rw[d]at h;cases h
   |ok t=>
    rw[d]at h;simp only at h;have j:=IX (Jm d).2;cases k:((e.xIdx.length:Int) !=(t.aQ.length:Int))with
    |true=>rw[k]at h;cases h
    |false=>
     rw[k,UQ]at h;cases l:n6 mem env e.xIdx t.aQ 0 with
     |error z=>rw[l]at h;cases h
     |ok c=>
      rw[l]at h;simp only at h;cases f:t.eF[c.toNat]? with
      |none=>rw[f]at h;cases h
      |some v=>rw[f]at h;cases h;exact⟨j.ty,j.abG v (ZX f)⟩
def jg(a b:aL):Bool:=(a.bA==b.bA)&&((a.bU==b.bU)&&((a.ck==b.ck)&&((a.cr==b.cr)&&((a.cC==b.cC)&&true))))
def aoV{a b:aL}:jg a b=true↔a=b:=by
 unfold jg;simp only[Zo,Ve,Bool.and_true];constructor;{rintro⟨c,d,e,f,g⟩;cases a;cases b;simp_all};{rintro rfl;exact⟨rfl,rfl,rfl,rfl,rfl⟩}
def pM(t:aL)(r:aA×Int):Except Int (aA×aL):=bif r.2 !=0 then .error r.2 else .ok (r.1,t)
def zl(a c:Int):Bool:=bif a==13 then decide (c<0)else bif a==14 then decide (c<=0)else c==0
def kx{α β:Type}(r:Except Int α)(f:α->Except Int β):Except Int β:=match r with
 | .ok x=>f x
 | .error z=>.error z
mutual
def fz(mem:I aR)(env:I aJ)(e:ay):Except Int (aA×aL):=
 bif decide (e.aD<=3)then rM mem env e else
 match h:e.bS with
 |[a]=>kx (fz mem env a) λx=>bif e.aD==12 then pM e.aH (Ce x.2 e.aH x.1)else pM x.2 (mn 8 x.2 x.1 x.1)
 |[a,b]=>kx (fz mem env a) λx=>kx (fz mem env b) λy=>bif jg x.2 y.2 then pM x.2 (mn e.aD x.2 x.1 y.1)else .error 10
 |[c,a,b]=>kx (kD mem env c) λt=>bif t then fz mem env a else fz mem env b
 |_=>.error 1
termination_by SizeOf.sizeOf e
decreasing_by all_goals (exact vi (by rw[h];simp))
def kD(mem:I aR)(env:I aJ)(e:ay):Except Int Bool:=
 match h:e.bS with
 |[a]=>kx (kD mem env a) λt=>.ok (!t)
 |[a,b]=>bif decide (e.aD<16)then kx (fz mem env a) λx=>kx (fz mem env b) λy=>(bif jg x.2 y.2 then .ok (zl e.aD (lf x.2 x.1 y.1))else .error 10)else kx (kD mem env a) λs=>kx (kD mem env b) λt=>.ok (bif e.aD==16 then s&&t else s||t)
 |_=>.error 1
termination_by SizeOf.sizeOf e
decreasing_by all_goals (exact vi (by rw[h];simp))
end
def adu{mem:I aR}{env:I aJ}{e:ay}(h:e.aD<=3):fz mem env e=rM mem env e:=by
 rw[fz,dO h,V1]
def Nl{mem:I aR}{env:I aJ}{e a:ay}(h:¬e.aD<=3)(b:e.bS=[a]):fz mem env e=kx (fz mem env a) λx=>bif e.aD==12 then pM e.aH (Ce x.2 e.aH x.1)else pM x.2 (mn 8 x.2 x.1 x.1):=by
 rw[fz,Zx h,UQ];split<;>simp_all
def aaz{mem:I aR}{env:I aJ}{e a b:ay}(h:¬e.aD<=3)(c:e.bS=[a,b]):fz mem env e=kx (fz mem env a) λx=>kx (fz mem env b) λy=>bif jg x.2 y.2 then pM x.2 (mn e.aD x.2 x.1 y.1)else .error 10:=by
 rw[fz,Zx h,UQ];split<;>simp_all
def ads{mem:I aR}{env:I aJ}{e c a b:ay}(h:¬e.aD<=3)(d:e.bS=[c,a,b]):fz mem env e=kx (kD mem env c) λt=>bif t then fz mem env a else fz mem env b:=by
 rw[fz,Zx h,UQ];split<;>simp_all
def adi{mem:I aR}{env:I aJ}{e a:ay}(b:e.bS=[a]):kD mem env e=kx (kD mem env a) λt=>.ok (!t):=by
 rw[kD];split<;>simp_all
def PZ{mem:I aR}{env:I aJ}{e a b:ay}(c:e.bS=[a,b]):kD mem env e=bif decide (e.aD<16)then kx (fz mem env a) λx=>kx (fz mem env b) λy=>(bif jg x.2 y.2 then .ok (zl e.aD (lf x.2 x.1 y.1))else .error 10)else kx (kD mem env a) λs=>kx (kD mem env b) λt=>.ok (bif e.aD==16 then s&&t else s||t):=by
 rw[kD];split<;>simp_all
structure Ev(e:ay):Prop where
 v:∀y∈dR e,om y=0
 f:∀y∈dR e,HV y
def Ev.arg{e x:ay}(h:Ev e)(b:x∈e.bS):Ev x:=⟨λy a=>h.v y (Js b a),λy a=>h.f y (Js b a)⟩
def Ev.here{e:ay}(h:Ev e):om e=0:=h.v e Zl
structure Jd(e:ay):Prop where
 lo:1<=e.aD
 hi:e.aD<=18
 ZG:(e.bS.length:Int)=px e.aD
 lit:e.aD=1->dA e.aH=true/\dE e.aH e.dQ=true
 cast:e.aD=12->dA e.aH=true
 want:∀(i:Nat)(x:ay),e.bS[i]?=some x->fi x=jP e.aD i
def age(b:Int):∀(l:I ay)(k:Nat),wN b k l=true->∀(i:Nat)(x:ay),l[i]?=some x->fi x=jP b (k+i)
 |[],_,_,i,x,a=>by simp at a
 |y::l,k,h,i,x,a=>by
  unfold wN at h;rw[Zo,Ve]at h;cases i with
  |zero=>cases a;exact h.1
  |succ i=>
   rw[show k+(i+1)=k+1+i by omega];exact age b l (k+1) h.2 i x a
def Ev.n{e:ay}(h:Ev e):Jd e:=by
 obtain⟨c,k,d,a,f⟩:=VH h.here;unfold qn at c;unfold qh at d;unfold po at a;unfold wU at f;simp only[Zo,VX,Ve]at c d a f;refine⟨c.1,c.2.1,d.1,λh=> ?_,λh=> ?_,λi x j=> ?_⟩;{have b:=a.1;have g:=f.1;rw[h]at b g;exact⟨by simpa using b,by simpa using g⟩}
 ·have b:=a.1;rw[h]at b
  simpa using b
 ·have:=age e.aD e.bS 0 a.2 i x j
  rwa [ZJ]at this
def aas{e:ay}(h:Jd e):fi e=decide (13<=e.aD):=by
 unfold fi;rw[dO h.hi,Bool.and_true]
def Sz{α:Type}{l:I α}(h:(l.length:Int)=1):∃a,l=[a]:=by
 match l,h with
 |[a],_=>exact⟨a,rfl⟩
 |[],h=>simp at h
 |_::_::_,h=>simp only[Zi]at h;omega
def ada{α:Type}{l:I α}(h:(l.length:Int)=2):∃a b,l=[a,b]:=by
 match l,h with
 |[a,b],_=>exact⟨a,b,rfl⟩
 |[],h=>simp at h
 |[_],h=>simp at h
 |_::_::_::_,h=>simp only[Zi]at h;omega
def ajZ{α:Type}{l:I α}(h:(l.length:Int)=3):∃a b c,l=[a,b,c]:=by
 match l,h with
 |[a,b,c],_=>exact⟨a,b,c,rfl⟩
 |[],h=>simp at h
 |[_],h=>simp at h
 |[_,_],h=>simp at h
 |_::_::_::_::_,h=>simp only[Zi]at h;omega
inductive aa8(e:ay):Prop
 |leaf (h:e.aD<=3)
 |cast (a:ay) (h:e.bS=[a]) (ho:e.aD=12)
 |neg (a:ay) (h:e.bS=[a]) (ho:e.aD=8)
 |bin (a b:ay) (h:e.bS=[a,b]) (ho:4<=e.aD/\e.aD<=10/\e.aD≠8)
 |ite (c a b:ay) (h:e.bS=[c,a,b]) (ho:e.aD=11)
inductive aa6(e:ay):Prop
 |not (a:ay) (h:e.bS=[a]) (ho:e.aD=18)
 |cmp (a b:ay) (h:e.bS=[a,b]) (ho:13<=e.aD/\e.aD<=15)
 |log (a b:ay) (h:e.bS=[a,b]) (ho:e.aD=16\/e.aD=17)
def adN{e:ay}(h:Jd e)(k:fi e=false):aa8 e:=by
 rw[aas h,VT]at k;have o:=h.lo;have d:=h.ZG;by_cases n:e.aD<=3;{exact .leaf n}
 ·unfold px at d;rw[show(e.aD==1)=false by rw[Vb];omega,show(e.aD==2)=false by rw[Vb];omega,show(e.aD==3)=false by rw[Vb];omega]at d;simp only[Bool.or_false,ai,UQ]at d;by_cases g:e.aD=8
  ·rw[g]at d;obtain⟨a,f⟩:=Sz (l:=e.bS) d;exact .neg a f g
  ·by_cases i:e.aD=12
   ·rw[i]at d;obtain⟨a,f⟩:=Sz (l:=e.bS) d;exact .cast a f i
   ·rw[show(e.aD==8)=false by rw[Vb];exact g,show(e.aD==12)=false by rw[Vb];exact i,show(e.aD==18)=false by rw[Vb];omega]at d;simp only[Bool.or_false,ai,UQ]at d;by_cases j:e.aD=11
    ·rw[j]at d;obtain⟨a,b,c,f⟩:=ajZ (l:=e.bS) d;exact .ite a b c f j
    ·rw[show(e.aD==11)=false by rw[Vb];exact j,UQ]at d;obtain⟨a,b,f⟩:=ada d;exact .bin a b f ⟨by omega,by omega,g⟩
def kc{e:ay}(h:Jd e)(g:fi e=true):aa6 e:=by
 rw[aas h,VX]at g;have j:=h.hi;have c:=h.ZG;unfold px at c;rw[show(e.aD==1)=false by rw[Vb];omega,show(e.aD==2)=false by rw[Vb];omega,show(e.aD==3)=false by rw[Vb];omega,show(e.aD==8)=false by rw[Vb];omega,show(e.aD==12)=false by rw[Vb];omega,show(e.aD==11)=false by rw[Vb];omega]at c;simp only[Bool.or_false,ai,UQ]at c;by_cases f:e.aD=18;{rw[f]at c;obtain⟨a,d⟩:=Sz (l:=e.bS) c;exact .not a d f}
 ·rw[show(e.aD==18)=false by rw[Vb];exact f,UQ]at c;obtain⟨a,b,d⟩:=ada c;by_cases i:e.aD<=15
  ·exact .cmp a b d ⟨g,i⟩
  ·exact .log a b d (by omega)
def Ur(r:Except Int (aA×aL))(a:Int)(t:fQ):Prop:=mB r a t λx y=>y.iU=x.1/\y.gy=x.2/\dA x.2=true
def AgH(r:Except Int Bool)(a:Int)(b:Bool):Prop:=match r with
 | .ok x=>a=0/\b=x
 | .error z=>a=z/\z≠0/\b=false
def RI{t:aL}{r:aA×Int}(a:dA t=true):Ur (pM t r) r.2 (⟨r.1,t⟩:fQ):=by
 unfold pM;cases h:(r.2 !=0)with
 |true=>exact⟨rfl,by simpa using h⟩
 |false=>exact⟨by simpa using h,rfl,rfl,a⟩
structure KV(N:Nat)(mem:List aR)(env:List aJ)(e:ay):Prop where
 v:fi e=false->∀(d:Nat)(kv:List (ByteArray×bk)),3*SizeOf.sizeOf e<=d->CK mem kv->∃t er eP,nf N d e env mem kv=some (t,er,eP)/\CK mem eP/\Ur (fz mem env e) er t
 h:fi e=true->∀(d:Nat)(kv:List (ByteArray×bk)),3*SizeOf.sizeOf e<=d->CK mem kv->∃b er eP,qt N d e env mem kv=some (b,er,eP)/\CK mem eP/\AgH (kD mem env e) er b
def arZ(N:Nat)(env:I aJ)(e:ay)(mem:I aR)(a:I (so×bk))(d:Nat):nf N (d+1) e env mem a=yx N env e mem a (qt N d) (nf N d) (ri N d) (e.aD==1||(e.aD==2||e.aD==3)):=by
 rw[nf];cases b:(e.aD==1)with
 |true=>rfl
 |false=>
  cases c:(e.aD==2)with
  |true=>rfl
  |false=>rfl
def alj{e:ay}(h:Jd e):(e.aD==1||(e.aD==2||e.aD==3))=decide (e.aD<=3):=by
 have:=h.lo;by_cases a:e.aD<=3
 ·rw[dO a];have:e.aD=1\/e.aD=2\/e.aD=3:=by omega
  rcases this with h|h|h<;>rw[h]<;>rfl
 ·rw[Zx a,show(e.aD==1)=false by rw[Vb];omega,show(e.aD==2)=false by rw[Vb];omega,show(e.aD==3)=false by rw[Vb];omega];rfl
def aeW{N:Nat}{mem:I aR}{env:I aJ}{e a b:ay}(F:e.bS=[a,b])(A:KV N mem env a)(B:KV N mem env b)(G:fi a=false)(H:fi b=false)(d:Nat)(i:I (so×bk))(l:3*SizeOf.sizeOf a<=d/\3*SizeOf.sizeOf b<=d)(J:CK mem i):
 ∃x y c j,yI N (d+1) e env mem i=some (x,y,c,j)/\CK mem j/\mB (kx (fz mem env a) λp=>kx (fz mem env b) λq=>bif jg p.2 q.2 then .ok (p,q)else .error 10) c (x,y) λp r=>r.1.iU=p.1.1/\r.1.gy=p.1.2/\r.2.iU=p.2.1/\r.2.gy=p.2.2/\dA p.1.2=true:=by
 rw[yI,F];simp only[List.getElem?_cons_zero,Yt,re];obtain⟨t,c,K,L,n,g⟩:=A.v G d i l.1 J;rw[L,re];cases o:fz mem env a with
 |error z=>
  rw[o]at g;obtain⟨rfl,f⟩:=g;simp only;rw[Vr.2 f,V1];exact⟨_,_,_,_,rfl,n,rfl,f⟩
 |ok p=>
  rw[o]at g;obtain⟨rfl,M,w,P⟩:=g;simp only;rw[show((0:Int) !=0)=false from rfl,UQ];obtain⟨u,c,R,q1,k,h⟩:=B.v H d K l.2 n;rw[q1,re];unfold Fp;cases C:fz mem env b with
  |error z=>
   rw[C]at h;obtain⟨rfl,f⟩:=h;simp only;rw[show(c==0)=false by rw[Vb];exact f,UQ,re,UQ];exact⟨_,_,_,_,rfl,k,rfl,f⟩
  |ok q=>
   rw[C]at h;obtain⟨rfl,Q,E,S⟩:=h;simp only;rw[show((0:Int)==0)=true from rfl,V1,re];show ∃x y c j,(bif !(jg t.gy u.gy)then _ else _)=_/\_/\mB (bif jg p.2 q.2 then _ else _) _ _ _;rw[w,E];cases jg p.2 q.2 with
   |true=>exact⟨_,_,_,_,rfl,k,rfl,M,w,Q,E,P⟩
   |false=>exact⟨_,_,_,_,rfl,k,rfl,by decide⟩
def mch(N:Nat)(hN:9223372036854775808<N)(mem:I aR)(hm:mem.length<=4611686018427387904)(env:I aJ):∀(n:Nat)(e:ay),SizeOf.sizeOf e<=n->Ev e->KV N mem env e:=by
 intro n
 induction n with
 |zero=>intro e hs _;have:0<SizeOf.sizeOf e:=by cases e;simp;omega
        omega
 |succ n ih=>
  intro e hs hv;have E:=hv.n;have iR:0<SizeOf.sizeOf e:=by cases e;simp;omega
  have o:∀x∈e.bS,KV N mem env x/\3*SizeOf.sizeOf x+3<=3*SizeOf.sizeOf e:=λx hx=>by
   have:=vi hx;exact⟨ih x (by omega) (hv.arg hx),by omega⟩
  constructor
  ·intro hc d P hd Q;obtain⟨d,rfl⟩:∃L,d=L+1:=⟨d-1,by omega⟩;rw[arZ,alj E];unfold yx;cases adN E hc with
   |leaf J=>
    rw[dO J,V1,adu J];obtain⟨t,G,eP,H,l,g⟩:=aij N (by omega) mem hm env e (hv.f e Zl) P Q;rw[H,re];refine⟨_,_,_,rfl,l,?_⟩;cases hl:rM mem env e with
    |error z=>rw[hl]at g;exact g
    |ok x=>
     rw[hl]at g;obtain⟨rfl,rfl⟩:=g;exact⟨rfl,rfl,rfl,(ana E.lit hl).1⟩
   |cast a j F=>
    have J:¬e.aD<=3:=by omega
    have II:a∈e.bS:=by rw[j];simp
    obtain⟨A,o8⟩:=o a II;have K:fi a=false:=by rw[E.want 0 a (by rw[j];rfl),F];rfl
    rw[Zx J,UQ,show(e.aD==11)=false by rw[F];rfl,UQ,Nl J j,F];obtain⟨d,rfl⟩:∃L,d=L+1:=⟨d-1,by omega⟩;rw[ri,j,F];simp only[List.getElem?_cons_zero,re,Int.reduceBEq,UQ,V1];obtain⟨t,G,oH,H,l,g⟩:=A.v K d P (by omega) Q;rw[H,re];cases M:fz mem env a with
    |error z=>
     rw[M]at g;obtain⟨rfl,k⟩:=g;simp only;rw[Vr.2 k,V1,re];exact⟨_,_,_,rfl,l,rfl,k⟩
    |ok p=>
     rw[M]at g;obtain⟨rfl,R,S,T⟩:=g;simp only;rw[show((0:Int) !=0)=false from rfl,UQ,ajy N hN,re,re,R,S];exact⟨_,_,_,rfl,l,RI (E.cast F)⟩
   |neg a j F=>
    have J:¬e.aD<=3:=by omega
    have II:a∈e.bS:=by rw[j];simp
    obtain⟨A,o8⟩:=o a II;have K:fi a=false:=by rw[E.want 0 a (by rw[j];rfl),F];rfl
    rw[Zx J,UQ,show(e.aD==11)=false by rw[F];rfl,UQ,Nl J j,F];obtain⟨d,rfl⟩:∃L,d=L+1:=⟨d-1,by omega⟩;rw[ri,j,F];simp only[List.getElem?_cons_zero,re,Int.reduceBEq,UQ,V1];obtain⟨t,G,oH,H,l,g⟩:=A.v K d P (by omega) Q;rw[H,re];cases M:fz mem env a with
    |error z=>
     rw[M]at g;obtain⟨rfl,k⟩:=g;simp only;rw[Vr.2 k,V1,re];exact⟨_,_,_,rfl,l,rfl,k⟩
    |ok p=>
     rw[M]at g;obtain⟨rfl,R,S,T⟩:=g;simp only;rw[show((0:Int) !=0)=false from rfl,UQ,Rk N hN,re,re,R,S];exact⟨_,_,_,rfl,l,RI T⟩
   |bin a b j F=>
    have J:¬e.aD<=3:=by omega
    obtain⟨A,o8⟩:=o a (by rw[j];simp);obtain⟨B,Af⟩:=o b (by rw[j];simp);have w0:jP e.aD 0=false:=by
     unfold jP;rw[show(e.aD==11)=false by rw[Vb];omega,show(e.aD==16)=false by rw[Vb];omega,show(e.aD==17)=false by rw[Vb];omega,show(e.aD==18)=false by rw[Vb];omega];rfl
    have w1:jP e.aD 1=false:=by
     unfold jP;rw[show(e.aD==11)=false by rw[Vb];omega,show(e.aD==16)=false by rw[Vb];omega,show(e.aD==17)=false by rw[Vb];omega,show(e.aD==18)=false by rw[Vb];omega];rfl
    have K:fi a=false:=by rw[E.want 0 a (by rw[j];rfl),w0]
    have cb:fi b=false:=by rw[E.want 1 b (by rw[j];rfl),w1]
    rw[Zx J,UQ,show(e.aD==11)=false by rw[Vb];omega,UQ,aaz J j];obtain⟨d,rfl⟩:∃L,d=L+1+1:=⟨d-2,by omega⟩;rw[ri,show(e.aD==8)=false by rw[Vb];omega,UQ,show(e.aD==12)=false by rw[Vb];omega,re,UQ];obtain⟨x,y,G,eP,H,l,g⟩:=aeW (e:=e) j A B K cb d P ⟨by omega,by omega⟩ Q;rw[H,re];cases M:fz mem env a with
    |error z=>
     rw[M]at g;obtain⟨rfl,k⟩:=g;simp only;rw[Vr.2 k,V1,re];exact⟨_,_,_,rfl,l,rfl,k⟩
    |ok p=>
     rw[M]at g;cases sa:fz mem env b with
     |error z=>
      rw[sa]at g;obtain⟨rfl,k⟩:=g;simp only;rw[Vr.2 k,V1,re];exact⟨_,_,_,rfl,l,rfl,k⟩
     |ok q=>
      rw[sa]at g;show ∃t G eP,_=_/\_/\Ur (bif jg p.2 q.2 then pM p.2 (mn e.aD p.2 p.1 q.1)else .error 10) G t;replace g:mB (bif jg p.2 q.2 then .ok (p,q)else .error 10) G (x,y) λp r=>r.1.iU=p.1.1/\r.1.gy=p.1.2/\r.2.iU=p.2.1/\r.2.gy=p.2.2/\dA p.1.2=true:=g;cases qZ:jg p.2 q.2 with
      |false=>
       rw[qZ]at g;obtain⟨rfl,k⟩:=g;simp only;rw[Vr.2 k,V1,re];exact⟨_,_,_,rfl,l,rfl,k⟩
      |true=>
       rw[qZ]at g;obtain⟨rfl,R,S,T,e4,e5⟩:=g;simp only at R S T e4 e5 ⊢;rw[show((0:Int) !=0)=false from rfl,UQ,Rk N hN,re,re,R,S,T];exact⟨_,_,_,rfl,l,RI e5⟩
   |ite c a b j F=>
    have J:¬e.aD<=3:=by omega
    obtain⟨C,hsc⟩:=o c (by rw[j];simp);obtain⟨A,o8⟩:=o a (by rw[j];simp);obtain⟨B,Af⟩:=o b (by rw[j];simp);have cc:fi c=true:=by rw[E.want 0 c (by rw[j];rfl),F];rfl
    have K:fi a=false:=by rw[E.want 1 a (by rw[j];rfl),F];rfl
    have cb:fi b=false:=by rw[E.want 2 b (by rw[j];rfl),F];rfl
    rw[Zx J,UQ,show(e.aD==11)=true by rw[F];rfl,V1,ads J j,j];simp only[List.getElem?_cons_zero,Yt,re];obtain⟨t,G,oH,H,l,g⟩:=C.h cc d P (by omega) Q;rw[H,re];cases W:kD mem env c with
    |error z=>
     rw[W]at g;obtain⟨rfl,k,rfl⟩:=g;simp only;rw[Vr.2 k,V1];exact⟨_,_,_,rfl,l,rfl,k⟩
    |ok s=>
     rw[W]at g;obtain⟨rfl,rfl⟩:=g;simp only;rw[show((0:Int) !=0)=false from rfl,UQ];cases t with
     |true=>
      obtain⟨u,G,MM,q1,q2,q3⟩:=A.v K d oH (by omega) l;rw[V1,q1,re];exact⟨_,_,_,rfl,q2,q3⟩
     |false=>
      obtain⟨u,G,MM,q1,q2,q3⟩:=B.v cb d oH (by omega) l;rw[UQ,q1,re];exact⟨_,_,_,rfl,q2,q3⟩
  ·intro hc d P hd Q;obtain⟨d,rfl⟩:∃L,d=L+1+1:=⟨d-2,by omega⟩;rw[qt,Fh];cases kc E hc with
   |not a j F=>
    obtain⟨A,o8⟩:=o a (by rw[j];simp);have K:fi a=true:=by rw[E.want 0 a (by rw[j];rfl),F];rfl
    rw[j,F,adi j,Zx (by decide),UQ];simp only[List.getElem?_cons_zero,re];obtain⟨t,G,oH,H,l,g⟩:=A.h K d P (by omega) Q;rw[H,re];cases W:kD mem env a with
    |error z=>
     rw[W]at g;obtain⟨rfl,k,rfl⟩:=g;simp only;rw[Vr.2 k,V1,re,V1,show(G==0)=false by rw[Vb];exact k,UQ,re,re];exact⟨_,_,_,rfl,l,rfl,k,rfl⟩
    |ok s=>
     rw[W]at g;obtain⟨rfl,rfl⟩:=g;exact⟨_,_,_,rfl,l,rfl,rfl⟩
   |cmp a b j F=>
    obtain⟨A,o8⟩:=o a (by rw[j];simp);obtain⟨B,Af⟩:=o b (by rw[j];simp);have w:∀i,jP e.aD i=false:=λi=>by
     unfold jP;rw[show(e.aD==11)=false by rw[Vb];omega,show(e.aD==16)=false by rw[Vb];omega,show(e.aD==17)=false by rw[Vb];omega,show(e.aD==18)=false by rw[Vb];omega];rfl
    have K:fi a=false:=by rw[E.want 0 a (by rw[j];rfl),w]
    have cb:fi b=false:=by rw[E.want 1 b (by rw[j];rfl),w]
    rw[dO (show e.aD<16 by omega),V1,PZ j,dO (show e.aD<16 by omega),V1];obtain⟨d,rfl⟩:∃L,d=L+1:=⟨d-1,by omega⟩;obtain⟨x,y,G,eP,H,l,g⟩:=aeW (e:=e) j A B K cb d P ⟨by omega,by omega⟩ Q;rw[H,re];cases M:fz mem env a with
    |error z=>
     rw[M]at g;obtain⟨rfl,k⟩:=g;simp only;rw[Vr.2 k,V1,re];exact⟨_,_,_,rfl,l,rfl,k,rfl⟩
    |ok p=>
     rw[M]at g;cases sa:fz mem env b with
     |error z=>
      rw[sa]at g;obtain⟨rfl,k⟩:=g;simp only;rw[Vr.2 k,V1,re];exact⟨_,_,_,rfl,l,rfl,k,rfl⟩
     |ok q=>
      rw[sa]at g;show ∃b G eP,_=_/\_/\AgH (bif jg p.2 q.2 then .ok (zl e.aD (lf p.2 p.1 q.1))else .error 10) G b;replace g:mB (bif jg p.2 q.2 then .ok (p,q)else .error 10) G (x,y) λp r=>r.1.iU=p.1.1/\r.1.gy=p.1.2/\r.2.iU=p.2.1/\r.2.gy=p.2.2/\dA p.1.2=true:=g;cases qZ:jg p.2 q.2 with
      |false=>
       rw[qZ]at g;obtain⟨rfl,k⟩:=g;simp only;rw[Vr.2 k,V1,re];exact⟨_,_,_,rfl,l,rfl,k,rfl⟩
      |true=>
       rw[qZ]at g;obtain⟨rfl,R,S,T,e4,e5⟩:=g;simp only at R S T e4 e5 ⊢;rw[show((0:Int) !=0)=false from rfl,UQ,R,S,T,afF N (by omega) _ _ _ e5,re];unfold Vo zl;cases (e.aD==13)with
       |true=>exact⟨_,_,_,rfl,l,rfl,rfl⟩
       |false=>
        cases (e.aD==14)with
        |true=>exact⟨_,_,_,rfl,l,rfl,rfl⟩
        |false=>exact⟨_,_,_,rfl,l,rfl,rfl⟩
   |log a b j F=>
    obtain⟨A,o8⟩:=o a (by rw[j];simp);obtain⟨B,Af⟩:=o b (by rw[j];simp);have w:∀i,jP e.aD i=true:=λi=>by
     unfold jP;rcases F with h|h<;>rw[h]<;>simp
    have K:fi a=true:=by rw[E.want 0 a (by rw[j];rfl),w]
    have cb:fi b=true:=by rw[E.want 1 b (by rw[j];rfl),w]
    rw[Zx (show ¬e.aD<16 by omega),UQ,PZ j,Zx (show ¬e.aD<16 by omega),UQ,j];simp only[List.getElem?_cons_zero,Yt,re];obtain⟨t,G,oH,H,l,g⟩:=A.h K d P (by omega) Q;rw[H,re];cases W:kD mem env a with
    |error z=>
     rw[W]at g;obtain⟨rfl,k,rfl⟩:=g;simp only;rw[Vr.2 k,V1,re,V1,show(G==0)=false by rw[Vb];exact k,UQ,re,re];exact⟨_,_,_,rfl,l,rfl,k,rfl⟩
    |ok s=>
     rw[W]at g;obtain⟨rfl,rfl⟩:=g;simp only;rw[show((0:Int) !=0)=false from rfl,UQ,show(e.aD==18)=false by rw[Vb];omega,re,UQ];obtain⟨u,G,MM,q1,q2,q3⟩:=B.h cb d oH (by omega) l;rw[q1,re];cases hg:kD mem env b with
     |error z=>
      rw[hg]at q3;obtain⟨rfl,k,rfl⟩:=q3;simp only;rw[Vr.2 k,V1,re];exact⟨_,_,_,rfl,q2,rfl,k,rfl⟩
     |ok s2=>
      rw[hg]at q3;obtain⟨rfl,rfl⟩:=q3;simp only;rw[show((0:Int) !=0)=false from rfl,UQ];unfold kx;simp only;cases (e.aD==16)<;>cases t<;>exact⟨_,_,_,rfl,q2,rfl,rfl⟩
def Nb(r:Except Int (aA×aL))(g:gi):Prop:=match r with
 | .ok x=>g=⟨x.1,x.2,0⟩
 | .error z=>g=⟨cd,dX,z⟩/\z≠0
def AgB(r:Except Int Bool)(p:Bool×Int):Prop:=match r with
 | .ok x=>p=(x,0)
 | .error z=>p=(false,z)/\z≠0
def apx(N:Nat)(h:2147483648<N)(mem:I aR)(env:I aJ)(e:ay)(i:HV e):∃g,IP N mem env e=some g/\Nb (rM mem env e) g:=by
 obtain⟨g,j,a,k⟩:=ajo N h mem env e i;refine⟨g,j,?_⟩;obtain⟨v,t,l⟩:=g;cases b:rM mem env e with
 |error z=>
  rw[b]at a;obtain⟨rfl,c⟩:=a;obtain⟨rfl,rfl⟩:=k c;exact⟨rfl,c⟩
 |ok x=>
  rw[b]at a;obtain⟨q1,d,f⟩:=a;simp only at q1 d f;subst q1;subst d;subst f;rfl
structure RfE(N:Nat)(mem:List aR)(env:List aJ)(e:ay):Prop where
 v:fi e=false->∀d:Nat,SizeOf.sizeOf e<=d->∃g,qd N d mem env e=some g/\Nb (fz mem env e) g
 h:fi e=true->∀d:Nat,SizeOf.sizeOf e<=d->∃p,vS N d mem env e=some p/\AgB (kD mem env e) p
def Wk{t:aL}{r:aA×Int}:∃g,(bif r.2 !=0then some (⟨cd,dX,r.2⟩:gi)else some (⟨r.1,t,0⟩:gi))=some g/\Nb (pM t r) g:=by
 unfold pM;cases h:(r.2 !=0)with
 |true=>exact⟨_,rfl,rfl,by simpa using h⟩
 |false=>exact⟨_,rfl,rfl⟩
def rfe(N:Nat)(Q:9223372036854775808<N)(mem:I aR)(env:I aJ):∀(n:Nat)(e:ay),SizeOf.sizeOf e<=n->Ev e->RfE N mem env e:=by
 intro n
 induction n with
 |zero=>intro e hs _;have:0<SizeOf.sizeOf e:=by cases e;simp;omega
        omega
 |succ n ih=>
  intro e hs R;have E:=R.n;have iR:0<SizeOf.sizeOf e:=by cases e;simp;omega
  have o:∀x∈e.bS,RfE N mem env x/\SizeOf.sizeOf x+1<=SizeOf.sizeOf e:=λx hx=>by
   have:=vi hx;exact⟨ih x (by omega) (R.arg hx),by omega⟩
  constructor
  ·intro S d hd;obtain⟨d,rfl⟩:∃T,d=T+1:=⟨d-1,by omega⟩;rw[qd];cases adN E S with
   |leaf y=>
    rw[dO y,V1,adu y];obtain⟨g,u,k⟩:=apx N (by omega) mem env e (R.f e Zl);rw[u,re];exact⟨_,rfl,k⟩
   |cast a j r=>
    have y:¬e.aD<=3:=by omega
    obtain⟨A,M⟩:=o a (by rw[j];simp);have F:fi a=false:=by rw[E.want 0 a (by rw[j];rfl),r];rfl
    rw[Zx y,UQ,Nl y j,j,r];simp only[List.getElem?_cons_zero,re,Int.reduceBEq,UQ,V1];obtain⟨g,u,k⟩:=A.v F d (by omega);rw[u,re];cases G:fz mem env a with
    |error z=>
     rw[G]at k;obtain⟨rfl,l⟩:=k;simp only;rw[Vr.2 l,V1];exact⟨_,rfl,rfl,l⟩
    |ok p=>
     rw[G]at k;cases k
     simp only;rw[show((0:Int) !=0)=false from rfl,UQ,ao9 N Q,re];exact Wk
   |neg a j r=>
    have y:¬e.aD<=3:=by omega
    obtain⟨A,M⟩:=o a (by rw[j];simp);have F:fi a=false:=by rw[E.want 0 a (by rw[j];rfl),r];rfl
    rw[Zx y,UQ,Nl y j,j,r];simp only[List.getElem?_cons_zero,re,Int.reduceBEq,UQ,V1,Int.reduceBNe];obtain⟨g,u,k⟩:=A.v F d (by omega);rw[u,re];unfold Ia;cases G:fz mem env a with
    |error z=>
     rw[G]at k;obtain⟨rfl,l⟩:=k;simp only;rw[Vr.2 l,V1];exact⟨_,rfl,rfl,l⟩
    |ok p=>
     rw[G]at k;cases k
     simp only;rw[show((0:Int) !=0)=false from rfl,UQ,UQ];show ∃g,(bif jg p.2 p.2 then _ else _)=_/\_;rw[(aoV).2 rfl,V1,r,TF N Q,re];exact Wk
   |bin a b j r=>
    have y:¬e.aD<=3:=by omega
    obtain⟨A,M⟩:=o a (by rw[j];simp);obtain⟨B,W⟩:=o b (by rw[j];simp);have w:∀i,jP e.aD i=false:=λi=>by
     unfold jP;rw[show(e.aD==11)=false by rw[Vb];omega,show(e.aD==16)=false by rw[Vb];omega,show(e.aD==17)=false by rw[Vb];omega,show(e.aD==18)=false by rw[Vb];omega];rfl
    have F:fi a=false:=by rw[E.want 0 a (by rw[j];rfl),w]
    have L:fi b=false:=by rw[E.want 1 b (by rw[j];rfl),w]
    rw[Zx y,UQ,show(e.aD==11)=false by rw[Vb];omega,UQ,show(e.aD==12)=false by rw[Vb];omega,aaz y j,j];simp only[List.getElem?_cons_zero,Yt,re];obtain⟨g,u,k⟩:=A.v F d (by omega);rw[u,re];cases G:fz mem env a with
    |error z=>
     rw[G]at k;obtain⟨rfl,l⟩:=k;simp only;rw[Vr.2 l,V1];exact⟨_,rfl,rfl,l⟩
    |ok p=>
     rw[G]at k;cases k
     simp only;rw[show((0:Int) !=0)=false from rfl,UQ,UQ,show(e.aD !=8)=true by rw[Vr];omega,V1];obtain⟨g,q1,t⟩:=B.v L d (by omega);rw[q1,re];unfold Ia;cases P:fz mem env b with
     |error z=>
      rw[P]at t;obtain⟨rfl,l⟩:=t;simp only;rw[Vr.2 l,V1];exact⟨_,rfl,rfl,l⟩
     |ok q=>
      rw[P]at t;cases t
      simp only;rw[show((0:Int) !=0)=false from rfl,UQ];show ∃g,(bif jg p.2 q.2 then _ else _)=_/\Nb (bif jg p.2 q.2 then pM p.2 (mn e.aD p.2 p.1 q.1)else .error 10) g;cases jg p.2 q.2 with
      |false=>exact⟨_,rfl,rfl,by decide⟩
      |true=>
       rw[V1,V1,TF N Q,re];exact Wk
   |ite c a b j r=>
    have y:¬e.aD<=3:=by omega
    obtain⟨C,hsc⟩:=o c (by rw[j];simp);obtain⟨A,M⟩:=o a (by rw[j];simp);obtain⟨B,W⟩:=o b (by rw[j];simp);have cc:fi c=true:=by rw[E.want 0 c (by rw[j];rfl),r];rfl
    have F:fi a=false:=by rw[E.want 1 a (by rw[j];rfl),r];rfl
    have L:fi b=false:=by rw[E.want 2 b (by rw[j];rfl),r];rfl
    rw[Zx y,UQ,show(e.aD==11)=true by rw[r];rfl,V1,ads y j,j];simp only[List.getElem?_cons_zero,Yt,re];obtain⟨p,u,k⟩:=C.h cc d (by omega);rw[u,re];cases H:kD mem env c with
    |error z=>
     rw[H]at k;obtain⟨rfl,l⟩:=k;simp only;rw[Vr.2 l,V1];exact⟨_,rfl,rfl,l⟩
    |ok s=>
     rw[H]at k;cases k
     simp only;rw[show((0:Int) !=0)=false from rfl,UQ];cases s with
     |true=>
      obtain⟨g,q1,t⟩:=A.v F d (by omega);rw[V1,q1,re];exact⟨_,rfl,t⟩
     |false=>
      obtain⟨g,q1,t⟩:=B.v L d (by omega);rw[UQ,q1,re];exact⟨_,rfl,t⟩
  ·intro S d hd;obtain⟨d,rfl⟩:∃T,d=T+1:=⟨d-1,by omega⟩;rw[vS];cases kc E S with
   |not a j r=>
    obtain⟨A,M⟩:=o a (by rw[j];simp);have F:fi a=true:=by rw[E.want 0 a (by rw[j];rfl),r];rfl
    rw[j,r,adi j,dO (by decide),V1];simp only[List.getElem?_cons_zero,re];obtain⟨p,u,k⟩:=A.h F d (by omega);rw[u,re];cases H:kD mem env a with
    |error z=>
     rw[H]at k;obtain⟨rfl,l⟩:=k;simp only;rw[Vr.2 l,V1,re,V1,show(z==0)=false by rw[Vb];exact l,UQ,re];exact⟨_,rfl,rfl,l⟩
    |ok s=>
     rw[H]at k;cases k
     exact⟨_,rfl,rfl⟩
   |cmp a b j r=>
    obtain⟨A,M⟩:=o a (by rw[j];simp);obtain⟨B,W⟩:=o b (by rw[j];simp);have w:∀i,jP e.aD i=false:=λi=>by
     unfold jP;rw[show(e.aD==11)=false by rw[Vb];omega,show(e.aD==16)=false by rw[Vb];omega,show(e.aD==17)=false by rw[Vb];omega,show(e.aD==18)=false by rw[Vb];omega];rfl
    have F:fi a=false:=by rw[E.want 0 a (by rw[j];rfl),w]
    have L:fi b=false:=by rw[E.want 1 b (by rw[j];rfl),w]
    rw[Zx (show ¬e.aD>=16 by omega),UQ,PZ j,dO (show e.aD<16 by omega),V1,j];simp only[List.getElem?_cons_zero,Yt,re];obtain⟨g,u,k⟩:=A.v F d (by omega);rw[u,re];cases G:fz mem env a with
    |error z=>
     rw[G]at k;obtain⟨rfl,l⟩:=k;simp only;rw[Vr.2 l,V1];exact⟨_,rfl,rfl,l⟩
    |ok p=>
     rw[G]at k;cases k
     simp only;rw[show((0:Int) !=0)=false from rfl,UQ];obtain⟨g,q1,t⟩:=B.v L d (by omega);rw[q1,re];cases P:fz mem env b with
     |error z=>
      rw[P]at t;obtain⟨rfl,l⟩:=t;simp only;rw[Vr.2 l,V1];exact⟨_,rfl,rfl,l⟩
     |ok q=>
      rw[P]at t;cases t
      simp only;rw[show((0:Int) !=0)=false from rfl,UQ];show ∃g,(bif jg p.2 q.2 then _ else _)=_/\AgB (bif jg p.2 q.2 then .ok (zl e.aD (lf p.2 p.1 q.1))else .error 10) g;cases jg p.2 q.2 with
      |false=>exact⟨_,rfl,rfl,by decide⟩
      |true=>
       rw[V1,V1,SB N (by omega),re];generalize lf p.2 p.1 q.1=c;refine⟨(zl e.aD c,0),?_,rfl⟩;have nN:e.aD=13\/e.aD=14\/e.aD=15:=by omega
       unfold zl;rcases nN with h|h|h<;>rw[h]
       ·by_cases J:c<0
        ·rw[dO J];rfl
        ·rw[Zx J];by_cases K:c=0
         ·subst K;rfl
         ·rw[show(c==0)=false by rw[Vb];exact K];rfl
       ·by_cases J:c<0
        ·rw[dO J,dO (show c<=0 by omega)];rfl
        ·rw[Zx J];by_cases K:c=0
         ·subst K;rfl
         ·rw[show(c==0)=false by rw[Vb];exact K,Zx (show ¬c<=0 by omega)];rfl
       ·by_cases J:c<0
        ·rw[dO J,show(c==0)=false by rw[Vb];omega];rfl
        ·rw[Zx J];by_cases K:c=0
         ·subst K;rfl
         ·rw[show(c==0)=false by rw[Vb];exact K];rfl
   |log a b j r=>
    obtain⟨A,M⟩:=o a (by rw[j];simp);obtain⟨B,W⟩:=o b (by rw[j];simp);have w:∀i,jP e.aD i=true:=λi=>by
     unfold jP;rcases r with h|h<;>rw[h]<;>simp
    have F:fi a=true:=by rw[E.want 0 a (by rw[j];rfl),w]
    have L:fi b=true:=by rw[E.want 1 b (by rw[j];rfl),w]
    rw[dO (show e.aD>=16 by omega),V1,PZ j,Zx (show ¬e.aD<16 by omega),UQ,j];simp only[List.getElem?_cons_zero,Yt,re];obtain⟨p,u,k⟩:=A.h F d (by omega);rw[u,re];cases H:kD mem env a with
    |error z=>
     rw[H]at k;obtain⟨rfl,l⟩:=k;simp only;rw[Vr.2 l,V1,re,V1,show(z==0)=false by rw[Vb];exact l,UQ,re];exact⟨_,rfl,rfl,l⟩
    |ok s=>
     rw[H]at k;cases k
     simp only;rw[show((0:Int) !=0)=false from rfl,UQ,show(e.aD==18)=false by rw[Vb];omega,re,UQ];obtain⟨q,q1,t⟩:=B.h L d (by omega);rw[q1,re];cases hg:kD mem env b with
     |error z=>
      rw[hg]at t;obtain⟨rfl,l⟩:=t;simp only;rw[Vr.2 l,V1];exact⟨_,rfl,rfl,l⟩
     |ok s2=>
      rw[hg]at t;cases t
      simp only;rw[show((0:Int) !=0)=false from rfl,UQ];unfold kx;simp only;refine⟨(bif e.aD==16 then s&&s2 else s||s2,0),?_,rfl⟩;rcases r with h|h<;>rw[h]<;>cases s<;>cases s2<;>rfl
end Go.Proofs.YtnnapanbbbcalaaGreatDoor
