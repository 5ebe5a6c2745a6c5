/-
  Part 13 of the proof: EvA, EvB, EvC, EvD, InVal3, InVal4, EvE, EvF, EvG, SdV, SdL, EvH, Wts, CpE, Eqs, SmE, SmR, SmS, SdC, SdD, SdE, SdF.
-/
import Derived.Test.YtfdhojiehjfghaaGreatDoorPs12
namespace Go.Proofs.YtfdhojiehjfghaaGreatDoor
open Go.RowKit
set_option maxRecDepth 100000
set_option linter.unusedSimpArgs false
set_option linter.unusedVariables false
def mT:anD bm->anE->anF Int64
 |[],_=>none
 |b::r,s=>bif bL b.aO==bL s then some b.bg else mT r s
def gD(env:anD bm):anD bf->Int->anF Int
 |[],a=>some a
 |m::r,a=>match mT env m.aO with
  |none=>none
  |some v=>gD env r (a+m.cA.toInt*v.toInt)
def cU(l:aP)(env:anD bm):Int64×Int:=bif !dY l then(0,1)else match gD env l.xL l.xK.toInt with
 |none=>(0,9)
 |some s=>bif dU s then(Int64.ofInt s,0)else(0,3)
def wv(w:jf):Int:=w.jD+w.kH*18446744073709551616+w.nN*340282366920938463463374607431768211456
structure U3(w:jf):Prop where
 h0:0<=w.nN
 h1:w.nN<18446744073709551616
 m0:0<=w.kH
 m1:w.kH<18446744073709551616
 l0:0<=w.jD
 l1:w.jD<18446744073709551616
abbrev rE:Int:=6277101735386680763835789423207666416102355444464034512896
theorem Pv{x:Int}(h0:0<=x)(h1:x<18446744073709551616):IntKind.u64.wrap ((BitVec.ofInt (IntKind.bits .u64) (IntKind.max .u64)^^^BitVec.ofInt (IntKind.bits .u64) x).toNat:Int)=18446744073709551615-x:=by
 obtain⟨n,rfl⟩:=Int.eq_ofNat_of_zero_le h0;have e:(BitVec.ofInt (IntKind.bits .u64) (IntKind.max .u64)^^^BitVec.ofInt (IntKind.bits .u64) (n:Int))= ~~~(BitVec.ofNat 64 n):=by
  show(BitVec.ofInt 64 18446744073709551615^^^BitVec.ofInt 64 (n:Int))=_;rw[show BitVec.ofInt 64 18446744073709551615=BitVec.allOnes 64 by decide,BitVec.allOnes_xor,BitVec.ofInt_natCast]
 have e2:(BitVec.ofInt (IntKind.bits .u64) (IntKind.max .u64)^^^BitVec.ofInt (IntKind.bits .u64) (n:Int)).toNat=2^64-1-n%2^64:=by
  have h:=congrArg BitVec.toNat e;have h2:(~~~(BitVec.ofNat 64 n)).toNat=2^64-1-n%2^64:=by rw[BitVec.toNat_not,BitVec.toNat_ofNat]
  exact h.trans h2
 rw[e2,IntKind.wrap_u64];omega
theorem HQ(N:Nat)(w:jf)(U:U3 w){top hi lo:Int}(t0:0<=top)(t1:top<18446744073709551616)(a0:0<=hi)(a1:hi<18446744073709551616)(b0:0<=lo)(b1:lo<18446744073709551616):
 ∃r:jf,sR N w hi lo top=some (r.nN,r.kH,r.jD)/\U3 r/\∃k:Int,wv r=wv w+(lo+hi*18446744073709551616+top*340282366920938463463374607431768211456)+k*rE:=by
 obtain⟨h0,h1,m0,m1,l0,l1⟩:=U;obtain⟨H,M,L⟩:=w;simp only at h0 h1 m0 m1 l0 l1;have e1:∃c:Int,(c=0\/c=1)/\sR N ⟨H,M,L⟩ hi lo top=x6 N ⟨H,M,L⟩ hi top lo c/\IntKind.u64.wrap (L+lo)=L+lo-c*18446744073709551616:=by
  unfold sR;simp only;rw[IntKind.wrap_u64];by_cases hc:(L+lo)%18446744073709551616<lo
  ·rw[anv hc];exact⟨1, .inr rfl,rfl,by omega⟩
  ·rw[anw hc];exact⟨0, .inl rfl,rfl,by omega⟩
 obtain⟨c,hc,e1,f1⟩:=e1;have e2:∃d:Int,(d=0\/d=1)/\x6 N ⟨H,M,L⟩ hi top lo c=vO N ⟨H,M,L⟩ hi c top lo d/\IntKind.u64.wrap (M+hi)=M+hi-d*18446744073709551616:=by
  unfold x6;simp only;rw[IntKind.wrap_u64];by_cases hd:(M+hi)%18446744073709551616<hi
  ·rw[anv hd];exact⟨1, .inr rfl,rfl,by omega⟩
  ·rw[anw hd];exact⟨0, .inl rfl,rfl,by omega⟩
 obtain⟨d,hd,e2,f2⟩:=e2;have hx:=tw (M+hi);rw[f2]at hx;have e3:∃e:Int,(e=0\/e=1)/\vO N ⟨H,M,L⟩ hi c top lo d=Fj N ⟨H,M,L⟩ top hi c lo (d+e)/\IntKind.u64.wrap (IntKind.u64.wrap (M+hi)+c)=M+hi+c-(d+e)*18446744073709551616/\d+e<=1:=by
  unfold vO;simp only;rw[f2,IntKind.wrap_u64 (M+hi-d*18446744073709551616+c),IntKind.wrap_u64 (d+1)];by_cases he:(M+hi-d*18446744073709551616+c)%18446744073709551616<M+hi-d*18446744073709551616
  ·rw[anv he];have:d=0:=by omega
   subst this;exact⟨1, .inr rfl,rfl,by omega,by omega⟩
  ·rw[anw he];exact⟨0, .inl rfl,by rw[Int.add_zero];rfl,by omega,by omega⟩
 obtain⟨e,he,e3,f3,f4⟩:=e3;refine⟨⟨IntKind.u64.wrap (H+IntKind.u64.wrap (top+(d+e))),IntKind.u64.wrap (IntKind.u64.wrap (M+hi)+c),IntKind.u64.wrap (L+lo)⟩,by rw[e1,e2,e3];rfl,?_,?_⟩
 ·refine⟨(tw _).1,(tw _).2,(tw _).1,(tw _).2,(tw _).1,(tw _).2⟩
 ·unfold wv;simp only;rw[f1,f3,IntKind.wrap_u64,IntKind.wrap_u64];refine⟨-((H+(top+(d+e))%18446744073709551616)/ 18446744073709551616+(top+(d+e))/ 18446744073709551616),?_⟩;unfold rE;generalize tb:(top+(d+e))/ 18446744073709551616=q1;generalize DP:(top+(d+e))%18446744073709551616=r1;have g1:top+(d+e)=18446744073709551616*q1+r1:=by omega
  generalize rb:(H+r1)/ 18446744073709551616=q2;generalize C4:(H+r1)%18446744073709551616=r2;have g2:H+r1=18446744073709551616*q2+r2:=by omega
  omega
theorem W6(N:Nat)(w:jf)(U:U3 w){hi lo:Int}(a0:0<=hi)(a1:hi<18446744073709551616)(b0:0<=lo)(b1:lo<18446744073709551616)(neg:Bool):
 ∃r:jf,zM N hi lo neg w=some (r.nN,r.kH,r.jD)/\U3 r/\∃k:Int,wv r=wv w+(bif neg then-(lo+hi*18446744073709551616)else lo+hi*18446744073709551616)+k*rE:=by
 unfold zM;rw[Pv a0 a1,Pv b0 b1,Pv (Int.le_refl 0) (by decide)];cases neg with
 |false=>
  rw[cond_false,cond_false];obtain⟨r,h1,h2,k,h3⟩:=HQ N w U (top:=0) (by decide) (by decide) a0 a1 b0 b1;exact⟨r,h1,h2,k,by rw[h3];omega⟩
 |true=>
  rw[cond_true,cond_true];simp only[IntKind.wrap_u64];by_cases z1:lo=0
  ·subst z1;rw[show(((18446744073709551615-0+1:Int)%18446744073709551616)==0)=true by decide,cond_true];by_cases z2:hi=0
   ·subst z2;rw[show(((18446744073709551615-0+1:Int)%18446744073709551616)==0)=true by decide,cond_true];obtain⟨r,h1,h2,k,h3⟩:=HQ N w U (top:=(18446744073709551615-0+1)%18446744073709551616) (hi:=(18446744073709551615-0+1)%18446744073709551616) (lo:=(18446744073709551615-0+1)%18446744073709551616) (by decide) (by decide) (by decide) (by decide) (by decide) (by decide);exact⟨r,h1,h2,k,by rw[h3];rfl⟩
   ·rw[show(((18446744073709551615-hi+1:Int)%18446744073709551616)==0)=false by rw[beq_eq_false_iff_ne];omega,cond_false];obtain⟨r,h1,h2,k,h3⟩:=HQ N w U (top:=18446744073709551615-0) (hi:=(18446744073709551615-hi+1)%18446744073709551616) (lo:=(18446744073709551615-0+1)%18446744073709551616) (by decide) (by decide) (by omega) (by omega) (by decide) (by decide);exact⟨r,h1,h2,k+1,by rw[h3];unfold rE;omega⟩
  ·rw[show(((18446744073709551615-lo+1:Int)%18446744073709551616)==0)=false by rw[beq_eq_false_iff_ne];omega,cond_false];obtain⟨r,h1,h2,k,h3⟩:=HQ N w U (top:=18446744073709551615-0) (hi:=18446744073709551615-hi) (lo:=(18446744073709551615-lo+1)%18446744073709551616) (by decide) (by decide) (by omega) (by omega) (by omega) (by omega);exact⟨r,h1,h2,k+1,by rw[h3];unfold rE;omega⟩
theorem aaE{a b:Int}(h:∃k:Int,a=b+k*18446744073709551616):Int64.ofInt a=Int64.ofInt b:=by
 obtain⟨k,rfl⟩:=h;apply Int64.toInt_inj.1;rw[Int64.toInt_ofInt,Int64.toInt_ofInt,Int.bmod_def,Int.bmod_def];have:(b+k*18446744073709551616)%18446744073709551616=b%18446744073709551616:=by omega
 simp only[show((2^64:Nat):Int)=18446744073709551616 by decide];rw[this]
theorem adI(N:Nat)(w:jf)(U:U3 w){s:Int}(b1: -3138550867693340381917894711603833208051177722232017256448<=s)(b2:s<3138550867693340381917894711603833208051177722232017256448)(hs:∃k:Int,wv w=s+k*rE):
 IL N w=some (Int64.ofInt s,dU s):=by
 obtain⟨h0,h1,m0,m1,l0,l1⟩:=U;obtain⟨H,M,L⟩:=w;obtain⟨k,hs⟩:=hs;unfold wv rE at hs;simp only at h0 h1 m0 m1 l0 l1 hs;unfold IL;simp only;have en:(Int64.ofInt L).toInt=if L<9223372036854775808 then L else L-18446744073709551616:=by
  rw[Int64.toInt_ofInt,Int.bmod_def];simp only[show((2^64:Nat):Int)=18446744073709551616 by decide];split<;>split<;>omega
 have ef:((Int64.ofInt L).toInt.fdiv (2^(min ((63:Int)).toNat (IntKind.bits .i64))))=if L<9223372036854775808 then 0 else-1:=by
  rw[show((2:Int)^(min ((63:Int)).toNat (IntKind.bits .i64)))=9223372036854775808 by decide,Int.fdiv_eq_ediv_of_nonneg _ (by decide),en];split<;>omega
 rw[ef];have eg:∀z:Int,(z=0\/z= -1)->IntKind.u64.wrap (Int64.ofInt z).toInt=if z=0 then 0 else 18446744073709551615:=λz hz=>by
   rcases hz with rfl|rfl<;>decide
 rw[eg _ (by split<;>simp)];have e1:Int64.ofInt L=Int64.ofInt s:=aaE ⟨k*340282366920938463463374607431768211456-M-H*18446744073709551616,by omega⟩;rw[e1];have e2:(bif (M==(if(if L<9223372036854775808 then(0:Int)else-1)=0 then(0:Int)else 18446744073709551615))then some (H==(if(if L<9223372036854775808 then(0:Int)else-1)=0 then(0:Int)else 18446744073709551615))else some false)=some (dU s):=by
   by_cases hL:L<9223372036854775808
   ·simp only[hL,if_true];by_cases hM:M=0
    ·rw[show(M==0)=true by rw[beq_iff_eq];exact hM,cond_true];by_cases hH:H=0
     ·rw[show(H==0)=true by rw[beq_iff_eq];exact hH];rw[(kg (n:=s)).2 (by subst hM;subst hH;omega)]
     ·rw[show(H==0)=false by rw[beq_eq_false_iff_ne];exact hH]
      congr 1;symm
      rw[<-Bool.not_eq_true,kg];omega
    ·rw[show(M==0)=false by rw[beq_eq_false_iff_ne];exact hM,cond_false]
     congr 1;symm
     rw[<-Bool.not_eq_true,kg];omega
   ·simp only[hL,if_false];rw[if_neg (by decide)];by_cases hM:M=18446744073709551615
    ·rw[show(M==18446744073709551615)=true by rw[beq_iff_eq];exact hM,cond_true];by_cases hH:H=18446744073709551615
     ·rw[show(H==18446744073709551615)=true by rw[beq_iff_eq];exact hH];rw[(kg (n:=s)).2 (by subst hM;subst hH;omega)]
     ·rw[show(H==18446744073709551615)=false by rw[beq_eq_false_iff_ne];exact hH]
      congr 1;symm
      rw[<-Bool.not_eq_true,kg];omega
    ·rw[show(M==18446744073709551615)=false by rw[beq_eq_false_iff_ne];exact hM,cond_false]
     congr 1;symm
     rw[<-Bool.not_eq_true,kg];omega
 rw[e2,amM]
theorem RQ(N:Nat)(m:bf):∀(env:anD bm)(k:Nat),(mT env m.aO=none->AX N m env k=some (-1))/\(∀v,mT env m.aO=some v->∃i b,AX N m env k=some ((k+i:Nat):Int)/\env[i]?=some b/\b.bg=v)
 |[],k=>⟨λ_=>rfl,λv h=>by cases h⟩
 |b::r,k=>by
  obtain⟨h1,h2⟩:=RQ N m r (k+1);unfold mT AX Nb;simp only[amM];cases hb:(bL b.aO==bL m.aO)with
  |true=>exact⟨λh=>(by cases h),λv h=>by cases h;exact⟨0,b,rfl,rfl,rfl⟩⟩
  |false=>
   simp only[cond_false];refine⟨h1,λv h=> ?_⟩;obtain⟨i,c,q1,q2,q3⟩:=h2 v h;exact⟨i+1,c,by rw[q1];congr 2;omega,q2,q3⟩
def HN:anF Int->Int64×Int
 |none=>(0,9)
 |some s=>bif dU s then(Int64.ofInt s,0)else(0,3)
theorem ajl(l:aP)(env:anD bm):cU l env=bif !dY l then(0,1)else HN (gD env l.xL l.xK.toInt):=by
 unfold cU HN;cases gD env l.xL l.xK.toInt<;>rfl
theorem afe(a b:Int64):(a.toInt*b.toInt).natAbs<=85070591730234615865843651857942052864:=by
 have h1:=l7 a;have h2:=l7 b;rw[Int.natAbs_mul];exact Nat.mul_le_mul (show a.toInt.natAbs<=9223372036854775808 by omega) (show b.toInt.natAbs<=9223372036854775808 by omega)
theorem Sg(N:Nat)(env:anD bm):∀(l:anD bf)(k:Nat)(w:jf)(s:Int),U3 w->(∃k:Int,wv w=s+k*rE)->s.natAbs+l.length*85070591730234615865843651857942052864<=1569275433846670190958947355801916604025588861116008628224->
 BO N env l k w.nN w.kH w.jD=some (HN (gD env l s))
 |[],k,w,s,U,hk,hb=>by
  unfold BO gD HN;rw[show(⟨w.nN,w.kH,w.jD⟩:jf)=w from rfl];simp only[amZ,Nat.zero_mul,Nat.add_zero]at hb;rw[adI N w U (by omega) (by omega) hk,amM];simp only;cases dU s<;>rfl
 |m::r,k,w,s,U,hk,hb=>by
  unfold BO gD;simp only;rw[show Q7 N env m=AX N m env 0 from rfl];obtain⟨h1,h2⟩:=RQ N m env 0;cases hf:mT env m.aO with
  |none=>rw[h1 hf];rfl
  |some v=>
   obtain⟨i,b,q1,q2,q3⟩:=h2 v hf;rw[q1,amM,am7,anw (by omega),cond_false,anv (by omega),cond_true,anf,q2,amM,DZ,amM,DZ,amM];have ha:=l7 m.cA;have hv:=l7 b.bg;rw[YQ N _ _ (by omega) (by omega),amM];subst q3;have hu:=afe m.cA b.bg;have hm:=Uy m.cA.toInt b.bg.toInt;have h0:0<=(m.cA.toInt.natAbs:Int)*b.bg.toInt.natAbs:=Int.mul_nonneg (by omega) (by omega);have hp:(m.cA.toInt.natAbs:Int)*b.bg.toInt.natAbs<=85070591730234615865843651857942052864:=by
    rw[<-Int.natCast_mul,<-Int.natAbs_mul];omega
   generalize (m.cA.toInt.natAbs:Int)*b.bg.toInt.natAbs=p at*;obtain⟨w',e1,U',k',e2⟩:=W6 N w U (hi:=p / 18446744073709551616) (lo:=p%18446744073709551616) (by omega) (by omega) (by omega) (by omega) (!((decide (m.cA.toInt<0))==(decide (b.bg.toInt<0))));rw[show(⟨w.nN,w.kH,w.jD⟩:jf)=w from rfl,e1,amM];simp only;have Z4:p%18446744073709551616+p / 18446744073709551616*18446744073709551616=p:=by omega
   rw[Z4]at e2;have e3:(bif (!((decide (m.cA.toInt<0))==(decide (b.bg.toInt<0))))then-p else p)=m.cA.toInt*b.bg.toInt:=by
     rw[hm];cases (decide (m.cA.toInt<0)==decide (b.bg.toInt<0))with
     |true=>simp
     |false=>simp
   rw[e3]at e2;obtain⟨k0,hk⟩:=hk;refine Sg N env r (k+1) w' (s+m.cA.toInt*b.bg.toInt) U' ⟨k0+k',by rw[e2,hk];unfold rE;omega⟩ ?_;rw[amQ]at hb;have:(s+m.cA.toInt*b.bg.toInt).natAbs<=s.natAbs+(m.cA.toInt*b.bg.toInt).natAbs:=Int.natAbs_add_le _ _;omega
theorem MJ(N:Nat)(hN:2147483648<N)(l:aP)(env:anD bm)(hl:l.xL.length<=4611686018427387904):AL N l env=some (cU l env):=by
 unfold AL;rw[ajl,Bd N (by omega) l (am5 hl (by decide)),amM];cases hb:dY l with
 |false=>rfl
 |true=>
  simp only[Bool.not_true,cond_false];rw[cond_true,show((0:Int) !=0)=false from rfl,cond_false,DZ,amM];have hK:=l7 l.xK;obtain⟨w',e1,U',k',e2⟩:=W6 N SZ ⟨by decide,by decide,by decide,by decide,by decide,by decide⟩ (hi:=0) (lo:=(l.xK.toInt.natAbs:Int)) (by decide) (by decide) (by omega) (by omega) (decide (l.xK.toInt<0));rw[e1,amM];refine Sg N env l.xL 0 w' l.xK.toInt U' ⟨k',?_⟩ (by omega);rw[e2];by_cases h:l.xK.toInt<0
  ·rw[anv h,cond_true];show(0:Int)+0*_+0*_+_+_=_;omega
  ·rw[anw h,cond_false];show(0:Int)+0*_+0*_+_+_=_;omega
def vL(d:anD Int):Bool:=decide (d.length<=6)&&(d.all (λn=>decide (1<=n))&&decide (d.foldl (·*·) 1<=4096))
theorem WS{d:anD Int}:d.all (λn=>decide (1<=n))=true↔∀n∈d,1<=n:=by rw[ane];simp
theorem Ka(d:anD Int)(a:Int):d.foldl (·*·) a=a*d.foldl (·*·) 1:=by
 induction d generalizing a with
 |nil=>simp
 |cons x d ih=>rw[List.foldl_cons,List.foldl_cons,ih (a*x),ih (1*x),Int.one_mul,Int.mul_assoc]
theorem Cc{d:anD Int}(h:∀n∈d,1<=n):1<=d.foldl (·*·) 1:=by
 induction d with
 |nil=>simp
 |cons x d ih=>
  rw[List.foldl_cons,Int.one_mul,Ka];have h1:=h x amT;have h2:=ih λn hn=>h n (amW _ hn);have:=Int.mul_le_mul h1 h2 (by decide) (by omega);omega
theorem xg{n:Int}(h1: -9223372036854775808<=n)(h2:n<=9223372036854775807):aS n=n:=by unfold aS;rw[IntKind.wrap_i64];omega
theorem akk{s n:Int}(hs:1<=s)(vD:s<=4096):decide (n>IntKind.i64.wrap ((4096:Int).tdiv s))=decide (4096<s*n):=by
 have e:(4096:Int).tdiv s=4096 / s:=Int.tdiv_eq_ediv_of_nonneg (by decide);have h1:0<=4096/ s:=Int.ediv_nonneg (by decide) (by omega);have h2:(4096:Int)/ s<=4096:=Int.ediv_le_self s (by decide);rw[e,show IntKind.i64.wrap ((4096:Int)/ s)=4096 / s from xg (by omega) (by omega)];refine decide_eq_decide.2 ?_;rw[gt_iff_lt,Int.ediv_lt_iff_lt_mul (by omega),Int.mul_comm]
theorem X3(N:Nat):∀(d:anD Int)(k:Nat)(s:Int),1<=s->s<=4096->(∀n∈d,1<=n)->An N d k s=some (bif decide (d.foldl (·*·) s<=4096)then 0 else 2)
 |[],k,s,h1,h2,h=>by unfold An;rw[List.foldl_nil,anv h2];rfl
 |n::d,k,s,h1,h2,h=>by
  unfold An;rw[show(s !=0)=true by rw[bne_iff_ne];omega,cond_true,akk h1 h2,List.foldl_cons];have hn:=h n amT;have hd:∀m∈d,1<=m:=λm hm=>h m (amW _ hm);have O8:1<=s*n:=by have:=Int.mul_le_mul h1 hn (by decide) (by omega);omega
  by_cases hc:4096<s*n
  ·rw[anv hc,cond_true,anw]
   ·rfl
   ·rw[Ka];have:=Int.mul_le_mul (Int.le_refl (s*n)) (Cc hd) (by decide) (by omega);omega
  ·rw[anw hc,cond_false,xg (by omega) (by omega)];exact X3 N d (k+1) (s*n) O8 (by omega) hd
theorem Tv(N:Nat)(v:anD Int):∀(d:anD Int)(k:Nat),(v=d\/True)->Gv N v d k=bif d.all (λn=>decide (1<=n))then An N v 0 1 else some 1
 |[],k,_=>rfl
 |n::d,k,_=>by
  unfold Gv;rw[anz,Tv N v d (k+1) (.inr trivial)];by_cases h:n<1
  ·rw[anv h,anw (show ¬1<=n by omega)];rfl
  ·rw[anw h,anv (show 1<=n by omega)];rfl
theorem WU(N:Nat)(d:anD Int):∃e,BW N d=some e/\(e !=0)= !vL d:=by
 unfold BW vL;by_cases h:d.length<=6
 ·rw[anw (show ¬(d.length:Int)>6 by omega),cond_false,anv h,Bool.true_and,Tv N d d 0 (.inr trivial)];cases ha:d.all (λn=>decide (1<=n))with
  |false=>exact⟨1,rfl,rfl⟩
  |true=>
   rw[cond_true,X3 N d 0 1 (by decide) (by decide) (WS.1 ha),Bool.true_and];refine⟨_,rfl,?_⟩;cases decide (d.foldl (·*·) 1<=4096)<;>rfl
 ·rw[anv (show(d.length:Int)>6 by omega),anw h];exact⟨2,rfl,rfl⟩
theorem TB(N:Nat):∀(d:anD Int)(k:Nat)(s:Int),1<=s->(∀n∈d,1<=n)->d.foldl (·*·) s<=4096->GP N d k s=some (d.foldl (·*·) s)
 |[],k,s,_,_,_=>rfl
 |n::d,k,s,h1,h,hb=>by
  unfold GP;rw[List.foldl_cons]at hb ⊢;have hn:=h n amT;have hd:∀m∈d,1<=m:=λm hm=>h m (amW _ hm);have O8:1<=s*n:=by have:=Int.mul_le_mul h1 hn (by decide) (by omega);omega
  have hle:s*n<=4096:=by
   rw[Ka]at hb;have:=Int.mul_le_mul (Int.le_refl (s*n)) (Cc hd) (by decide) (by omega);omega
  simp only;rw[xg (by omega) (by omega)];exact TB N d (k+1) (s*n) O8 hd hb
structure Va(d:List Int):Prop where
 len:d.length<=6
 pos:∀n∈d,1<=n
 le:d.foldl (·*·) 1<=4096
theorem Mp{d:anD Int}(h:vL d=true):Va d:=by
 unfold vL at h;simp only[amP,decide_eq_true_eq]at h;exact⟨h.1,WS.1 h.2.1,h.2.2⟩
theorem akq(N:Nat){d:anD Int}(h:vL d=true):Jn N d=some (d.foldl (·*·) 1):=by
 obtain⟨e,h1,h2⟩:=WU N d;unfold Jn;rw[h1,amM,h2,h];exact TB N d 0 1 (by decide) (Mp h).pos (Mp h).le
def nT(t:a8):Bool:=b9 t.aD&&(vL t.dg&&(((t.eN.length:Int)==t.dg.foldl (·*·) 1)&&t.eN.all (b4 t.aD)))
theorem S1(N:Nat)(hN:2147483648<N)(t:a8)(ht:b9 t.aD=true):∀(l:anD aB)(k:Nat),IY N t l k=some (bif l.all (b4 t.aD)then 0 else 1)
 |[],k=>rfl
 |v::l,k=>by
  unfold IY;rw[sX N hN _ _ ht,amM,anz];cases b4 t.aD v with
  |true=>rw[cond_true,S1 N hN t ht l (k+1),Bool.true_and]
  |false=>rfl
theorem afg(N:Nat)(hN:2147483648<N)(t:a8):∃e,Ic N t=some e/\(e !=0)= !nT t:=by
 unfold Ic nT;rw[pE,amM];cases ht:b9 t.aD with
 |false=>exact⟨10,rfl,rfl⟩
 |true=>
  rw[cond_true,show((0:Int) !=0)=false from rfl,cond_false,Bool.true_and];obtain⟨e,h1,h2⟩:=WU N t.dg;rw[h1,amM,h2];cases hs:vL t.dg with
  |false=>
   refine⟨e,rfl,?_⟩;rw[h2,hs];rfl
  |true=>
   rw[Bool.not_true,cond_false,akq N hs,amM,Bool.true_and];cases hl:((t.eN.length:Int)==t.dg.foldl (·*·) 1)with
   |false=>
    refine⟨1,?_,rfl⟩;rw[show((t.eN.length:Int) !=t.dg.foldl (·*·) 1)=true by unfold bne;rw[hl];rfl];rfl
   |true=>
    rw[show((t.eN.length:Int) !=t.dg.foldl (·*·) 1)=false by unfold bne;rw[hl];rfl,cond_false,S1 N hN t ht];refine⟨_,rfl,?_⟩;rw[Bool.true_and];cases t.eN.all (b4 t.aD)<;>rfl
def kJ:anD bp->anE->anF a8
 |[],_=>none
 |x::r,s=>bif bL x.aO==bL s then some x.jS else kJ r s
theorem TI:∀{l:anD bp}{s:anE}{t:a8},kJ l s=some t->∃x∈l,x.jS=t/\bL x.aO=bL s
 |[],s,t,h=>by cases h
 |x::r,s,t,h=>by
  unfold kJ at h;cases hb:(bL x.aO==bL s)with
  |true=>rw[hb]at h;cases h;exact⟨x,amT,rfl,by simpa using hb⟩
  |false=>
   rw[hb]at h;obtain⟨y,h1,h2⟩:=TI (l:=r) h;exact⟨y,amW _ h1,h2⟩
theorem SS(N:Nat)(s:anE):∀(l:anD bp)(k:Nat),(kJ l s=none->yC N s l k=some (-1))/\(∀t,kJ l s=some t->∃i x,yC N s l k=some ((k+i:Nat):Int)/\l[i]?=some x/\x.jS=t)
 |[],k=>⟨λ_=>rfl,λv h=>by cases h⟩
 |b::r,k=>by
  obtain⟨h1,h2⟩:=SS N s r (k+1);unfold kJ yC Qr;simp only[amM];cases hb:(bL b.aO==bL s)with
  |true=>exact⟨λh=>(by cases h),λv h=>by cases h;exact⟨0,b,rfl,rfl,rfl⟩⟩
  |false=>
   simp only[cond_false];refine⟨h1,λv h=> ?_⟩;obtain⟨i,c,q1,q2,q3⟩:=h2 v h;exact⟨i+1,c,by rw[q1];congr 2;omega,q2,q3⟩
theorem adU(N:Nat)(l:anD bp)(s:anE):JR N l s=some (match kJ l s with|none=>(U6,false)|some t=>(t,true)):=by
 obtain⟨h1,h2⟩:=SS N s l 0;unfold JR;rw[show LV N l s=yC N s l 0 from rfl];cases hf:kJ l s with
 |none=>rw[h1 hf];rfl
 |some t=>
  obtain⟨i,x,q1,q2,q3⟩:=h2 t hf;rw[q1,amM,am7,anw (by omega),cond_false,anv (by omega),cond_true,anf,q2,amM,q3]
def nD(mem:anD bp)(s:anE):Except Int a8:=match kJ mem s with
 |none=> .error 9
 |some t=>bif nT t then .ok t else .error 1
def YZ(e:an):Prop:=∀x∈dq e,jl x=true/\jT x=true
theorem YZ.op{e:an}(h:YZ e):1<=e.aq/\e.aq<=18:=by
 have:=(h e amT).2;unfold jT at this;simp only[amP,decide_eq_true_eq]at this;exact⟨this.1,this.2.1⟩
theorem Tf:∀l:anD an,qw l=0->∀x∈l,jj x=0
 |[],_,x,hx=>by cases hx
 |y::l,h,x,hx=>by
  rw[qw]at h;cases e:jj y !=0 with
  |true=>rw[e,cond_true]at h;rw[h]at e;cases e
  |false=>
   rw[e,cond_false]at h;rcases ani.1 hx with rfl|hx
   ·exact WD e
   ·exact Tf l h x hx
theorem aat{e:an}(h:hJ e=0):∀x∈dq e,jj x=0:=λx hx=>by
 unfold hJ at h;cases h1:decide (40<iJ 40 e)with
 |true=>rw[h1]at h;cases h
 |false=>
  cases h2:decide (2000<(dq e).length)with
  |true=>rw[h1,h2]at h;cases h
  |false=>rw[h1,h2]at h;exact Tf (dq e) h x hx
theorem adL{x:an}(h:jj x=0):jT x=true/\lU x=true/\jl x=true/\jr x=true/\mP x=true:=by
 unfold jj at h;cases p:jT x<;>cases q:lU x<;>cases r:jl x<;>cases s:jr x<;>cases t:mP x<;>rw[p,q,r,s,t]at h<;>first|exact⟨rfl,rfl,rfl,rfl,rfl⟩|(exact absurd h (by decide))
section
variable {α:Type}
end
section
variable {N:Nat} {m:anD (anE×Int)} {vars:anD anE} {p p':Qs}
end
theorem zi{y:an}:∀{l:anD an},y∈me l->∃x∈l,y∈dq x
 |[],h=>by rw[me]at h;cases h
 |x::l,h=>by
  rw[JX]at h;rcases anq.1 h with h|h
  ·exact⟨x,amT,h⟩
  ·obtain⟨z,h1,h2⟩:=zi h;exact⟨z,amW _ h1,h2⟩
section
variable {N:Nat} {p:Qs}
theorem nC{α:Type}{L l:anD α}{x:α}{k:Nat}(h:L.drop k=x::l):L.drop (k+1)=l:=by
 rw[<-List.drop_drop,h];rfl
theorem lM{α:Type}{L l:anD α}{x:α}{k:Nat}(h:L.drop k=x::l):k<L.length:=by
 by_cases hk:k<L.length
 ·exact hk
 ·rw[List.drop_eq_nil_of_le (by omega)]at h;cases h
end
theorem Wd:∀{l:anD bp}{s s':anE},bL s=bL s'->kJ l s=kJ l s'
 |[],_,_,_=>rfl
 |x::r,s,s',h=>by unfold kJ;rw[h,Wd (l:=r) h]
structure CK(mem:List bp)(kv:List (ByteArray×a8)):Prop where
 ok:∀p∈kv,kJ mem p.1=some p.2/\nT p.2=true
 nd:(kv.map λp=>bL p.1).Nodup
theorem CK.nil(mem:anD bp):CK mem []:=⟨λp h=>(by cases h),by simp⟩
theorem WG{α:Type}:∀{l m:anD α},l.Nodup->(∀x∈l,x∈m)->l.length<=m.length
 |[],m,_,_=>Nat.zero_le _
 |x::l,m,h,hs=>by
  have hx:=hs x amT;obtain⟨a,b,rfl⟩:=List.append_of_mem hx;rw[List.nodup_cons]at h;have:=WG (l:=l) (m:=a++b) h.2 λy hy=>by
   have h1:=hs y (amW _ hy);rw[anq,ani]at h1;rw[anq];rcases h1 with h1|rfl|h1
   ·exact .inl h1
   ·exact absurd hy h.1
   ·exact .inr h1
  simp only[amO,amQ]at this ⊢;omega
theorem CK.len{mem:anD bp}{kv:anD (anE×a8)}(h:CK mem kv):kv.length<=mem.length:=by
 have:=WG h.nd (m:=mem.map λx=>bL x.aO) λy hy=>by
  obtain⟨p,hp,rfl⟩:=List.mem_map.1 hy;obtain⟨x,hx,_,e⟩:=TI (h.ok p hp).1;exact List.mem_map.2 ⟨x,hx,e⟩
 simpa using this
theorem VR{mem:anD bp}{s:anE}{d:a8}:∀{kv:anD (anE×a8)},(∀p∈kv,kJ mem p.1=some p.2/\nT p.2=true)->mO kv s=true->kJ mem s=some (nk kv s d)/\nT (nk kv s d)=true
 |[],_,h=>by cases h
 |(k,t)::kv,hk,h=>by
  unfold mO at h;unfold nk;cases hb:(bL k==bL s)with
  |true=>
   rw[cond_true];have:=hk (k,t) amT;rw[beq_iff_eq]at hb;rw[<-Wd hb];exact this
  |false=>
   rw[hb]at h;simp only[cond_false,Bool.false_or]at h ⊢;exact VR (λp hp=>hk p (amW _ hp)) h
theorem WM{s:anE}:∀{kv:anD (anE×a8)},mO kv s=false->bL s ∉ kv.map λp=>bL p.1
 |[],_,h=>by cases h
 |(k,t)::kv,hn,h=>by
  unfold mO at hn;rw[anc,ani]at h;cases hb:(bL k==bL s)with
  |true=>rw[hb]at hn;simp at hn
  |false=>
   rw[hb]at hn;simp only[cond_false,Bool.false_or]at hn;rcases h with h|h
   ·rw[h]at hb;simp at hb
   ·exact WM hn h
def nZ{α β:Type}(r:Except Int α)(er:Int)(b:β)(f:α->β->Prop):Prop:=match r with
 | .ok x=>er=0/\f x b
 | .error z=>er=z/\z≠0
theorem SN{mem:anD bp}{s:anE}{z:Int}(h:nD mem s= .error z):z≠0:=by
 unfold nD at h;split at h
 ·cases h;decide
 ·next t e=>
  cases hb:nT t<;>rw[hb]at h<;>cases h
  decide
theorem K5{mem:anD bp}{s:anE}{t:a8}(h:nD mem s= .ok t):kJ mem s=some t/\nT t=true:=by
 unfold nD at h;split at h
 ·cases h
 ·next t' e=>
  cases hb:nT t'<;>rw[hb]at h<;>cases h
  exact⟨e,hb⟩
theorem WI(N:Nat)(hN:2147483648<N)(mem:anD bp)(hm:mem.length<=4611686018427387904)(s:anE)(kv:anD (anE×a8))(hk:CK mem kv):
 ∃t er dT,Dk N s mem kv=some (t,er,dT)/\CK mem dT/\nZ (nD mem s) er t (λx y=>y=x):=by
 unfold Dk;cases hh:mO kv s with
 |true=>
  obtain⟨h1,h2⟩:=VR (d:=(⟨(⟨0,0,0,0,0⟩:aF),[],[]⟩:a8)) hk.ok hh;refine⟨_,_,_,rfl,hk,?_⟩;unfold nD;rw[h1];simp only[h2,cond_true];exact⟨rfl,rfl⟩
 |false=>
  rw[cond_false,adU,amM];unfold nD;cases hf:kJ mem s with
  |none=>exact⟨_,_,_,rfl,hk,rfl,by decide⟩
  |some t=>
   simp only[cond_true];obtain⟨e,h1,h2⟩:=afg N hN t;rw[h1,amM,h2];cases ht:nT t with
   |false=>exact⟨_,_,_,rfl,hk,rfl,by decide⟩
   |true=>
    have hl:=hk.len;rw[Bool.not_true,cond_false,show Nat.blt kv.length 9223372036854775807=true by rw[Nat.blt_eq];omega,cond_true];refine⟨_,_,_,rfl,⟨λp hp=> ?_,?_⟩,rfl,rfl⟩
    ·rcases ani.1 hp with rfl|hp
     ·exact⟨hf,ht⟩
     ·exact hk.ok p hp
    ·rw[anc,List.nodup_cons];exact⟨WM hh,hk.nd⟩
def qP(env:anD bm):anD aP->anD Int->Int->Except Int Int
 |[],_,a=> .ok a
 |_::_,[],a=> .ok a
 |l::ls,d::ds,a=>bif (cU l env).2 !=0 then .error (cU l env).2 else bif decide ((cU l env).1.toInt<0)||decide ((cU l env).1.toInt>=d)then .error 12 else qP env ls ds (a*d+(cU l env).1.toInt)
theorem RD(d:Int)(ds:anD Int):(d::ds).foldl (·*·) 1=d*ds.foldl (·*·) 1:=by rw[List.foldl_cons,Int.one_mul,Ka]
theorem Nw{a n d p q:Int}(ha0:0<=a)(ha:a<p)(hn0:0<=n)(hn:n<d)(hq:1<=q)(hp:p*(d*q)<=4096):0<=a*d+n/\a*d+n<p*d/\(p*d)*q<=4096/\aS (aS (a*d)+n)=a*d+n:=by
 have h1:0<=a*d:=Int.mul_nonneg ha0 (by omega);have h2:(a+1)*d<=p*d:=Int.mul_le_mul_of_nonneg_right (by omega) (by omega);rw[Int.add_mul,Int.one_mul]at h2;have h3:(p*d)*q<=4096:=by rw[Int.mul_assoc];exact hp
 have h4:(p*d)*1<=(p*d)*q:=Int.mul_le_mul_of_nonneg_left hq (by omega);refine⟨by omega,by omega,h3,?_⟩;rw[xg (n:=a*d) (by omega) (by omega),xg (by omega) (by omega)]
theorem VB(N:Nat)(a:Int)(n:Int64)(d:Int):Bo N a n d=some (bif decide (n.toInt<0)||decide (n.toInt>=d)then(0,12)else(aS (aS (a*d)+n.toInt),0)):=by
 unfold Bo;cases decide (n.toInt<0)with
 |true=>rfl
 |false=>
  rw[cond_false,amM,Bool.false_or];cases decide (n.toInt>=d)<;>rfl
def afo(r:Except Int Int)(p:Int):Prop:=∀a,r= .ok a->0<=a/\a<p
theorem UG(env:anD bm):∀(ls:anD aP)(ds:anD Int)(a p:Int),0<=a->a<p->(∀n∈ds,1<=n)->ls.length=ds.length->p*ds.foldl (·*·) 1<=4096->afo (qP env ls ds a) (p*ds.foldl (·*·) 1)
 |[],[],a,p,h0,h1,_,_,_=>λb hb=>by cases hb;rw[List.foldl_nil,Int.mul_one];exact⟨h0,h1⟩
 |[],_::_,a,p,_,_,_,hl,_=>by simp at hl
 |_::_,[],a,p,_,_,_,hl,_=>by simp at hl
 |l::ls,d::ds,a,p,h0,h1,hd,hl,hp=>by
  intro b hb;unfold qP at hb;cases he:((cU l env).2 !=0)with
  |true=>rw[he]at hb;cases hb
  |false=>
   rw[he,cond_false]at hb;cases hc:(decide ((cU l env).1.toInt<0)||decide ((cU l env).1.toInt>=d))with
   |true=>rw[hc]at hb;cases hb
   |false=>
    rw[hc,cond_false]at hb;rw[anC,decide_eq_false_iff_not,decide_eq_false_iff_not]at hc;rw[RD]at hp ⊢;have hq:=Cc λn hn=>hd n (amW _ hn);obtain⟨k1,k2,k3,_⟩:=Nw (n:=(cU l env).1.toInt) h0 h1 (by omega) (by omega) hq hp;have:=UG env ls ds _ _ k1 k2 (λn hn=>hd n (amW _ hn)) (by simpa using hl) k3 b hb;rw[Int.mul_assoc]at this;exact this
def tE(n ext:Int):Int:=max 0 (min n (ext-1))
def gS(mem:anD bp)(env:anD bm)(x:aN)(ext:Int):Except Int Int64:=match nD mem x.bI with
 | .error z=> .error z
 | .ok t=>bif t.aD.aL !=3 then .error 10 else bif (x.aZ.length:Int) !=(t.dg.length:Int)then .error 11 else match qP env x.aZ t.dg 0 with
   | .error z=> .error z
   | .ok a=>match t.eN[a.toNat]? with
     |some v=> .ok (Int64.ofInt (tE v.xN.toInt ext))
     |none=> .error 1
theorem adP{n ext:Int}(h1:1<=ext)(h2:ext<=4096):(if(if(aS (ext-(1:Int)))<n then(aS (ext-(1:Int)))else n)>0then(if(aS (ext-(1:Int)))<n then(aS (ext-(1:Int)))else n)else(0:Int))=tE n ext:=by
 rw[xg (by omega) (by omega)];unfold tE;split<;>split<;>omega
theorem aim{n ext:Int}(h1:1<=ext)(h2:ext<=4096):(aS (tE n ext)==tE n ext)=true:=by
 rw[beq_iff_eq];exact xg (by unfold tE;omega) (by unfold tE;omega)
structure Bz(t:a8):Prop where
 ty:b9 t.aD=true
 sh:Va t.dg
 len:(t.eN.length:Int)=t.dg.foldl (·*·) 1
 aci:∀v∈t.eN,b4 t.aD v=true
theorem OE{t:a8}(h:nT t=true):Bz t:=by
 unfold nT at h;simp only[amP,beq_iff_eq]at h;exact⟨h.1,Mp h.2.1,h.2.2.1,ane.1 h.2.2.2⟩
theorem Bz.get{t:a8}(h:Bz t){a:Int}(h0:0<=a)(h1:a<t.dg.foldl (·*·) 1):∃v,t.eN[a.toNat]?=some v/\v∈t.eN:=by
 have hl:=h.len;have hi:a.toNat<t.eN.length:=by omega
 exact⟨t.eN[a.toNat],amR hi,List.getElem_mem hi⟩
theorem Ug(N:Nat)(hN:2147483648<N)(env:anD bm)(v6:a8×Int×anD (anE×a8))(hT:Bz v6.1)(ext:Int)(e1:1<=ext)(e2:ext<=4096):∀(ls:anD aP)(k:Nat)(ds:anD Int)(a p:Int),(∀l∈ls,l.xL.length<=4611686018427387904)->v6.1.dg.drop k=ds->ls.length=ds.length->0<=a->a<p->p*ds.foldl (·*·) 1=v6.1.dg.foldl (·*·) 1->
 CE N v6 ext env ls k a=some (match qP env ls ds a with| .error z=>(0,z,v6.2.2)| .ok b=>match v6.1.eN[b.toNat]? with|some v=>(Int64.ofInt (tE v.xN.toInt ext),0,v6.2.2)|none=>(0,1,v6.2.2))
 |[],k,ds,a,p,_,hd,hl,a0,a1,hp=>by
  cases ds with
  |cons=>simp at hl
  |nil=>
   rw[List.foldl_nil,Int.mul_one]at hp;obtain⟨v,hv,_⟩:=hT.get a0 (by omega);unfold CE qP;rw[anv a0,cond_true,hv,amM,adP e1 e2,aim e1 e2,cond_true];simp only[hv]
 |l::ls,k,ds,a,p,hf,hd,hl,a0,a1,hp=>by
  cases ds with
  |nil=>simp at hl
  |cons d ds=>
   have dW:=cO hd;have DJ:∀n∈d::ds,1<=n:=λn hn=>hT.sh.pos n (List.mem_of_mem_drop (hd▸hn));unfold CE qP;rw[MJ N hN l env (hf l amT),amM];cases he:((cU l env).2 !=0)with
   |true=>rfl
   |false=>
    rw[cond_false,cond_false,anf,dW,amM,VB,amM];cases hc:(decide ((cU l env).1.toInt<0)||decide ((cU l env).1.toInt>=d))with
    |true=>rfl
    |false=>
     rw[cond_false,cond_false];rw[anC,decide_eq_false_iff_not,decide_eq_false_iff_not]at hc;rw[RD]at hp;have hq:=Cc λn hn=>DJ n (amW _ hn);obtain⟨k1,k2,k3,k4⟩:=Nw (n:=(cU l env).1.toInt) (d:=d) a0 a1 (by omega) (by omega) hq (by rw[hp];exact hT.sh.le);simp only;rw[show((0:Int) !=0)=false from rfl,cond_false,k4];exact Ug N hN env v6 hT ext e1 e2 ls (k+1) ds _ (p*d) (λx hx=>hf x (amW _ hx)) (oc hd) (by simpa using hl) k1 k2 (by rw[Int.mul_assoc];exact hp)
theorem TN{mem:anD bp}{env:anD bm}{x:aN}{ext z:Int}(h:gS mem env x ext= .error z):z≠0:=by
 unfold gS at h;split at h
 ·next e=>cases h;exact SN e
 ·next t e=>
  cases h1:(t.aD.aL !=3)with
  |true=>rw[h1]at h;cases h;decide
  |false=>
   rw[h1,cond_false]at h;cases h2:((x.aZ.length:Int) !=(t.dg.length:Int))with
   |true=>rw[h2]at h;cases h;decide
   |false=>
    rw[h2,cond_false]at h;split at h
    ·next e3=>
     cases h
     have gen:∀(ls:anD aP)(ds:anD Int)(a:Int),qP env ls ds a= .error z->z≠0:=by
      intro ls
      induction ls with
      |nil=>intro ds a h;cases h
      |cons l ls ih=>
       intro ds a h;cases ds with
       |nil=>cases h
       |cons d ds=>
        unfold qP at h;cases h4:((cU l env).2 !=0)with
        |true=>rw[h4]at h;cases h;simpa using h4
        |false=>
         rw[h4,cond_false]at h;cases h5:(decide ((cU l env).1.toInt<0)||decide ((cU l env).1.toInt>=d))with
         |true=>rw[h5]at h;cases h;decide
         |false=>rw[h5,cond_false]at h;exact ih _ _ h
     exact gen _ _ _ e3
    ·next b e3=>
     split at h
     ·cases h
     ·cases h;decide
theorem ael(N:Nat)(hN:2147483648<N)(mem:anD bp)(hm:mem.length<=4611686018427387904)(env:anD bm)(x:aN)(hx:∀l∈x.aZ,l.xL.length<=4611686018427387904)(ext:Int)(e1:1<=ext)(e2:ext<=4096)(kv:anD (anE×a8))(hk:CK mem kv):
 ∃n er dT,JU N env x ext mem kv=some (n,er,dT)/\CK mem dT/\nZ (gS mem env x ext) er n (λa b=>b=a):=by
 unfold JU;obtain⟨t,er,dT,h1,h2,h3⟩:=WI N hN mem hm x.bI kv hk;rw[h1,amM];unfold gS;cases lx:nD mem x.bI with
 |error z=>
  rw[lx]at h3;obtain⟨rfl,hz⟩:=h3;simp only;rw[bne_iff_ne.2 hz,cond_true];exact⟨_,_,_,rfl,h2,rfl,hz⟩
 |ok t'=>
  rw[lx]at h3;obtain⟨rfl,rfl⟩:=h3;simp only;rw[show((0:Int) !=0)=false from rfl,cond_false];have hT:=OE (K5 lx).2;cases p7:(t.aD.aL !=3)with
  |true=>exact⟨_,_,_,rfl,h2,rfl,by decide⟩
  |false=>
   rw[cond_false,cond_false];cases qM:((x.aZ.length:Int) !=(t.dg.length:Int))with
   |true=>exact⟨_,_,_,rfl,h2,rfl,by decide⟩
   |false=>
    rw[cond_false,cond_false];have hl:x.aZ.length=t.dg.length:=by
      have:(x.aZ.length:Int)=t.dg.length:=by simpa using qM
      omega
    rw[Ug N hN env (t,0,dT) hT ext e1 e2 x.aZ 0 t.dg 0 1 hx rfl hl (by decide) (by decide) (Int.one_mul _)];have AM:=UG env x.aZ t.dg 0 1 (by decide) (by decide) hT.sh.pos hl (by rw[Int.one_mul];exact hT.sh.le);cases hp:qP env x.aZ t.dg 0 with
    |error z=>
     refine⟨_,_,_,rfl,h2,rfl,?_⟩;refine TN (mem:=mem) (env:=env) (x:=x) (ext:=ext) ?_;unfold gS;rw[lx];simp only[p7,qM,cond_false,hp]
    |ok b=>
     obtain⟨b0,b1⟩:=AM b hp;rw[Int.one_mul]at b1;obtain⟨v,hv,_⟩:=hT.get b0 b1;simp only[hv];exact⟨_,_,_,rfl,h2,rfl,rfl⟩
def tq(mem:anD bp)(env:anD bm)(x:aN)(Q3:Int):Except Int Int64:=bif bL x.bI==bL (bs [])then(bif (cU x.aM env).2 !=0 then .error (cU x.aM env).2 else .ok (cU x.aM env).1)else gS mem env x Q3
structure Yk(x:aN):Prop where
 l:x.aM.xL.length<=4611686018427387904
 a:∀l∈x.aZ,l.xL.length<=4611686018427387904
theorem ak6{mem:anD bp}{env:anD bm}{x:aN}{Q3 z:Int}(h:tq mem env x Q3= .error z):z≠0:=by
 unfold tq at h;cases hb:(bL x.bI==bL (bs []))with
 |true=>
  rw[hb,cond_true]at h;cases he:((cU x.aM env).2 !=0)with
  |true=>rw[he]at h;cases h;simpa using he
  |false=>rw[he]at h;cases h
 |false=>rw[hb,cond_false]at h;exact TN h
def o7(mem:anD bp)(env:anD bm):anD aN->anD Int->Int->Except Int Int
 |[],_,a=> .ok a
 |_::_,[],a=> .ok a
 |x::xs,d::ds,a=>match tq mem env x d with
  | .error z=> .error z
  | .ok n=>bif decide (n.toInt<0)||decide (n.toInt>=d)then .error 12 else o7 mem env xs ds (a*d+n.toInt)
theorem V4(mem:anD bp)(env:anD bm):∀(xs:anD aN)(ds:anD Int)(a z:Int),o7 mem env xs ds a= .error z->z≠0
 |[],_,_,_,h=>by cases h
 |_::_,[],_,_,h=>by cases h
 |x::xs,d::ds,a,z,h=>by
  unfold o7 at h;cases hx:tq mem env x d with
  |error y=>rw[hx]at h;cases h;exact ak6 hx
  |ok n=>
   rw[hx]at h;simp only at h;cases hc:(decide (n.toInt<0)||decide (n.toInt>=d))with
   |true=>rw[hc]at h;cases h;decide
   |false=>rw[hc,cond_false]at h;exact V4 mem env xs ds _ z h
theorem alS{ds:anD Int}(hd:∀n∈ds,1<=n){p d q:Int}(hp:1<=p)(h1:1<=d)(hq:1<=q)(h:p*(d*q)<=4096):d<=4096:=by
 have h2:d*1<=d*q:=Int.mul_le_mul_of_nonneg_left hq (by omega);have h3:1*(d*q)<=p*(d*q):=Int.mul_le_mul_of_nonneg_right hp (by omega);omega
theorem TC(N:Nat)(hN:2147483648<N)(mem:anD bp)(hm:mem.length<=4611686018427387904)(env:anD bm)(v5:a8×Int×anD (anE×a8))(hT:Bz v5.1):∀(xs:anD aN)(k:Nat)(ds:anD Int)(a p:Int)(kv:anD (anE×a8)),(∀x∈xs,Yk x)->v5.1.dg.drop k=ds->xs.length=ds.length->0<=a->a<p->p*ds.foldl (·*·) 1=v5.1.dg.foldl (·*·) 1->CK mem kv->
 ∃t er dT,o0 N v5 env mem xs k a kv=some (t,er,dT)/\CK mem dT/\nZ (o7 mem env xs ds a) er t (λb y=>∃v,v5.1.eN[b.toNat]?=some v/\y=(⟨v,v5.1.aD⟩:dX))
 |[],k,ds,a,p,kv,_,hd,hl,a0,a1,hp,hk=>by
  cases ds with
  |cons=>simp at hl
  |nil=>
   rw[List.foldl_nil,Int.mul_one]at hp;obtain⟨v,hv,_⟩:=hT.get a0 (by omega);unfold o0 o7;rw[anv a0,cond_true,hv,amM];exact⟨_,_,_,rfl,hk,rfl,v,hv,rfl⟩
 |x::xs,k,ds,a,p,kv,hf,hd,hl,a0,a1,hp,hk=>by
  cases ds with
  |nil=>simp at hl
  |cons d ds=>
   have dW:=cO hd;have DJ:∀n∈d::ds,1<=n:=λn hn=>hT.sh.pos n (List.mem_of_mem_drop (hd▸hn));have yQ:=DJ d amT;have hp0:=hp;rw[RD]at hp;have hq:=Cc λn hn=>DJ n (amW _ hn);have hle:p*(d*ds.foldl (·*·) 1)<=4096:=by rw[hp];exact hT.sh.le
   have Z0:=alS (λn hn=>DJ n (amW _ hn)) (by omega) yQ hq hle;have hx:=hf x amT;have key:∀(er:Int)(n:Int64)(mU:anD (anE×a8)),CK mem mU->nZ (tq mem env x d) er n (λa b=>b=a)->
       ∃t VY dT,AK N v5 k a (λdV iU=>o0 N v5 env mem xs (k+1) dV iU) er n mU=some (t,VY,dT)/\CK mem dT/\nZ (o7 mem env (x::xs) (d::ds) a) VY t (λb y=>∃v,v5.1.eN[b.toNat]?=some v/\y=(⟨v,v5.1.aD⟩:dX)):=by
    intro er n mU jc ID;unfold AK o7;cases Zo:tq mem env x d with
    |error z=>
     rw[Zo]at ID;obtain⟨rfl,hz⟩:=ID;rw[bne_iff_ne.2 hz,cond_true];exact⟨_,_,_,rfl,jc,rfl,hz⟩
    |ok m=>
     rw[Zo]at ID;obtain⟨rfl,rfl⟩:=ID;rw[show((0:Int) !=0)=false from rfl,cond_false,anf,dW,amM,VB,amM];simp only;cases hc:(decide (n.toInt<0)||decide (n.toInt>=d))with
     |true=>exact⟨_,_,_,rfl,jc,rfl,by decide⟩
     |false=>
      rw[cond_false,cond_false];rw[anC,decide_eq_false_iff_not,decide_eq_false_iff_not]at hc;obtain⟨k1,k2,k3,k4⟩:=Nw (n:=n.toInt) (d:=d) a0 a1 (by omega) (by omega) hq hle;simp only;rw[show((0:Int) !=0)=false from rfl,cond_false,k4];exact TC N hN mem hm env v5 hT xs (k+1) ds _ (p*d) mU (λy hy=>hf y (amW _ hy)) (oc hd) (by simpa using hl) k1 k2 (by rw[Int.mul_assoc];exact hp) jc
   unfold o0;cases hb:(bL x.bI==bL (bs []))with
   |true=>
    rw[cond_true,MJ N hN _ _ hx.l,amM];refine key _ _ _ hk ?_;unfold tq;rw[hb,cond_true];cases he:((cU x.aM env).2 !=0)with
    |true=>exact⟨rfl,by simpa using he⟩
    |false=>exact⟨by simpa using he,rfl⟩
   |false=>
    rw[cond_false,anf,dW,amM];obtain⟨n,er,dT,h1,h2,h3⟩:=ael N hN mem hm env x hx.a d yQ Z0 kv hk;rw[h1,amM];refine key _ _ _ h2 ?_;unfold tq;rw[hb,cond_false];exact h3
def Ff(mem:anD bp)(env:anD bm)(e:an):Except Int (aB×aF):=match nD mem e.aO with
 | .error z=> .error z
 | .ok t=>bif (e.xIdx.length:Int) !=(t.dg.length:Int)then .error 11 else match o7 mem env e.xIdx t.dg 0 with
   | .error z=> .error z
   | .ok a=>match t.eN[a.toNat]? with
     |some v=> .ok (v,t.aD)
     |none=> .error 1
def lW:aF:=⟨3,0,0,0,0⟩
def nK(mem:anD bp)(env:anD bm)(e:an):Except Int (aB×aF):=
 bif e.aq==1 then .ok (e.bg,e.aD)else bif e.aq==2 then(bif (cU e.aM env).2 !=0 then .error (cU e.aM env).2 else bif decide ((cU e.aM env).1.toInt>2147483647)||decide ((cU e.aM env).1.toInt< -2147483647)then .error 3 else .ok (⟨(cU e.aM env).1,1⟩,lW))else Ff mem env e
structure Qi(e:an):Prop where
 l:e.aM.xL.length<=4611686018427387904
 x:∀x∈e.xIdx,Yk x
theorem ahu(N:Nat)(hN:2147483648<N)(mem:anD bp)(hm:mem.length<=4611686018427387904)(env:anD bm)(e:an)(hf:Qi e)(kv:anD (anE×a8))(hk:CK mem kv):
 ∃t er dT,EN N env e mem kv=some (t,er,dT)/\CK mem dT/\nZ (Ff mem env e) er t (λx y=>y=(⟨x.1,x.2⟩:dX)):=by
 unfold EN;obtain⟨t,er,dT,h1,h2,h3⟩:=WI N hN mem hm e.aO kv hk;rw[h1,amM];unfold Ff;cases lx:nD mem e.aO with
 |error z=>
  rw[lx]at h3;obtain⟨rfl,hz⟩:=h3;simp only;rw[bne_iff_ne.2 hz,cond_true];exact⟨_,_,_,rfl,h2,rfl,hz⟩
 |ok t'=>
  rw[lx]at h3;obtain⟨rfl,rfl⟩:=h3;simp only;rw[show((0:Int) !=0)=false from rfl,cond_false];have hT:=OE (K5 lx).2;cases qM:((e.xIdx.length:Int) !=(t.dg.length:Int))with
  |true=>exact⟨_,_,_,rfl,h2,rfl,by decide⟩
  |false=>
   rw[cond_false,cond_false];have hl:e.xIdx.length=t.dg.length:=by
     have:(e.xIdx.length:Int)=t.dg.length:=by simpa using qM
     omega
   obtain⟨y,er,IC,q1,q2,q3⟩:=TC N hN mem hm env (t,0,dT) hT e.xIdx 0 t.dg 0 1 dT hf.x rfl hl (by decide) (by decide) (Int.one_mul _) h2;rw[q1];refine⟨_,_,_,rfl,q2,?_⟩;cases hp:o7 mem env e.xIdx t.dg 0 with
   |error z=>rw[hp]at q3;exact q3
   |ok b=>
    rw[hp]at q3;obtain⟨rfl,v,hv,rfl⟩:=q3;simp only at hv ⊢;rw[hv];exact⟨rfl,rfl⟩
theorem aje(N:Nat)(hN:2147483648<N)(mem:anD bp)(hm:mem.length<=4611686018427387904)(env:anD bm)(e:an)(hf:Qi e)(kv:anD (anE×a8))(hk:CK mem kv):
 ∃t er dT,H5 N env e mem kv=some (t,er,dT)/\CK mem dT/\nZ (nK mem env e) er t (λx y=>y=(⟨x.1,x.2⟩:dX)):=by
 unfold H5 nK;cases h1:(e.aq==1)with
 |true=>exact⟨_,_,_,rfl,hk,rfl,rfl⟩
 |false=>
  rw[cond_false,cond_false];cases h2:(e.aq==2)with
  |true=>
   rw[cond_true,cond_true,MJ N hN _ _ hf.l,amM];unfold GK;cases he:((cU e.aM env).2 !=0)with
   |true=>
    have hz:(cU e.aM env).2≠0:=by simpa using he
    rw[show((cU e.aM env).2==0)=false by rw[beq_eq_false_iff_ne];exact hz,cond_false,amM,cond_false];exact⟨_,_,_,rfl,hk,rfl,hz⟩
   |false=>
    have hz:(cU e.aM env).2=0:=by simpa using he
    rw[hz,show((0:Int)==0)=true from rfl,cond_true,cond_false];cases hc:decide ((cU e.aM env).1.toInt>2147483647)with
    |true=>exact⟨_,_,_,rfl,hk,rfl,by decide⟩
    |false=>
     rw[cond_false,amM,Bool.false_or];cases NS:decide ((cU e.aM env).1.toInt< -2147483647)with
     |true=>exact⟨_,_,_,rfl,hk,rfl,by decide⟩
     |false=>exact⟨_,_,_,rfl,hk,rfl,rfl⟩
  |false=>
   rw[cond_false,cond_false];obtain⟨t,er,dT,q1,q2,q3⟩:=ahu N hN mem hm env e hf kv hk;rw[q1,amM];exact⟨_,_,_,rfl,q2,q3⟩
theorem Un{mem:anD bp}{env:anD bm}{e:an}(h1:e.aq=1->b9 e.aD=true/\b4 e.aD e.bg=true){x:aB×aF}(h:nK mem env e= .ok x):b9 x.2=true/\b4 x.2 x.1=true:=by
 unfold nK at h;cases k1:(e.aq==1)with
 |true=>
  rw[k1,cond_true]at h;cases h;exact h1 (by simpa using k1)
 |false=>
  rw[k1,cond_false]at h;cases k2:(e.aq==2)with
  |true=>
   rw[k2,cond_true]at h;cases he:((cU e.aM env).2 !=0)with
   |true=>rw[he]at h;cases h
   |false=>
    rw[he,cond_false]at h;cases hc:(decide ((cU e.aM env).1.toInt>2147483647)||decide ((cU e.aM env).1.toInt< -2147483647))with
    |true=>rw[hc]at h;cases h
    |false=>
     rw[hc,cond_false]at h;cases h;rw[anC,decide_eq_false_iff_not,decide_eq_false_iff_not]at hc;refine⟨rfl,?_⟩;unfold b4 lW;simp only;rw[show((3:Int)==2)=false from rfl,cond_false,show((3:Int)==3)=true from rfl,cond_true,anv (show(cU e.aM env).1.toInt<=2147483647 by omega),anv (show-2147483647<=(cU e.aM env).1.toInt by omega)];rfl
  |false=>
   rw[k2,cond_false]at h;unfold Ff at h;cases lx:nD mem e.aO with
   |error z=>rw[lx]at h;cases h
   |ok t=>
    rw[lx]at h;simp only at h;have hT:=OE (K5 lx).2;cases qM:((e.xIdx.length:Int) !=(t.dg.length:Int))with
    |true=>rw[qM]at h;cases h
    |false=>
     rw[qM,cond_false]at h;cases hp:o7 mem env e.xIdx t.dg 0 with
     |error z=>rw[hp]at h;cases h
     |ok c=>
      rw[hp]at h;simp only at h;cases hv:t.eN[c.toNat]? with
      |none=>rw[hv]at h;cases h
      |some v=>rw[hv]at h;cases h;exact⟨hT.ty,hT.aci v (am0 hv)⟩
def jH(a b:aF):Bool:=(a.aL==b.aL)&&((a.bY==b.bY)&&((a.bM==b.bM)&&((a.b5==b.b5)&&((a.bK==b.bK)&&true))))
theorem D7{a b:aF}:jH a b=true↔a=b:=by
 unfold jH;simp only[amP,beq_iff_eq,Bool.and_true];constructor
 ·rintro⟨h1,h2,h3,h4,h5⟩;cases a;cases b;simp_all
 ·rintro rfl;exact⟨rfl,rfl,rfl,rfl,rfl⟩
def jy(t:aF)(r:aB×Int):Except Int (aB×aF):=bif r.2 !=0 then .error r.2 else .ok (r.1,t)
def qZ(op c:Int):Bool:=bif op==13 then decide (c<0)else bif op==14 then decide (c<=0)else c==0
def iu{α β:Type}(r:Except Int α)(f:α->Except Int β):Except Int β:=match r with
 | .ok x=>f x
 | .error z=> .error z
mutual
def bE(mem:anD bp)(env:anD bm)(e:an):Except Int (aB×aF):=
 bif decide (e.aq<=3)then nK mem env e else
 match h:e.aw with
 |[a]=>iu (bE mem env a) λx=>bif e.aq==12 then jy e.aD (nx x.2 e.aD x.1)else jy x.2 (cJ 8 x.2 x.1 x.1)
 |[a,b]=>iu (bE mem env a) λx=>iu (bE mem env b) λy=>bif jH x.2 y.2 then jy x.2 (cJ e.aq x.2 x.1 y.1)else .error 10
 |[c,a,b]=>iu (eK mem env c) λt=>bif t then bE mem env a else bE mem env b
 |_=> .error 1
termination_by SizeOf.sizeOf e
decreasing_by all_goals (exact fW (by rw[h];simp))
def eK(mem:anD bp)(env:anD bm)(e:an):Except Int Bool:=
 match h:e.aw with
 |[a]=>iu (eK mem env a) λt=> .ok (!t)
 |[a,b]=>bif decide (e.aq<16)then iu (bE mem env a) λx=>iu (bE mem env b) λy=>(bif jH x.2 y.2 then .ok (qZ e.aq (fD x.2 x.1 y.1))else .error 10)else iu (eK mem env a) λs=>iu (eK mem env b) λt=> .ok (bif e.aq==16 then s&&t else s||t)
 |_=> .error 1
termination_by SizeOf.sizeOf e
decreasing_by all_goals (exact fW (by rw[h];simp))
end
theorem wU{mem:anD bp}{env:anD bm}{e:an}(h:e.aq<=3):bE mem env e=nK mem env e:=by
 rw[bE,anv h,cond_true]
theorem o6{mem:anD bp}{env:anD bm}{e a:an}(h:¬e.aq<=3)(ha:e.aw=[a]):bE mem env e=iu (bE mem env a) λx=>bif e.aq==12 then jy e.aD (nx x.2 e.aD x.1)else jy x.2 (cJ 8 x.2 x.1 x.1):=by
 rw[bE,anw h,cond_false];split<;>simp_all
theorem tT{mem:anD bp}{env:anD bm}{e a b:an}(h:¬e.aq<=3)(ha:e.aw=[a,b]):bE mem env e=iu (bE mem env a) λx=>iu (bE mem env b) λy=>bif jH x.2 y.2 then jy x.2 (cJ e.aq x.2 x.1 y.1)else .error 10:=by
 rw[bE,anw h,cond_false];split<;>simp_all
theorem wA{mem:anD bp}{env:anD bm}{e c a b:an}(h:¬e.aq<=3)(ha:e.aw=[c,a,b]):bE mem env e=iu (eK mem env c) λt=>bif t then bE mem env a else bE mem env b:=by
 rw[bE,anw h,cond_false];split<;>simp_all
theorem Gz{mem:anD bp}{env:anD bm}{e a:an}(ha:e.aw=[a]):eK mem env e=iu (eK mem env a) λt=> .ok (!t):=by
 rw[eK];split<;>simp_all
theorem mV{mem:anD bp}{env:anD bm}{e a b:an}(ha:e.aw=[a,b]):eK mem env e=bif decide (e.aq<16)then iu (bE mem env a) λx=>iu (bE mem env b) λy=>(bif jH x.2 y.2 then .ok (qZ e.aq (fD x.2 x.1 y.1))else .error 10)else iu (eK mem env a) λs=>iu (eK mem env b) λt=> .ok (bif e.aq==16 then s&&t else s||t):=by
 rw[eK];split<;>simp_all
structure Ev(e:an):Prop where
 v:∀y∈dq e,jj y=0
 f:∀y∈dq e,Qi y
theorem Ev.arg{e x:an}(h:Ev e)(hx:x∈e.aw):Ev x:=⟨λy hy=>h.v y (mc hx hy),λy hy=>h.f y (mc hx hy)⟩
theorem Ev.here{e:an}(h:Ev e):jj e=0:=h.v e amT
structure DU(e:an):Prop where
 lo:1<=e.aq
 hi:e.aq<=18
 AJ:(e.aw.length:Int)=iY e.aq
 lit:e.aq=1->b9 e.aD=true/\b4 e.aD e.bg=true
 cast:e.aq=12->b9 e.aD=true
 want:∀(i:Nat)(x:an),e.aw[i]?=some x->bn x=wantsB e.aq i
theorem Tb(op:Int):∀(l:anD an)(k:Nat),lF op k l=true->∀(i:Nat)(x:an),l[i]?=some x->bn x=wantsB op (k+i)
 |[],_,_,i,x,hx=>by simp at hx
 |y::l,k,h,i,x,hx=>by
  unfold lF at h;rw[amP,beq_iff_eq]at h;cases i with
  |zero=>cases hx;exact h.1
  |succ i=>
   rw[show k+(i+1)=k+1+i by omega];exact Tb op l (k+1) h.2 i x hx
theorem Ev.n{e:an}(h:Ev e):DU e:=by
 obtain⟨h1,h2,h3,h4,h5⟩:=adL h.here;unfold jT at h1;unfold jl at h3;unfold jr at h4;unfold mP at h5;simp only[amP,decide_eq_true_eq,beq_iff_eq]at h1 h3 h4 h5;refine⟨h1.1,h1.2.1,h3.1,λh=> ?_,λh=> ?_,λi x hx=> ?_⟩
 ·have k4:=h4.1;have k5:=h5.1;rw[h]at k4 k5;exact⟨by simpa using k4,by simpa using k5⟩
 ·have k4:=h4.1;rw[h]at k4
  simpa using k4
 ·have:=Tb e.aq e.aw 0 h4.2 i x hx
  rwa [am7]at this
theorem QB{e:an}(h:DU e):bn e=decide (13<=e.aq):=by
 unfold bn;rw[anv h.hi,Bool.and_true]
theorem Du{α:Type}{l:anD α}(h:(l.length:Int)=1):∃a,l=[a]:=by
 match l,h with
 |[a],_=>exact⟨a,rfl⟩
 |[],h=>simp at h
 |_::_::_,h=>simp only[amQ]at h;omega
theorem Kb{α:Type}{l:anD α}(h:(l.length:Int)=2):∃a b,l=[a,b]:=by
 match l,h with
 |[a,b],_=>exact⟨a,b,rfl⟩
 |[],h=>simp at h
 |[_],h=>simp at h
 |_::_::_::_,h=>simp only[amQ]at h;omega
theorem ad8{α:Type}{l:anD α}(h:(l.length:Int)=3):∃a b c,l=[a,b,c]:=by
 match l,h with
 |[a,b,c],_=>exact⟨a,b,c,rfl⟩
 |[],h=>simp at h
 |[_],h=>simp at h
 |[_,_],h=>simp at h
 |_::_::_::_::_,h=>simp only[amQ]at h;omega
inductive Kd(e:an):Prop
 |leaf (h:e.aq<=3)
 |cast (a:an) (h:e.aw=[a]) (ho:e.aq=12)
 |neg (a:an) (h:e.aw=[a]) (ho:e.aq=8)
 |bin (a b:an) (h:e.aw=[a,b]) (ho:4<=e.aq/\e.aq<=10/\e.aq≠8)
 |ite (c a b:an) (h:e.aw=[c,a,b]) (ho:e.aq=11)
inductive Kc(e:an):Prop
 |not (a:an) (h:e.aw=[a]) (ho:e.aq=18)
 |cmp (a b:an) (h:e.aw=[a,b]) (ho:13<=e.aq/\e.aq<=15)
 |log (a b:an) (h:e.aw=[a,b]) (ho:e.aq=16\/e.aq=17)
theorem kd{e:an}(h:DU e)(hc:bn e=false):Kd e:=by
 rw[QB h,decide_eq_false_iff_not]at hc;have hl:=h.lo;have hn:=h.AJ;by_cases h3:e.aq<=3
 ·exact .leaf h3
 ·unfold iY at hn;rw[show(e.aq==1)=false by rw[beq_eq_false_iff_ne];omega,show(e.aq==2)=false by rw[beq_eq_false_iff_ne];omega,show(e.aq==3)=false by rw[beq_eq_false_iff_ne];omega]at hn;simp only[Bool.or_false,Bool.false_or,cond_false]at hn;by_cases h8:e.aq=8
  ·rw[h8]at hn;obtain⟨a,ha⟩:=Du (l:=e.aw) hn;exact .neg a ha h8
  ·by_cases bJ:e.aq=12
   ·rw[bJ]at hn;obtain⟨a,ha⟩:=Du (l:=e.aw) hn;exact .cast a ha bJ
   ·rw[show(e.aq==8)=false by rw[beq_eq_false_iff_ne];exact h8,show(e.aq==12)=false by rw[beq_eq_false_iff_ne];exact bJ,show(e.aq==18)=false by rw[beq_eq_false_iff_ne];omega]at hn;simp only[Bool.or_false,Bool.false_or,cond_false]at hn;by_cases bo:e.aq=11
    ·rw[bo]at hn;obtain⟨a,b,c,ha⟩:=ad8 (l:=e.aw) hn;exact .ite a b c ha bo
    ·rw[show(e.aq==11)=false by rw[beq_eq_false_iff_ne];exact bo,cond_false]at hn;obtain⟨a,b,ha⟩:=Kb hn;exact .bin a b ha ⟨by omega,by omega,h8⟩
theorem kc{e:an}(h:DU e)(hc:bn e=true):Kc e:=by
 rw[QB h,decide_eq_true_eq]at hc;have hh:=h.hi;have hn:=h.AJ;unfold iY at hn;rw[show(e.aq==1)=false by rw[beq_eq_false_iff_ne];omega,show(e.aq==2)=false by rw[beq_eq_false_iff_ne];omega,show(e.aq==3)=false by rw[beq_eq_false_iff_ne];omega,show(e.aq==8)=false by rw[beq_eq_false_iff_ne];omega,show(e.aq==12)=false by rw[beq_eq_false_iff_ne];omega,show(e.aq==11)=false by rw[beq_eq_false_iff_ne];omega]at hn;simp only[Bool.or_false,Bool.false_or,cond_false]at hn;by_cases cY:e.aq=18
 ·rw[cY]at hn;obtain⟨a,ha⟩:=Du (l:=e.aw) hn;exact .not a ha cY
 ·rw[show(e.aq==18)=false by rw[beq_eq_false_iff_ne];exact cY,cond_false]at hn;obtain⟨a,b,ha⟩:=Kb hn;by_cases cq:e.aq<=15
  ·exact .cmp a b ha ⟨hc,cq⟩
  ·exact .log a b ha (by omega)
def PL(r:Except Int (aB×aF))(er:Int)(t:dX):Prop:=nZ r er t λx y=>y.j7=x.1/\y.eH=x.2/\b9 x.2=true
def V8(r:Except Int Bool)(er:Int)(b:Bool):Prop:=match r with
 | .ok x=>er=0/\b=x
 | .error z=>er=z/\z≠0/\b=false
theorem Rm{t:aF}{r:aB×Int}(ht:b9 t=true):PL (jy t r) r.2 (⟨r.1,t⟩:dX):=by
 unfold jy;cases h:(r.2 !=0)with
 |true=>exact⟨rfl,by simpa using h⟩
 |false=>exact⟨by simpa using h,rfl,rfl,ht⟩
structure Ir(N:Nat)(mem:List bp)(env:List bm)(e:an):Prop where
 v:bn e=false->∀(d:Nat)(kv:List (ByteArray×a8)),3*SizeOf.sizeOf e<=d->CK mem kv->∃t er dT,lG N d e env mem kv=some (t,er,dT)/\CK mem dT/\PL (bE mem env e) er t
 h:bn e=true->∀(d:Nat)(kv:List (ByteArray×a8)),3*SizeOf.sizeOf e<=d->CK mem kv->∃b er dT,oa N d e env mem kv=some (b,er,dT)/\CK mem dT/\V8 (eK mem env e) er b
theorem abM(N:Nat)(env:anD bm)(e:an)(mem:anD bp)(kv:anD (anE×a8))(d:Nat):lG N (d+1) e env mem kv=vH N env e mem kv (oa N d) (lG N d) (pw N d) (e.aq==1||(e.aq==2||e.aq==3)):=by
 rw[lG];cases h1:(e.aq==1)with
 |true=>rfl
 |false=>
  cases h2:(e.aq==2)with
  |true=>rfl
  |false=>rfl
theorem afL{e:an}(h:DU e):(e.aq==1||(e.aq==2||e.aq==3))=decide (e.aq<=3):=by
 have:=h.lo;by_cases h3:e.aq<=3
 ·rw[anv h3];have:e.aq=1\/e.aq=2\/e.aq=3:=by omega
  rcases this with h|h|h<;>rw[h]<;>rfl
 ·rw[anw h3,show(e.aq==1)=false by rw[beq_eq_false_iff_ne];omega,show(e.aq==2)=false by rw[beq_eq_false_iff_ne];omega,show(e.aq==3)=false by rw[beq_eq_false_iff_ne];omega];rfl
theorem WH{N:Nat}{mem:anD bp}{env:anD bm}{e a b:an}(ha:e.aw=[a,b])(A:Ir N mem env a)(B:Ir N mem env b)(ca:bn a=false)(cb:bn b=false)(d:Nat)(kv:anD (anE×a8))(hd:3*SizeOf.sizeOf a<=d/\3*SizeOf.sizeOf b<=d)(hk:CK mem kv):
 ∃x y er dT,vI N (d+1) e env mem kv=some (x,y,er,dT)/\CK mem dT/\nZ (iu (bE mem env a) λp=>iu (bE mem env b) λq=>bif jH p.2 q.2 then .ok (p,q)else .error 10) er (x,y) λp r=>r.1.j7=p.1.1/\r.1.eH=p.1.2/\r.2.j7=p.2.1/\r.2.eH=p.2.2/\b9 p.1.2=true:=by
 rw[vI,ha];simp only[List.getElem?_cons_zero,anp,amM];obtain⟨t,er,mU,h1,h2,h3⟩:=A.v ca d kv hd.1 hk;rw[h1,amM];cases hv:bE mem env a with
 |error z=>
  rw[hv]at h3;obtain⟨rfl,hz⟩:=h3;simp only;rw[bne_iff_ne.2 hz,cond_true];exact⟨_,_,_,_,rfl,h2,rfl,hz⟩
 |ok p=>
  rw[hv]at h3;obtain⟨rfl,e1,e2,e3⟩:=h3;simp only;rw[show((0:Int) !=0)=false from rfl,cond_false];obtain⟨u,er,IC,q1,q2,q3⟩:=B.v cb d mU hd.2 h2;rw[q1,amM];unfold BA;cases hw:bE mem env b with
  |error z=>
   rw[hw]at q3;obtain⟨rfl,hz⟩:=q3;simp only;rw[show(er==0)=false by rw[beq_eq_false_iff_ne];exact hz,cond_false,amM,cond_false];exact⟨_,_,_,_,rfl,q2,rfl,hz⟩
  |ok q=>
   rw[hw]at q3;obtain⟨rfl,f1,f2,f3⟩:=q3;simp only;rw[show((0:Int)==0)=true from rfl,cond_true,amM];show ∃x y er dT,(bif !(jH t.eH u.eH)then _ else _)=_/\_/\nZ (bif jH p.2 q.2 then _ else _) _ _ _;rw[e2,f2];cases jH p.2 q.2 with
   |true=>exact⟨_,_,_,_,rfl,q2,rfl,e1,e2,f1,f2,e3⟩
   |false=>exact⟨_,_,_,_,rfl,q2,rfl,by decide⟩
theorem mch(N:Nat)(hN:9223372036854775808<N)(mem:anD bp)(hm:mem.length<=4611686018427387904)(env:anD bm):∀(n:Nat)(e:an),SizeOf.sizeOf e<=n->Ev e->Ir N mem env e:=by
 intro n
 induction n with
 |zero=>intro e hs _;have:0<SizeOf.sizeOf e:=by cases e;simp;omega
        omega
 |succ n ih=>
  intro e hs hv;have E:=hv.n;have iq:0<SizeOf.sizeOf e:=by cases e;simp;omega
  have sub:∀x∈e.aw,Ir N mem env x/\3*SizeOf.sizeOf x+3<=3*SizeOf.sizeOf e:=λx hx=>by
   have:=fW hx;exact⟨ih x (by omega) (hv.arg hx),by omega⟩
  constructor
  ·intro hc d kv hd hk;obtain⟨d,rfl⟩:∃d',d=d'+1:=⟨d-1,by omega⟩;rw[abM,afL E];unfold vH;cases kd E hc with
   |leaf h3=>
    rw[anv h3,cond_true,wU h3];obtain⟨t,er,dT,h1,h2,h4⟩:=aje N (by omega) mem hm env e (hv.f e amT) kv hk;rw[h1,amM];refine⟨_,_,_,rfl,h2,?_⟩;cases hl:nK mem env e with
    |error z=>rw[hl]at h4;exact h4
    |ok x=>
     rw[hl]at h4;obtain⟨rfl,rfl⟩:=h4;exact⟨rfl,rfl,rfl,(Un E.lit hl).1⟩
   |cast a ha ho=>
    have h3:¬e.aq<=3:=by omega
    have BD:a∈e.aw:=by rw[ha];simp
    obtain⟨A,zW⟩:=sub a BD;have ca:bn a=false:=by rw[E.want 0 a (by rw[ha];rfl),ho];rfl
    rw[anw h3,cond_false,show(e.aq==11)=false by rw[ho];rfl,cond_false,o6 h3 ha,ho];obtain⟨d,rfl⟩:∃d',d=d'+1:=⟨d-1,by omega⟩;rw[pw,ha,ho];simp only[List.getElem?_cons_zero,amM,Int.reduceBEq,cond_false,cond_true];obtain⟨t,er,mU,h1,h2,h4⟩:=A.v ca d kv (by omega) hk;rw[h1,amM];cases oO:bE mem env a with
    |error z=>
     rw[oO]at h4;obtain⟨rfl,hz⟩:=h4;simp only;rw[bne_iff_ne.2 hz,cond_true,amM];exact⟨_,_,_,rfl,h2,rfl,hz⟩
    |ok p=>
     rw[oO]at h4;obtain⟨rfl,e1,e2,e3⟩:=h4;simp only;rw[show((0:Int) !=0)=false from rfl,cond_false,Xp N hN,amM,amM,e1,e2];exact⟨_,_,_,rfl,h2,Rm (E.cast ho)⟩
   |neg a ha ho=>
    have h3:¬e.aq<=3:=by omega
    have BD:a∈e.aw:=by rw[ha];simp
    obtain⟨A,zW⟩:=sub a BD;have ca:bn a=false:=by rw[E.want 0 a (by rw[ha];rfl),ho];rfl
    rw[anw h3,cond_false,show(e.aq==11)=false by rw[ho];rfl,cond_false,o6 h3 ha,ho];obtain⟨d,rfl⟩:∃d',d=d'+1:=⟨d-1,by omega⟩;rw[pw,ha,ho];simp only[List.getElem?_cons_zero,amM,Int.reduceBEq,cond_false,cond_true];obtain⟨t,er,mU,h1,h2,h4⟩:=A.v ca d kv (by omega) hk;rw[h1,amM];cases oO:bE mem env a with
    |error z=>
     rw[oO]at h4;obtain⟨rfl,hz⟩:=h4;simp only;rw[bne_iff_ne.2 hz,cond_true,amM];exact⟨_,_,_,rfl,h2,rfl,hz⟩
    |ok p=>
     rw[oO]at h4;obtain⟨rfl,e1,e2,e3⟩:=h4;simp only;rw[show((0:Int) !=0)=false from rfl,cond_false,K7 N hN,amM,amM,e1,e2];exact⟨_,_,_,rfl,h2,Rm e3⟩
   |bin a b ha ho=>
    have h3:¬e.aq<=3:=by omega
    obtain⟨A,zW⟩:=sub a (by rw[ha];simp);obtain⟨B,NQ⟩:=sub b (by rw[ha];simp);have w0:wantsB e.aq 0=false:=by
     unfold wantsB;rw[show(e.aq==11)=false by rw[beq_eq_false_iff_ne];omega,show(e.aq==16)=false by rw[beq_eq_false_iff_ne];omega,show(e.aq==17)=false by rw[beq_eq_false_iff_ne];omega,show(e.aq==18)=false by rw[beq_eq_false_iff_ne];omega];rfl
    have w1:wantsB e.aq 1=false:=by
     unfold wantsB;rw[show(e.aq==11)=false by rw[beq_eq_false_iff_ne];omega,show(e.aq==16)=false by rw[beq_eq_false_iff_ne];omega,show(e.aq==17)=false by rw[beq_eq_false_iff_ne];omega,show(e.aq==18)=false by rw[beq_eq_false_iff_ne];omega];rfl
    have ca:bn a=false:=by rw[E.want 0 a (by rw[ha];rfl),w0]
    have cb:bn b=false:=by rw[E.want 1 b (by rw[ha];rfl),w1]
    rw[anw h3,cond_false,show(e.aq==11)=false by rw[beq_eq_false_iff_ne];omega,cond_false,tT h3 ha];obtain⟨d,rfl⟩:∃d',d=d'+1+1:=⟨d-2,by omega⟩;rw[pw,show(e.aq==8)=false by rw[beq_eq_false_iff_ne];omega,cond_false,show(e.aq==12)=false by rw[beq_eq_false_iff_ne];omega,amM,cond_false];obtain⟨x,y,er,dT,h1,h2,h4⟩:=WH (e:=e) ha A B ca cb d kv ⟨by omega,by omega⟩ hk;rw[h1,amM];cases oO:bE mem env a with
    |error z=>
     rw[oO]at h4;obtain⟨rfl,hz⟩:=h4;simp only;rw[bne_iff_ne.2 hz,cond_true,amM];exact⟨_,_,_,rfl,h2,rfl,hz⟩
    |ok p=>
     rw[oO]at h4;cases Ba:bE mem env b with
     |error z=>
      rw[Ba]at h4;obtain⟨rfl,hz⟩:=h4;simp only;rw[bne_iff_ne.2 hz,cond_true,amM];exact⟨_,_,_,rfl,h2,rfl,hz⟩
     |ok q=>
      rw[Ba]at h4;show ∃t er dT,_=_/\_/\PL (bif jH p.2 q.2 then jy p.2 (cJ e.aq p.2 p.1 q.1)else .error 10) er t;replace h4:nZ (bif jH p.2 q.2 then .ok (p,q)else .error 10) er (x,y) λp r=>r.1.j7=p.1.1/\r.1.eH=p.1.2/\r.2.j7=p.2.1/\r.2.eH=p.2.2/\b9 p.1.2=true:=h4;cases rT:jH p.2 q.2 with
      |false=>
       rw[rT]at h4;obtain⟨rfl,hz⟩:=h4;simp only;rw[bne_iff_ne.2 hz,cond_true,amM];exact⟨_,_,_,rfl,h2,rfl,hz⟩
      |true=>
       rw[rT]at h4;obtain⟨rfl,e1,e2,e3,e4,e5⟩:=h4;simp only at e1 e2 e3 e4 e5 ⊢;rw[show((0:Int) !=0)=false from rfl,cond_false,K7 N hN,amM,amM,e1,e2,e3];exact⟨_,_,_,rfl,h2,Rm e5⟩
   |ite c a b ha ho=>
    have h3:¬e.aq<=3:=by omega
    obtain⟨C,hsc⟩:=sub c (by rw[ha];simp);obtain⟨A,zW⟩:=sub a (by rw[ha];simp);obtain⟨B,NQ⟩:=sub b (by rw[ha];simp);have cc:bn c=true:=by rw[E.want 0 c (by rw[ha];rfl),ho];rfl
    have ca:bn a=false:=by rw[E.want 1 a (by rw[ha];rfl),ho];rfl
    have cb:bn b=false:=by rw[E.want 2 b (by rw[ha];rfl),ho];rfl
    rw[anw h3,cond_false,show(e.aq==11)=true by rw[ho];rfl,cond_true,wA h3 ha,ha];simp only[List.getElem?_cons_zero,anp,amM];obtain⟨t,er,mU,h1,h2,h4⟩:=C.h cc d kv (by omega) hk;rw[h1,amM];cases hh:eK mem env c with
    |error z=>
     rw[hh]at h4;obtain⟨rfl,hz,rfl⟩:=h4;simp only;rw[bne_iff_ne.2 hz,cond_true];exact⟨_,_,_,rfl,h2,rfl,hz⟩
    |ok s=>
     rw[hh]at h4;obtain⟨rfl,rfl⟩:=h4;simp only;rw[show((0:Int) !=0)=false from rfl,cond_false];cases t with
     |true=>
      obtain⟨u,er,IC,q1,q2,q3⟩:=A.v ca d mU (by omega) h2;rw[cond_true,q1,amM];exact⟨_,_,_,rfl,q2,q3⟩
     |false=>
      obtain⟨u,er,IC,q1,q2,q3⟩:=B.v cb d mU (by omega) h2;rw[cond_false,q1,amM];exact⟨_,_,_,rfl,q2,q3⟩
  ·intro hc d kv hd hk;obtain⟨d,rfl⟩:∃d',d=d'+1+1:=⟨d-2,by omega⟩;rw[oa,Ef];cases kc E hc with
   |not a ha ho=>
    obtain⟨A,zW⟩:=sub a (by rw[ha];simp);have ca:bn a=true:=by rw[E.want 0 a (by rw[ha];rfl),ho];rfl
    rw[ha,ho,Gz ha,anw (by decide),cond_false];simp only[List.getElem?_cons_zero,amM];obtain⟨t,er,mU,h1,h2,h4⟩:=A.h ca d kv (by omega) hk;rw[h1,amM];cases hh:eK mem env a with
    |error z=>
     rw[hh]at h4;obtain⟨rfl,hz,rfl⟩:=h4;simp only;rw[bne_iff_ne.2 hz,cond_true,amM,cond_true,show(er==0)=false by rw[beq_eq_false_iff_ne];exact hz,cond_false,amM,amM];exact⟨_,_,_,rfl,h2,rfl,hz,rfl⟩
    |ok s=>
     rw[hh]at h4;obtain⟨rfl,rfl⟩:=h4;exact⟨_,_,_,rfl,h2,rfl,rfl⟩
   |cmp a b ha ho=>
    obtain⟨A,zW⟩:=sub a (by rw[ha];simp);obtain⟨B,NQ⟩:=sub b (by rw[ha];simp);have w:∀i,wantsB e.aq i=false:=λi=>by
     unfold wantsB;rw[show(e.aq==11)=false by rw[beq_eq_false_iff_ne];omega,show(e.aq==16)=false by rw[beq_eq_false_iff_ne];omega,show(e.aq==17)=false by rw[beq_eq_false_iff_ne];omega,show(e.aq==18)=false by rw[beq_eq_false_iff_ne];omega];rfl
    have ca:bn a=false:=by rw[E.want 0 a (by rw[ha];rfl),w]
    have cb:bn b=false:=by rw[E.want 1 b (by rw[ha];rfl),w]
    rw[anv (show e.aq<16 by omega),cond_true,mV ha,anv (show e.aq<16 by omega),cond_true];obtain⟨d,rfl⟩:∃d',d=d'+1:=⟨d-1,by omega⟩;obtain⟨x,y,er,dT,h1,h2,h4⟩:=WH (e:=e) ha A B ca cb d kv ⟨by omega,by omega⟩ hk;rw[h1,amM];cases oO:bE mem env a with
    |error z=>
     rw[oO]at h4;obtain⟨rfl,hz⟩:=h4;simp only;rw[bne_iff_ne.2 hz,cond_true,amM];exact⟨_,_,_,rfl,h2,rfl,hz,rfl⟩
    |ok p=>
     rw[oO]at h4;cases Ba:bE mem env b with
     |error z=>
      rw[Ba]at h4;obtain⟨rfl,hz⟩:=h4;simp only;rw[bne_iff_ne.2 hz,cond_true,amM];exact⟨_,_,_,rfl,h2,rfl,hz,rfl⟩
     |ok q=>
      rw[Ba]at h4;show ∃b er dT,_=_/\_/\V8 (bif jH p.2 q.2 then .ok (qZ e.aq (fD p.2 p.1 q.1))else .error 10) er b;replace h4:nZ (bif jH p.2 q.2 then .ok (p,q)else .error 10) er (x,y) λp r=>r.1.j7=p.1.1/\r.1.eH=p.1.2/\r.2.j7=p.2.1/\r.2.eH=p.2.2/\b9 p.1.2=true:=h4;cases rT:jH p.2 q.2 with
      |false=>
       rw[rT]at h4;obtain⟨rfl,hz⟩:=h4;simp only;rw[bne_iff_ne.2 hz,cond_true,amM];exact⟨_,_,_,rfl,h2,rfl,hz,rfl⟩
      |true=>
       rw[rT]at h4;obtain⟨rfl,e1,e2,e3,e4,e5⟩:=h4;simp only at e1 e2 e3 e4 e5 ⊢;rw[show((0:Int) !=0)=false from rfl,cond_false,e1,e2,e3,Lo N (by omega) _ _ _ e5,amM];unfold Qf qZ;cases (e.aq==13)with
       |true=>exact⟨_,_,_,rfl,h2,rfl,rfl⟩
       |false=>
        cases (e.aq==14)with
        |true=>exact⟨_,_,_,rfl,h2,rfl,rfl⟩
        |false=>exact⟨_,_,_,rfl,h2,rfl,rfl⟩
   |log a b ha ho=>
    obtain⟨A,zW⟩:=sub a (by rw[ha];simp);obtain⟨B,NQ⟩:=sub b (by rw[ha];simp);have w:∀i,wantsB e.aq i=true:=λi=>by
     unfold wantsB;rcases ho with h|h<;>rw[h]<;>simp
    have ca:bn a=true:=by rw[E.want 0 a (by rw[ha];rfl),w]
    have cb:bn b=true:=by rw[E.want 1 b (by rw[ha];rfl),w]
    rw[anw (show ¬e.aq<16 by omega),cond_false,mV ha,anw (show ¬e.aq<16 by omega),cond_false,ha];simp only[List.getElem?_cons_zero,anp,amM];obtain⟨t,er,mU,h1,h2,h4⟩:=A.h ca d kv (by omega) hk;rw[h1,amM];cases hh:eK mem env a with
    |error z=>
     rw[hh]at h4;obtain⟨rfl,hz,rfl⟩:=h4;simp only;rw[bne_iff_ne.2 hz,cond_true,amM,cond_true,show(er==0)=false by rw[beq_eq_false_iff_ne];exact hz,cond_false,amM,amM];exact⟨_,_,_,rfl,h2,rfl,hz,rfl⟩
    |ok s=>
     rw[hh]at h4;obtain⟨rfl,rfl⟩:=h4;simp only;rw[show((0:Int) !=0)=false from rfl,cond_false,show(e.aq==18)=false by rw[beq_eq_false_iff_ne];omega,amM,cond_false];obtain⟨u,er,IC,q1,q2,q3⟩:=B.h cb d mU (by omega) h2;rw[q1,amM];cases hg:eK mem env b with
     |error z=>
      rw[hg]at q3;obtain⟨rfl,hz,rfl⟩:=q3;simp only;rw[bne_iff_ne.2 hz,cond_true,amM];exact⟨_,_,_,rfl,q2,rfl,hz,rfl⟩
     |ok s2=>
      rw[hg]at q3;obtain⟨rfl,rfl⟩:=q3;simp only;rw[show((0:Int) !=0)=false from rfl,cond_false];unfold iu;simp only;cases (e.aq==16)<;>cases t<;>exact⟨_,_,_,rfl,q2,rfl,rfl⟩
theorem qb{α β:Type}{b:Bool}{x:Except α β}{e:α}{y:β}(h:(bif b then x else .error e)= .ok y):b=true/\x= .ok y:=by
 cases b with
 |true=>exact⟨rfl,h⟩
 |false=>cases h
theorem qh{α β:Type}{r:Except Int α}{f:α->Except Int β}{y:β}(h:iu r f= .ok y):∃x,r= .ok x/\f x= .ok y:=by
 cases r with
 |error z=>cases h
 |ok x=>exact⟨x,rfl,h⟩
theorem NL{t:aF}{r:aB×Int}{x:aB×aF}(h:jy t r= .ok x):r.2=0/\x=(r.1,t):=by
 unfold jy at h;cases hz:r.2 !=0 with
 |true=>rw[hz]at h;cases h
 |false=>rw[hz]at h;cases h;exact⟨by simpa using hz,rfl⟩
theorem GD{t:aF}{r:aB×Int}(h:r.2=0):jy t r= .ok (r.1,t):=by unfold jy;rw[h];rfl
theorem L7{op:Int}{i:Nat}(h:op≠11\/i≠0)(bH:op<16):wantsB op i=false:=by
 unfold wantsB;rw[show(op==16)=false by rw[beq_eq_false_iff_ne];omega,show(op==17)=false by rw[beq_eq_false_iff_ne];omega,show(op==18)=false by rw[beq_eq_false_iff_ne];omega];rcases h with h|h
 ·rw[show(op==11)=false by rw[beq_eq_false_iff_ne];exact h];rfl
 ·rw[show(i==0)=false by rw[beq_eq_false_iff_ne];exact h,Bool.and_false];rfl
theorem Ev.c1{e a:an}(H:Ev e)(ha:e.aw=[a])(ho:e.aq<16)(bo:e.aq≠11):bn a=false:=by
 rw[H.n.want 0 a (by rw[ha];rfl)];exact L7 (.inl bo) ho
theorem Ev.c2{e a b:an}(H:Ev e)(ha:e.aw=[a,b])(ho:e.aq<16)(bo:e.aq≠11):bn a=false/\bn b=false:=by
 refine⟨?_,?_⟩
 ·rw[H.n.want 0 a (by rw[ha];rfl)];exact L7 (.inl bo) ho
 ·rw[H.n.want 1 b (by rw[ha];rfl)];exact L7 (.inl bo) ho
theorem Ev.c3{e c a b:an}(H:Ev e)(ha:e.aw=[c,a,b])(ho:e.aq=11):bn c=true/\bn a=false/\bn b=false:=by
 refine⟨?_,?_,?_⟩
 ·rw[H.n.want 0 c (by rw[ha];rfl),ho];rfl
 ·rw[H.n.want 1 a (by rw[ha];rfl),ho];rfl
 ·rw[H.n.want 2 b (by rw[ha];rfl),ho];rfl
theorem Ev.k1{e a:an}(H:Ev e)(ha:e.aw=[a])(ho:e.aq=18):bn a=true:=by
 rw[H.n.want 0 a (by rw[ha];rfl),ho];rfl
theorem Ev.k2{e a b:an}(H:Ev e)(ha:e.aw=[a,b])(ho:e.aq=16\/e.aq=17):bn a=true/\bn b=true:=by
 refine⟨?_,?_⟩
 ·rw[H.n.want 0 a (by rw[ha];rfl)];rcases ho with h|h<;>rw[h]<;>rfl
 ·rw[H.n.want 1 b (by rw[ha];rfl)];rcases ho with h|h<;>rw[h]<;>rfl
theorem m9{e:an}(H:Ev e)(h:e.aq<=3):e.aw=[]:=by
 have h1:=H.n.AJ;have h2:=H.n.lo;unfold iY at h1;have:e.aq=1\/e.aq=2\/e.aq=3:=by omega
 rcases this with h|h|h<;>rw[h]at h1<;>exact List.eq_nil_of_length_eq_zero (by simpa using h1)
theorem rF{e a:an}(ha:e.aw=[a]):SizeOf.sizeOf a<SizeOf.sizeOf e:=fW (by rw[ha];simp)
theorem rQ{e a b:an}(ha:e.aw=[a,b]):SizeOf.sizeOf a<SizeOf.sizeOf e/\SizeOf.sizeOf b<SizeOf.sizeOf e:=⟨fW (by rw[ha];simp),fW (by rw[ha];simp)⟩
theorem Bf{e c a b:an}(ha:e.aw=[c,a,b]):SizeOf.sizeOf c<SizeOf.sizeOf e/\SizeOf.sizeOf a<SizeOf.sizeOf e/\SizeOf.sizeOf b<SizeOf.sizeOf e:=⟨fW (by rw[ha];simp),fW (by rw[ha];simp),fW (by rw[ha];simp)⟩
theorem Ev.a1{e a:an}(H:Ev e)(ha:e.aw=[a]):Ev a:=H.arg (by rw[ha];simp)
theorem Ev.a2{e a b:an}(H:Ev e)(ha:e.aw=[a,b]):Ev a/\Ev b:=⟨H.arg (by rw[ha];simp),H.arg (by rw[ha];simp)⟩
theorem Ev.a3{e c a b:an}(H:Ev e)(ha:e.aw=[c,a,b]):Ev c/\Ev a/\Ev b:=⟨H.arg (by rw[ha];simp),H.arg (by rw[ha];simp),H.arg (by rw[ha];simp)⟩
section
variable {mem:anD bp} {env:anD bm}
theorem Ih{e a:an}{x:aB×aF}(ha:e.aw=[a])(ho:e.aq=12)(h:bE mem env e= .ok x):∃y,bE mem env a= .ok y/\(nx y.2 e.aD y.1).2=0/\x=((nx y.2 e.aD y.1).1,e.aD):=by
 rw[o6 (by omega) ha]at h;obtain⟨y,h1,h2⟩:=qh h;rw[ho,show((12:Int)==12)=true from rfl,cond_true]at h2;exact⟨y,h1,NL h2⟩
theorem qB{e a:an}{x:aB×aF}(ha:e.aw=[a])(ho:e.aq=8)(h:bE mem env e= .ok x):∃y,bE mem env a= .ok y/\(cJ 8 y.2 y.1 y.1).2=0/\x=((cJ 8 y.2 y.1 y.1).1,y.2):=by
 rw[o6 (by omega) ha]at h;obtain⟨y,h1,h2⟩:=qh h;rw[ho,show((8:Int)==12)=false from rfl,cond_false]at h2;exact⟨y,h1,NL h2⟩
theorem qq{e a b:an}{x:aB×aF}(ha:e.aw=[a,b])(ho:¬e.aq<=3)(h:bE mem env e= .ok x):∃y z,bE mem env a= .ok y/\bE mem env b= .ok z/\y.2=z.2/\(cJ e.aq y.2 y.1 z.1).2=0/\x=((cJ e.aq y.2 y.1 z.1).1,y.2):=by
 rw[tT ho ha]at h;obtain⟨y,h1,h2⟩:=qh h;obtain⟨z,h3,h4⟩:=qh h2;obtain⟨h5,h6⟩:=qb h4;exact⟨y,z,h1,h3,D7.1 h5,NL h6⟩
theorem z8{e c a b:an}{x:aB×aF}(ha:e.aw=[c,a,b])(ho:¬e.aq<=3)(h:bE mem env e= .ok x):∃t,eK mem env c= .ok t/\(bif t then bE mem env a else bE mem env b)= .ok x:=by
 rw[wA ho ha]at h;exact qh h
theorem Dz{e a:an}{r:Bool}(ha:e.aw=[a])(h:eK mem env e= .ok r):∃t,eK mem env a= .ok t/\r= !t:=by
 rw[Gz ha]at h;obtain⟨t,h1,h2⟩:=qh h;exact⟨t,h1,(Except.ok.inj h2).symm⟩
theorem Ip{e a b:an}{r:Bool}(ha:e.aw=[a,b])(ho:e.aq<16)(h:eK mem env e= .ok r):∃y z,bE mem env a= .ok y/\bE mem env b= .ok z/\y.2=z.2/\r=qZ e.aq (fD y.2 y.1 z.1):=by
 rw[mV ha,anv ho,cond_true]at h;obtain⟨y,h1,h2⟩:=qh h;obtain⟨z,h3,h4⟩:=qh h2;obtain⟨h5,h6⟩:=qb h4;exact⟨y,z,h1,h3,D7.1 h5,(Except.ok.inj h6).symm⟩
theorem Js{e a b:an}{r:Bool}(ha:e.aw=[a,b])(ho:¬e.aq<16)(h:eK mem env e= .ok r):∃s t,eK mem env a= .ok s/\eK mem env b= .ok t/\r=(bif e.aq==16 then s&&t else s||t):=by
 rw[mV ha,anw ho,cond_false]at h;obtain⟨s,h1,h2⟩:=qh h;obtain⟨t,h3,h4⟩:=qh h2;exact⟨s,t,h1,h3,(Except.ok.inj h4).symm⟩
theorem OS{e a b:an}{y z:aB×aF}(ha:e.aw=[a,b])(ho:¬e.aq<=3)(h1:bE mem env a= .ok y)(h2:bE mem env b= .ok z)(ht:y.2=z.2):bE mem env e=jy y.2 (cJ e.aq y.2 y.1 z.1):=by
 rw[tT ho ha,h1,h2];show(bif jH y.2 z.2 then _ else _)=_;rw[D7.2 ht];rfl
theorem alG{e a:an}{y:aB×aF}(ha:e.aw=[a])(ho:e.aq=8)(h1:bE mem env a= .ok y):bE mem env e=jy y.2 (cJ 8 y.2 y.1 y.1):=by
 rw[o6 (by omega) ha,h1];show(bif e.aq==12 then _ else _)=_;rw[ho];rfl
theorem qW{a:an}(h:a.aq=1):bE mem env a= .ok (a.bg,a.aD):=by
 rw[wU (by omega)];unfold nK;rw[h];rfl
theorem NX:∀(n:Nat)(e:an),SizeOf.sizeOf e<=n->Ev e->bn e=false->∀x,bE mem env e= .ok x->b9 x.2=true/\b4 x.2 x.1=true
 |0,e,hn,_,_,_,_=>by cases e;simp at hn
 |n+1,e,hn,H,hc,x,hx=>by
  rcases kd H.n hc with h|⟨a,ha,ho⟩|⟨a,ha,ho⟩|⟨a,b,ha,ho⟩|⟨c,a,b,ha,ho⟩
  ·rw[wU h]at hx;exact Un H.n.lit hx
  ·obtain⟨y,h1,h2,rfl⟩:=Ih ha ho hx;exact S6 h2
  ·obtain⟨y,h1,h2,rfl⟩:=qB ha ho hx;exact⟨(zB h2).1,(zB h2).2.2⟩
  ·obtain⟨y,z,h1,h2,h3,h4,rfl⟩:=qq ha (by omega) hx;exact⟨(zB h4).1,(zB h4).2.2⟩
  ·obtain⟨t,h1,h2⟩:=z8 ha (by omega) hx;have s3:=Bf ha;have c3:=H.c3 ha ho;have a3:=H.a3 ha;cases t with
   |true=>exact NX n a (by omega) a3.2.1 c3.2.1 x h2
   |false=>exact NX n b (by omega) a3.2.2 c3.2.2 x h2
theorem nB{e:an}{x:aB×aF}(H:Ev e)(hc:bn e=false)(hx:bE mem env e= .ok x):b9 x.2=true/\b4 x.2 x.1=true:=NX _ e (amY _) H hc x hx
end
structure P7(l:List bf):Prop where
 Ez:lT l
 name:∀m∈l,j8 m.aO=true
 cr:∀m∈l,m.cA.toInt≠0
theorem KL:∀(l:anD bf)(p:anF anE),sA p l=true->∀m∈l,j8 m.aO=true/\m.cA.toInt≠0
 |[],_,_,m,hm=>by cases hm
 |x::l,p,h,m,hm=>by
  rw[HO]at h;simp only[amP,Bool.not_eq_true',beq_eq_false_iff_ne]at h;rcases ani.1 hm with rfl|hm
  ·exact⟨h.1,h.2.1⟩
  ·exact KL l _ h.2.2.2 m hm
theorem Tn:∀(l:anD bf)(p:anF anE),P7 l->(∀q,p=some q->∀x∈l.map (·.aO),lt q x=true)->sA p l=true
 |[],p,_,_=>by cases p<;>rfl
 |x::l,p,V,hp=>by
  rw[HO,V.name x amT,beq_false_of_ne (V.cr x amT)];have ih:=Tn l (some x.aO) ⟨V.Ez.tail,λm hm=>V.name m (amW _ hm),λm hm=>V.cr m (amW _ hm)⟩ λq hq y hy=>by
    cases hq
    have ha:=V.Ez;unfold lT xU at ha;rw[anc,List.pairwise_cons]at ha;exact ha.1 y hy
  rw[ih];cases p with
  |none=>rfl
  |some q=>
   have:=hp q rfl x.aO (by simp);unfold lt at this;show(true&&(!false&&(Op.bytesLess (bL q) (bL x.aO)&&true)))=true;rw[this];rfl
theorem Dr{l:aP}:dY l=true↔P7 l.xL:=by
 refine⟨λh=>⟨ah8 h,λm hm=>(KL _ _ h m hm).1,λm hm=>(KL _ _ h m hm).2⟩,λh=>Tn _ _ h λq hq=>by cases hq⟩
def ir(env:anD bm):anD bf->anF Int
 |[]=>some 0
 |m::r=>match mT env m.aO with
  |none=>none
  |some v=>(ir env r).map (m.cA.toInt*v.toInt+·)
theorem MB(env:anD bm):∀(l:anD bf)(a:Int),gD env l a=(ir env l).map (a+·)
 |[],a=>by rw[gD,ir];simp
 |m::l,a=>by
  rw[gD,ir];cases mT env m.aO with
  |none=>rfl
  |some v=>
   dsimp only;rw[MB env l];cases ir env l with
   |none=>rfl
   |some s=>simp only[Option.map_some];congr 1;omega
def tS(env:anD bm):anD (anE×Int×Int)->anF Int
 |[]=>some 0
 |t::r=>match mT env t.1 with
  |none=>none
  |some v=>(tS env r).map ((t.2.1+t.2.2)*v.toInt+·)
theorem Et{env:anD bm}{m:bf}{l:anD bf}{z:Int}(h:ir env (m::l)=some z):∃v s,mT env m.aO=some v/\ir env l=some s/\z=m.cA.toInt*v.toInt+s:=by
 rw[ir]at h;cases he:mT env m.aO with
 |none=>rw[he]at h;cases h
 |some v=>
  rw[he]at h;cases hs:ir env l with
  |none=>rw[hs]at h;cases h
  |some s=>rw[hs]at h;exact⟨v,s,rfl,rfl,(am6 h).symm⟩
theorem D4{env:anD bm}{s:anE}{x y:Int}{r:anD (anE×Int×Int)}{v:Int64}{z:Int}(h:mT env s=some v)(hr:tS env r=some z):tS env ((s,x,y)::r)=some ((x+y)*v.toInt+z):=by
 rw[tS];dsimp only;rw[h,hr];rfl
theorem Ab(env:anD bm):∀(a b:anD bf)(x y:Int),ir env a=some x->ir env b=some y->tS env (eE a b)=some (x+y)
 |[],[],x,y,hx,hy=>by cases hx;cases hy;rw[eE];rfl
 |a::l,[],x,y,hx,hy=>by
  obtain⟨v,s,h1,h2,h3⟩:=Et hx;cases hy
  rw[eE,D4 h1 (Ab env l [] s 0 h2 rfl)]
  congr 1;grind
 |[],b::r,x,y,hx,hy=>by
  obtain⟨v,s,h1,h2,h3⟩:=Et hy;cases hx
  rw[eE,D4 h1 (Ab env [] r 0 s rfl h2)]
  congr 1;grind
 |a::l,b::r,x,y,hx,hy=>by
  obtain⟨v,s,h1,h2,h3⟩:=Et hx;obtain⟨w,u,k1,k2,k3⟩:=Et hy;rw[eE];split
  ·rw[D4 h1 (Ab env l (b::r) s y h2 hy)]
   congr 1;grind
  ·rename_i n1
   split
   ·rw[D4 k1 (Ab env (a::l) r x u hx k2)]
    congr 1;grind
   ·rename_i n2
    have e:=Pj (by simpa using n1) (by simpa using n2);rw[e,k1]at h1;cases h1
    rw[e,D4 k1 (Ab env l r s u h2 k2)]
    congr 1;grind
termination_by a b=>a.length+b.length
theorem Tz(env:anD bm):∀(l:anD (anE×Int×Int))(z:Int),tS env l=some z->l.all kZ=true->ir env (l.filterMap gQ)=some z
 |[],z,h,_=>h
 |t::l,z,h,hf=>by
  rw[anz,amP]at hf;rw[tS]at h;cases he:mT env t.1 with
  |none=>rw[he]at h;cases h
  |some v=>
   rw[he]at h;cases hs:tS env l with
   |none=>rw[hs]at h;cases h
   |some s=>
    rw[hs]at h;have ih:=Tz env l s hs hf.2;have hz:z=(t.2.1+t.2.2)*v.toInt+s:=(am6 h).symm;by_cases h0:t.2.1+t.2.2=0
    ·rw[List.filterMap_cons,show gQ t=none by unfold gQ;rw[if_pos h0]];dsimp only;rw[ih,hz,h0,Int.zero_mul,Int.zero_add]
    ·rw[List.filterMap_cons,show gQ t=some ⟨t.1,Int64.ofInt (t.2.1+t.2.2)⟩ by unfold gQ;rw[if_neg h0]];dsimp only;have hb:=kg.1 hf.1;rw[ir];dsimp only;rw[he,ih,hz,Int64.toInt_ofInt_of_le (by omega) (by omega)];rfl
theorem ali{l:anD (anE×Int×Int)}(ha:xU (l.map (·.1)))(hn:∀t∈l,j8 t.1=true)(hf:l.all kZ=true):P7 (l.filterMap gQ):=by
 have hk:∀m∈l.filterMap gQ,∃t∈l,m.aO=t.1/\m.cA.toInt≠0:=λm hm=>by
  obtain⟨t,ht,e⟩:=List.mem_filterMap.1 hm;unfold gQ at e;split at e
  ·cases e
  ·rename_i h0
   cases e
   have hb:=kg.1 (ane.1 hf t ht);exact⟨t,ht,rfl,by show(Int64.ofInt _).toInt≠0;rw[Int64.toInt_ofInt_of_le (by omega) (by omega)];exact h0⟩
 refine⟨?_,λm hm=> ?_,λm hm=> ?_⟩
 ·have go:∀l:anD (anE×Int×Int),xU (l.map (·.1))->lT (l.filterMap gQ):=by
   intro l
   induction l with
   |nil=>intro _;exact List.Pairwise.nil
   |cons t l ih=>
    intro h;have h':((t.1::l.map (·.1)):anD anE).Pairwise λa b=>lt a b=true:=h;rw[List.pairwise_cons]at h';rw[List.filterMap_cons];unfold gQ;by_cases h0:t.2.1+t.2.2=0
    ·rw[if_pos h0];exact ih h'.2
    ·rw[if_neg h0];refine List.pairwise_cons.2 ⟨λx hx=> ?_,ih h'.2⟩;obtain⟨m,hm,rfl⟩:=List.mem_map.1 hx;obtain⟨u,hu,e⟩:=List.mem_filterMap.1 hm;split at e
     ·cases e
     ·cases e;exact h'.1 u.1 (List.mem_map.2 ⟨u,hu,rfl⟩)
  exact go l ha
 ·obtain⟨t,ht,e,_⟩:=hk m hm;rw[e];exact hn t ht
 ·exact(hk m hm).choose_spec.2.2
theorem aiO{a b:Int64}(h:dU (a.toInt+b.toInt)=true):(a+b).toInt=a.toInt+b.toInt:=by
 have:=kg.1 h;rw[EW,IntKind.wrap_i64];omega
theorem L3{a b:Int64}(h:dU (a.toInt*b.toInt)=true):(a*b).toInt=a.toInt*b.toInt:=by
 have:=kg.1 h;rw[MX,IntKind.wrap_i64];omega
theorem N9{f g d:aP}(h:n4 f g= .ok d):dY d=true:=by
 rw[Ii]at h;obtain⟨h1,h⟩:=qb h;obtain⟨h2,h⟩:=qb h;rw[amP]at h1 h2;have hd:=Except.ok.inj h;subst hd;have F:=Dr.1 h1.1;have G:=Dr.1 h1.2;refine Dr.2 (ali (yV _ _ F.Ez G.Ez) (λt ht=> ?_) h2.2);rcases (pj f.xL g.xL t.1).1 (List.mem_map.2 ⟨t,ht,rfl⟩)with h|h
 ·obtain⟨m,hm,e⟩:=List.mem_map.1 h;rw[<-e];exact F.name m hm
 ·obtain⟨m,hm,e⟩:=List.mem_map.1 h;rw[<-e];exact G.name m hm
theorem TS{env:anD bm}{f g d:aP}{s u:Int}(h:n4 f g= .ok d)(hf:gD env f.xL f.xK.toInt=some s)(hg:gD env g.xL g.xK.toInt=some u):gD env d.xL d.xK.toInt=some (s+u):=by
 rw[Ii]at h;obtain⟨h1,h⟩:=qb h;obtain⟨h2,h⟩:=qb h;rw[amP]at h1 h2;have hd:=Except.ok.inj h;subst hd;rw[MB]at hf hg ⊢;cases ha:ir env f.xL with
 |none=>rw[ha]at hf;cases hf
 |some x=>
  cases hb:ir env g.xL with
  |none=>rw[hb]at hg;cases hg
  |some y=>
   rw[ha]at hf;rw[hb]at hg;have e1:f.xK.toInt+x=s:=am6 hf;have e2:g.xK.toInt+y=u:=am6 hg;show(ir env ((eE f.xL g.xL).filterMap gQ)).map ((f.xK+g.xK).toInt+·)=_;rw[Tz env _ _ (Ab env _ _ x y ha hb) h2.2,aiO h2.1,Option.map_some]
   congr 1;omega
theorem RW{env:anD bm}(b:Int64):∀(l:anD bf)(z:Int),ir env l=some z->l.all (ug b)=true->ir env (l.map (vv b))=some (z*b.toInt)
 |[],z,h,_=>by cases h;rw[List.map_nil,ir,Int.zero_mul]
 |m::l,z,h,hf=>by
  rw[anz,amP]at hf;obtain⟨v,s,h1,h2,h3⟩:=Et h;rw[anc,ir];show(match mT env m.aO with|none=>none|some v=>(ir env (l.map (vv b))).map ((m.cA*b).toInt*v.toInt+·))=_;rw[h1,RW b l s h2 hf.2];dsimp only;rw[L3 hf.1,Option.map_some,h3]
  congr 1;grind
theorem Au{f d:aP}{b:Int64}(h:kV f b= .ok d):dY d=true:=by
 rw[Jy]at h;obtain⟨h1,h⟩:=qb h;cases hb:b.toInt==0 with
 |true=>rw[hb,cond_true]at h;have hd:=Except.ok.inj h;subst hd;rfl
 |false=>
  rw[hb,cond_false]at h;obtain⟨h2,h⟩:=qb h;rw[amP]at h2;have hd:=Except.ok.inj h;subst hd;have F:=Dr.1 h1;refine Dr.2 ⟨?_,λm hm=> ?_,λm hm=> ?_⟩
  ·have e:((f.xL.map (vv b)).map (·.aO))=f.xL.map (·.aO):=by rw[List.map_map];rfl
   show lT (f.xL.map (vv b));unfold lT;rw[e];exact F.Ez
  ·obtain⟨x,hx,rfl⟩:=List.mem_map.1 hm;exact F.name x hx
  ·obtain⟨x,hx,rfl⟩:=List.mem_map.1 hm;show(x.cA*b).toInt≠0;rw[L3 (ane.1 h2.2 x hx)];exact Int.mul_ne_zero (F.cr x hx) (by simpa using hb)
theorem GO{env:anD bm}{f d:aP}{b:Int64}{s:Int}(h:kV f b= .ok d)(hf:gD env f.xL f.xK.toInt=some s):gD env d.xL d.xK.toInt=some (s*b.toInt):=by
 rw[Jy]at h;obtain⟨h1,h⟩:=qb h;cases hb:b.toInt==0 with
 |true=>
  rw[hb,cond_true]at h;have hd:=Except.ok.inj h;subst hd;rw[beq_iff_eq]at hb;rw[hb,Int.mul_zero];rfl
 |false=>
  rw[hb,cond_false]at h;obtain⟨h2,h⟩:=qb h;rw[amP]at h2;have hd:=Except.ok.inj h;subst hd;rw[MB]at hf ⊢;cases ha:ir env f.xL with
  |none=>rw[ha]at hf;cases hf
  |some x=>
   rw[ha]at hf;have e1:f.xK.toInt+x=s:=am6 hf;show(ir env (f.xL.map (vv b))).map ((f.xK*b).toInt+·)=_;rw[RW b _ _ ha h2.2,L3 h2.1,Option.map_some,<-e1]
   congr 1;grind
theorem qF{l:aP}{env:anD bm}{n:Int64}(h:cU l env=(n,0)):dY l=true/\gD env l.xL l.xK.toInt=some n.toInt:=by
 unfold cU at h;cases hl:dY l with
 |false=>rw[hl]at h;cases h
 |true=>
  rw[hl,Bool.not_true,cond_false]at h;cases hs:gD env l.xL l.xK.toInt with
  |none=>rw[hs]at h;cases h
  |some s=>
   rw[hs]at h;dsimp only at h;cases hf:dU s with
   |false=>rw[hf]at h;cases h
   |true=>
    rw[hf]at h;have e:=congrArg Prod.fst h;have e:Int64.ofInt s=n:=e;have hb:=kg.1 hf;refine⟨rfl,?_⟩;rw[<-e,Int64.toInt_ofInt_of_le (by omega) (by omega)]
theorem ahm{l:aP}{env:anD bm}{n:Int64}(h1:dY l=true)(h2:gD env l.xL l.xK.toInt=some n.toInt):cU l env=(n,0):=by
 unfold cU;rw[h1,h2];dsimp only;rw[TZ,Int64.ofInt_toInt];rfl
theorem aln{l:aP}{env:anD bm}{s:Int}(h1:dY l=true)(h2:gD env l.xL l.xK.toInt=some s)(hf:dU s=true):cU l env=(Int64.ofInt s,0):=by
 unfold cU;rw[h1,h2];dsimp only;rw[hf];rfl
theorem Qo(k:Int64)(env:anD bm):cU ⟨k,[]⟩ env=(k,0):=ahm rfl rfl
structure zd(B:Nat)(x:aN):Prop where
 ic:x.aM.xL.length<=B
 at_:x.aZ.length<=B
 vw:∀l∈x.aZ,l.xL.length<=B
structure HY(B:Nat)(e:an):Prop where
 ic:e.aM.xL.length<=B
 idx:e.xIdx.length<=B
 each:∀x∈e.xIdx,zd B x
 args:e.aw.length<=B
def mD(B:Nat)(e:an):Prop:=∀y∈dq e,HY B y
theorem mD.arg{B:Nat}{e x:an}(h:mD B e)(hx:x∈e.aw):mD B x:=λy hy=>h y (mc hx hy)
theorem zd.mono{A B:Nat}(h:A<=B){x:aN}(k:zd A x):zd B x:=⟨am5 k.ic h,am5 k.at_ h,λl hl=>am5 (k.vw l hl) h⟩
theorem HY.mono{A B:Nat}(h:A<=B){e:an}(k:HY A e):HY B e:=⟨am5 k.ic h,am5 k.idx h,λx hx=>(k.each x hx).mono h,am5 k.args h⟩
abbrev AQ:Nat:=140737488355328
theorem zo{a b:Nat}(h:a+b<=9223372036854775807):aS ((a:Int)+(b:Int))=((a+b:Nat):Int):=by
 rw[<-Int.natCast_add];exact Wf h
def Wt(m n:Nat)(Q:Prop)(r:anF Int):Prop:=∃v:Nat,r=some (v:Int)/\n<=v/\v<=m+500000000000000/\(v<=m->Q)
theorem NV(N:Nat)(m:Nat)(hm:m<=100000)(rec:an->Int->anF Int)(sN:an->Prop)(hr:∀(x:an)(q:Nat),q<=m->sN x->Wt q 1 (mD q x) (rec x (q:Int))):∀(l:anD an)(k v:Nat),v<=m+500000000000000->(∀x∈l,sN x)->
 Wt m v (v+l.length<=m/\∀x∈l,mD m x) (xc N (m:Int) rec l k (v:Int))/\AI N (m:Int) rec l k (v:Int)=xc N (m:Int) rec l k (v:Int)
 |[],k,v,hv,_=>⟨⟨v,rfl,amY _,by omega,λh=>⟨h,λ_ h=>by cases h⟩⟩,rfl⟩
 |x::l,k,v,hv,hx=>by
  rw[xc,AI,Kv];by_cases h:v<=m
  ·rw[anv h,cond_true,cond_true,show aS ((m:Int)-(v:Int))=((m-v:Nat):Int) by rw[show(m:Int)-(v:Int)=((m-v:Nat):Int) by omega];exact Wf (by omega)];obtain⟨n,e1,e2,e3,e4⟩:=hr x (m-v) (Nat.sub_le _ _) (hx x amT);rw[e1,amM,amM];dsimp only;rw[zo (by omega)];by_cases hn:v+n<=m
   ·obtain⟨⟨u,f1,f2,f3,f4⟩,f5⟩:=NV N m hm rec sN hr l (k+1) (v+n) (by omega) λy hy=>hx y (amW _ hy);refine⟨⟨u,f1,by omega,f3,λhu=> ?_⟩,f5⟩;obtain⟨g1,g2⟩:=f4 hu;refine⟨by simp only[amQ];omega,λy hy=> ?_⟩;rcases ani.1 hy with rfl|hy
    ·exact λz hz=>(e4 (by omega) z hz).mono (by omega)
    ·exact g2 y hy
   ·have stop:∀(l:anD an)(k:Nat),xc N (m:Int) rec l k ((v+n:Nat):Int)=some ((v+n:Nat):Int)/\AI N (m:Int) rec l k ((v+n:Nat):Int)=some ((v+n:Nat):Int):=by
     intro l k;cases l with
     |nil=>exact⟨rfl,rfl⟩
     |cons y l=>rw[xc,AI,Kv,anw hn];exact⟨rfl,rfl⟩
    rw[(stop l (k+1)).1,(stop l (k+1)).2];exact⟨⟨v+n,rfl,by omega,by omega,λh=>absurd h hn⟩,rfl⟩
  ·rw[anw h];exact⟨⟨v,rfl,amY _,by omega,λh'=>absurd h' h⟩,rfl⟩
theorem SX(N:Nat)(m:Nat)(hm:m<=100000)(c:Int->anF Int)(lo:Nat)(Q:Prop)(hc:∀v:Nat,v<=m+500000000000000->lo<=v->Wt m v Q (c (v:Int))):∀(l:anD aP)(k v:Nat),v<=m+500000000000000->lo<=v->(∀x∈l,x.xL.length<=AQ)->
 Wt m v (Q/\∀x∈l,x.xL.length<=m) (GF N c (m:Int) l k (v:Int))
 |[],k,v,hv,jP,_=>by
  obtain⟨u,h1,h2,h3,h4⟩:=hc v hv jP;exact⟨u,h1,h2,h3,λh=>⟨h4 h,λ_ h=>by cases h⟩⟩
 |x::l,k,v,hv,jP,hx=>by
  rw[GF,Kv];by_cases h:v<=m
  ·have wF:x.xL.length<=140737488355328:=hx x amT;rw[anv h,cond_true];dsimp only;rw[zo (by omega)];obtain⟨u,f1,f2,f3,f4⟩:=SX N m hm c lo Q hc l (k+1) (v+x.xL.length) (by omega) (by omega) λy hy=>hx y (amW _ hy);refine⟨u,f1,by omega,f3,λhu=>⟨(f4 hu).1,λy hy=> ?_⟩⟩;rcases ani.1 hy with rfl|hy
   ·omega
   ·exact(f4 hu).2 y hy
  ·rw[anw h,cond_false];obtain⟨u,h1,h2,h3,h4⟩:=hc v hv jP;exact⟨u,h1,h2,h3,λhu=>absurd (am5 h2 hu) h⟩
theorem XH(N:Nat)(m:Nat)(hm:m<=100000)(rec:an->Int->anF Int)(sN:an->Prop)(hr:∀(x:an)(q:Nat),q<=m->sN x->Wt q 1 (mD q x) (rec x (q:Int)))(e:an)(ha:∀x∈e.aw,sN x):∀(l:anD aN)(k v:Nat),v<=m+500000000000000->(∀x∈l,zd AQ x)->
 Wt m v ((e.aw.length<=m/\∀x∈e.aw,mD m x)/\∀x∈l,zd m x) (Ad N (m:Int) rec e l k (v:Int))
 |[],k,v,hv,_=>by
  rw[Ad];obtain⟨u,h1,h2,h3,h4⟩:=(NV N m hm rec sN hr e.aw 0 v hv ha).1;exact⟨u,h1,h2,h3,λh=>⟨⟨by have:=(h4 h).1;omega,(h4 h).2⟩,λ_ h=>by cases h⟩⟩
 |x::l,k,v,hv,hx=>by
  rw[Ad,Kv];by_cases h:v<=m
  ·have wF:=hx x amT;have h1:x.aM.xL.length<=140737488355328:=wF.ic;have h2:x.aZ.length<=140737488355328:=wF.at_;rw[anv h,cond_true,zo (by omega),zo (by omega)];obtain⟨u,f1,f2,f3,f4⟩:=SX N m hm (λdV=>Ad N (m:Int) rec e l (k+1) dV) 0 _ (λv hv _=>XH N m hm rec sN hr e ha l (k+1) v hv λy hy=>hx y (amW _ hy)) x.aZ 0 (v+x.aM.xL.length+x.aZ.length) (by omega) (Nat.zero_le _) wF.vw;refine⟨u,f1,by omega,f3,λhu=> ?_⟩;obtain⟨⟨g1,g2⟩,g3⟩:=f4 hu;refine⟨g1,λy hy=> ?_⟩;rcases ani.1 hy with rfl|hy
   ·exact⟨by omega,by omega,g3⟩
   ·exact g2 y hy
  ·rw[anw h,cond_false];obtain⟨⟨u,h1,h2,h3,h4⟩,h5⟩:=NV N m hm rec sN hr e.aw 0 v hv ha;rw[h5];exact⟨u,h1,h2,h3,λhu=>absurd (am5 h2 hu) h⟩
theorem TJ(N:Nat):∀(d:Nat)(e:an)(m:Nat),m<=100000->SizeOf.sizeOf e<d->mD AQ e->Wt m 1 (mD m e) (rJ N d e (m:Int))
 |0,_,_,_,h,_=>absurd h (ang _)
 |d+1,e,m,hm,h,hl=>by
  have he:=hl e amT;have h1:e.aM.xL.length<=140737488355328:=he.ic;have h2:e.xIdx.length<=140737488355328:=he.idx;rw[rJ,show(1:Int)=((1:Nat):Int)from rfl,zo (by omega),zo (by omega)];obtain⟨u,f1,f2,f3,f4⟩:=XH N m hm (rJ N d) (λx=>SizeOf.sizeOf x<d/\mD AQ x) (λx q hq hx=>TJ N d x q (by omega) hx.1 hx.2) e (λx hx=>⟨by have:=fW hx;omega,hl.arg hx⟩) e.xIdx 0 (1+e.aM.xL.length+e.xIdx.length) (by omega) he.each;refine⟨u,f1,by omega,f3,λhu=> ?_⟩;obtain⟨⟨g1,g2⟩,g3⟩:=f4 hu;intro y hy;rcases ani.1 hy with rfl|hy
  ·exact⟨by omega,by omega,g3,g1⟩
  ·obtain⟨x,hx,hy⟩:=zi hy;exact g2 x hx y hy
def Bt(Q:Prop)(r:anF Bool):Prop:=∃b,r=some b/\(b=false->Q)
structure Qg(x:aN):Prop where
 ic:tk 1000000 x.aM
 at_:x.aZ.length<=1000000
 vw:∀l∈x.aZ,tk 1000000 l
structure bdN(e:an):Prop where
 ic:tk 1000000 e.aM
 idx:e.xIdx.length<=1000000
 each:∀x∈e.xIdx,Qg x
 args:e.aw.length<=1000000
def uh(e:an):Prop:=∀y∈dq e,bdN y
theorem uh.arg{e x:an}(h:uh e)(hx:x∈e.aw):uh x:=λy hy=>h y (mc hx hy)
theorem uh.ok{e:an}(h:uh e):SQ e:=λy hy=>
 ⟨am5 (h y hy).ic (by decide),λx hx=>⟨am5 ((h y hy).each x hx).ic (by decide),λl hl=>am5 (((h y hy).each x hx).vw l hl) (by decide)⟩,am5 (h y hy).args (by decide)⟩
theorem O4(N:Nat)(l:aP)(h:tk 1000000 l):yM N l=some (l,0):=by
 unfold yM NA;rw[xo (by have:=h;unfold tk at this;omega)];rfl
theorem EF{α:Type}:∀(L:anD α)(k:Nat)(x:α),L[k]?=some x->L.set k x=L
 |[],_,_,_=>rfl
 |y::L,0,x,h=>by cases h;rfl
 |y::L,k+1,x,h=>by rw[List.set_cons_succ,EF L k x (by rw[anp]at h;exact h)]
theorem ui(n:Nat):Nat.beq n n=true:=Nat.beq_refl n
theorem Zx(N:Nat)(e:an)(rec:an->anF (an×Int))(v8:anD aN)(v2:aP×Int):∀(l:anD an)(k:Nat),e.aw.drop k=l->(∀x∈l,rec x=some (x,0))->v8.length=e.xIdx.length->
 uz N v8 e.xIdx e.aw e v2 rec l k e.aw=some (⟨e.aq,e.aO,e.bg,e.aD,v2.1,v8,e.aw⟩,0)
 |[],k,_,_,h8=>by rw[uz,h8,ui,ui];rfl
 |x::l,k,hd,hx,h8=>by
  rw[uz,hx x amT,amM,ui,show decide ((k:Int)<(e.aw.length:Int))=true from anv (by have:=lM hd;omega),cO hd];simp only[cond_true,amM,bne_self_eq_false,cond_false];rw[EF _ _ _ (cO hd)];exact Zx N e rec v8 v2 l (k+1) (nC hd) (λy hy=>hx y (amW _ hy)) h8
theorem XQ(N:Nat)(c:anD aN->anF (an×Int))(v8:anD aN)(k4:Nat)(x:aN)(hx:v8[k4]?=some x):∀(l:anD aP)(k:Nat),x.aZ.drop k=l->(∀y∈l,tk 1000000 y)->
 tZ N x.aZ c v8 k4 (x.aM,0) x l k x.aZ=c v8
 |[],k,_,_=>by
  rw[tZ,ui,cond_true];dsimp only;rw[EF v8 k4 x hx,EF v8 k4 x hx]
 |y::l,k,hd,hy=>by
  rw[tZ,O4 N y (hy y amT),amM,ui,show decide ((k:Int)<(x.aZ.length:Int))=true from anv (by have:=lM hd;omega),cO hd];simp only[cond_true,amM,bne_self_eq_false,cond_false];rw[EF _ _ _ (cO hd)];exact XQ N c v8 k4 x hx l (k+1) (nC hd) λz hz=>hy z (amW _ hz)
theorem Zv(N:Nat)(e:an)(rec:an->anF (an×Int))(v2:aP×Int)(ha:e.aw.length<=1000000)(hr:∀x∈e.aw,rec x=some (x,0)):∀(l:anD aN)(k:Nat),e.xIdx.drop k=l->(∀y∈l,Qg y)->
 rO N e e.xIdx v2 rec l k e.xIdx=some (⟨e.aq,e.aO,e.bg,e.aD,v2.1,e.xIdx,e.aw⟩,0)
 |[],k,_,_=>by
  rw[rO];unfold LC;rw[xo (by omega),cond_true,amM];exact Zx N e rec e.xIdx v2 e.aw 0 rfl hr rfl
 |x::l,k,hd,hy=>by
  have h1:=hy x amT;have hl:=h1.at_;rw[rO,O4 N x.aM h1.ic,amM,ui,show decide ((k:Int)<(e.xIdx.length:Int))=true from anv (by have:=lM hd;omega),cO hd];unfold PN;simp only[cond_true,amM,bne_self_eq_false,cond_false];rw[xo (by omega),cond_true,amM,List.length_set,ui,cond_true];rw[XQ N _ e.xIdx k x (cO hd) x.aZ 0 rfl h1.vw];exact Zv N e rec v2 ha hr l (k+1) (nC hd) λz hz=>hy z (amW _ hz)
theorem TQ(N:Nat):∀(d:Nat)(e:an),SizeOf.sizeOf e<d->uh e->qQ N d e=some (e,0)
 |0,_,h,_=>absurd h (ang _)
 |d+1,e,h,hb=>by
  have h1:=hb e amT;have hl:=h1.idx;rw[qQ,O4 N e.aM h1.ic,amM];unfold QS;rw[xo (by omega)];refine Eq.trans (Zv N e _ (e.aM,0) h1.args (λx hx=>TQ N d x (by have:=fW hx;omega) (hb.arg hx)) e.xIdx 0 rfl h1.each) ?_;cases e;rfl
theorem PU(N:Nat)(e:an)(h:SizeOf.sizeOf e<N)(hb:uh e):vM N e=some e:=by
 unfold vM KS;rw[TQ N N e h hb];rfl
section
variable {N:Nat} {p:Qs}
end
def fK{α:Type}(t:α->α->Bool):anD α->anD α->Bool
 |[],[]=>true
 |x::a,y::b=>t x y&&fK t a b
 |_,_=>false
theorem G6{α:Type}(t:α->α->Bool):∀a b:anD α,(a.length==b.length)=false->fK t a b=false
 |[],[],h=>by cases h
 |[],y::b,_=>rfl
 |x::a,[],_=>rfl
 |x::a,y::b,h=>by
  rw[fK,G6 t a b (by simpa using h),Bool.and_false]
def ss(x y:bf):Bool:=(bL x.aO==bL y.aO)&&((x.cA.toInt==y.cA.toInt)&&true)
def mA(a b:aP):Bool:=(a.xK.toInt==b.xK.toInt)&&fK ss a.xL b.xL
def gx(a b:aF):Bool:=(a.aL==b.aL)&&((a.bY==b.bY)&&((a.bM==b.bM)&&((a.b5==b.b5)&&((a.bK==b.bK)&&true))))
def tX(a b:aB):Bool:=(a.xN.toInt==b.xN.toInt)&&((a.xD.toInt==b.xD.toInt)&&true)
def oz(a b:aN):Bool:=(bL a.bI==bL b.bI)&&(mA a.aM b.aM&&fK mA a.aZ b.aZ)
def ql:Nat->an->an->Bool
 |0,_,_=>false
 |d+1,a,b=>(a.aq==b.aq)&&((bL a.aO==bL b.aO)&&(tX a.bg b.bg&&(gx a.aD b.aD&&(mA a.aM b.aM&&(fK oz a.xIdx b.xIdx&&fK (ql d) a.aw b.aw)))))
theorem lq{α:Type}{L:anD α}{k:Nat}(h:L.drop k=[]):L.length<=k:=by
 by_cases hk:L.length<=k
 ·exact hk
 ·have:=congrArg List.length h;simp at this;omega
theorem SP:∀l r:anD UInt8,(Lib.compareBytes l r==0)=(l==r)
 |[],[]=>rfl
 |[],_::_=>rfl
 |_::_,[]=>rfl
 |a::l,b::r=>by
  rw[Lib.compareBytes,List.cons_beq_cons];by_cases h:a<b
  ·rw[if_pos h,show(a==b)=false from beq_eq_false_iff_ne.2 λe=>by rw[e]at h;exact absurd h (UInt8.lt_irrefl b)];rfl
  ·rw[if_neg h];by_cases h2:b<a
   ·rw[if_pos h2,show(a==b)=false from beq_eq_false_iff_ne.2 λe=>by rw[e]at h2;exact absurd h2 (UInt8.lt_irrefl b)];rfl
   ·rw[if_neg h2,SP l r,show a=b from UInt8.le_antisymm (UInt8.not_lt.1 h2) (UInt8.not_lt.1 h),anx,Bool.true_and]
def Cz(t:Bool)(r:anF Int):Prop:=∃c,r=some c/\(c==0)=t
theorem Mo(N:Nat)(a b:anE):Cz (bL a==bL b) (Ct N a b):=⟨_,rfl,SP _ _⟩
theorem sy(N:Nat)(a b:Int):Cz (a==b) (nY N a b):=by
 unfold nY H8;rw[bne_self_eq_false,bne_self_eq_false];simp only[amM,cond_false];by_cases h:a<b
 ·rw[anv h];exact⟨-1,rfl,(beq_eq_false_iff_ne.2 (by omega)).symm⟩
 ·rw[anw h];by_cases h2:a>b
  ·rw[anv h2];exact⟨1,rfl,(beq_eq_false_iff_ne.2 (by omega)).symm⟩
  ·rw[anw h2];exact⟨0,rfl,(beq_iff_eq.2 (by omega)).symm⟩
theorem Y4(N:Nat)(a b:Int64):Cz (a.toInt==b.toInt) (BI N a b):=by
 unfold BI GJ;rw[bne_self_eq_false,bne_self_eq_false];simp only[amM,cond_false];by_cases h:a.toInt<b.toInt
 ·rw[anv h];exact⟨-1,rfl,(beq_eq_false_iff_ne.2 (by omega)).symm⟩
 ·rw[anw h];by_cases h2:a.toInt>b.toInt
  ·rw[anv h2];exact⟨1,rfl,(beq_eq_false_iff_ne.2 (by omega)).symm⟩
  ·rw[anw h2];exact⟨0,rfl,(beq_iff_eq.2 (by omega)).symm⟩
theorem X6(N:Nat)(a b:Int64):Cz (a.toInt==b.toInt) (Bl N a b):=by
 unfold Bl;by_cases h:a.toInt<b.toInt
 ·rw[anv h];exact⟨-1,rfl,(beq_eq_false_iff_ne.2 (by omega)).symm⟩
 ·rw[anw h];by_cases h2:a.toInt>b.toInt
  ·rw[anv h2];exact⟨1,rfl,(beq_eq_false_iff_ne.2 (by omega)).symm⟩
  ·rw[anw h2];exact⟨0,rfl,(beq_iff_eq.2 (by omega)).symm⟩
theorem Rz(N:Nat):∀(l:anD Int)(k:Nat),Cz (l.all (·==0)) (Hb N l k)
 |[],_=>⟨0,rfl,rfl⟩
 |x::l,k=>by
  rw[Hb,anz];cases h:x==0 with
  |false=>rw[show(x !=0)=true by unfold bne;rw[h];rfl];exact⟨x,rfl,h⟩
  |true=>rw[show(x !=0)=false by unfold bne;rw[h];rfl];exact Rz N l (k+1)
theorem n3{c:Int}{t:Bool}(h:(c==0)=t):(c !=0)= !t:=by unfold bne;rw[h]
theorem aer(N:Nat)(a b:bf):Cz (ss a b) (Iw N a b):=by
 unfold Iw ss;cases h:bL a.aO==bL b.aO with
 |true=>
  obtain⟨c,e1,e2⟩:=X6 N a.cA b.cA;rw[e1];exact⟨c,rfl,by rw[e2];cases a.cA.toInt==b.cA.toInt<;>rfl⟩
 |false=>
  obtain⟨c,e1,e2⟩:=Mo N a.aO b.aO;rw[e1];exact⟨c,rfl,by rw[e2,h];rfl⟩
theorem Wm(N:Nat)(A B:anD bf):∀(l r:anD bf)(k:Nat),k<=A.length->A.drop k=l->B.drop k=r->Cz (fK ss l r) (yb N A B l k)
 |[],[],k,hk,ha,hb=>by
  have h1:=lq ha;have h2:=lq hb;rw[yb,anw (show ¬(A.length:Int)<(B.length:Int) by omega)];exact⟨0,rfl,rfl⟩
 |[],y::r,k,hk,ha,hb=>by
  have h1:=lq ha;have h2:=lM hb;rw[yb,anv (show(A.length:Int)<(B.length:Int) by omega)];exact⟨-1,rfl,rfl⟩
 |x::l,[],k,hk,ha,hb=>by
  have h2:=lq hb;rw[yb,anv (show(k:Int)>=(B.length:Int) by omega)];exact⟨1,rfl,rfl⟩
 |x::l,y::r,k,hk,ha,hb=>by
  have h2:=lM hb;have h3:=lM ha;obtain⟨c,e1,e2⟩:=aer N x y;rw[yb,anw (show ¬(k:Int)>=(B.length:Int) by omega),cond_false,anf,cO hb,amM,e1,amM,n3 e2,fK];cases h:ss x y with
  |false=>rw[h]at e2;exact⟨c,rfl,e2⟩
  |true=>exact Wm N A B l r (k+1) (by omega) (nC ha) (nC hb)
theorem PR(N:Nat)(a b:aP):Cz (mA a b) (zP N a b):=by
 unfold zP Q8 mA;obtain⟨c,e1,e2⟩:=Wm N a.xL b.xL a.xL b.xL 0 (Nat.zero_le _) rfl rfl;rw[e1,amM,n3 e2];cases h:fK ss a.xL b.xL with
 |false=>rw[h]at e2;exact⟨c,rfl,by rw[e2,Bool.and_false]⟩
 |true=>
  obtain⟨c',f1,f2⟩:=X6 N a.xK b.xK;rw[f1];exact⟨c',rfl,by rw[f2,Bool.and_true]⟩
theorem XW(N:Nat)(A B:anD aP):∀(l r:anD aP)(k:Nat),k<=A.length->A.drop k=l->B.drop k=r->Cz (fK mA l r) (wJ N A B l k)
 |[],[],k,hk,ha,hb=>by
  have h1:=lq ha;have h2:=lq hb;rw[wJ,anw (show ¬(A.length:Int)<(B.length:Int) by omega)];exact⟨0,rfl,rfl⟩
 |[],y::r,k,hk,ha,hb=>by
  have h1:=lq ha;have h2:=lM hb;rw[wJ,anv (show(A.length:Int)<(B.length:Int) by omega)];exact⟨-1,rfl,rfl⟩
 |x::l,[],k,hk,ha,hb=>by
  have h2:=lq hb;rw[wJ,anv (show(k:Int)>=(B.length:Int) by omega)];exact⟨1,rfl,rfl⟩
 |x::l,y::r,k,hk,ha,hb=>by
  have h2:=lM hb;have h3:=lM ha;obtain⟨c,e1,e2⟩:=PR N x y;rw[wJ,anw (show ¬(k:Int)>=(B.length:Int) by omega),cond_false,anf,cO hb,amM,e1,amM,n3 e2,fK];cases h:mA x y with
  |false=>rw[h]at e2;exact⟨c,rfl,e2⟩
  |true=>exact XW N A B l r (k+1) (by omega) (nC ha) (nC hb)
theorem aju(N:Nat)(a b:anD aP):Cz (fK mA a b) (Iy N a b):=by
 unfold Iy O5;obtain⟨c,e1,e2⟩:=sy N (a.length:Int) (b.length:Int);rw[pI]at e2;rw[e1,amM,n3 e2];cases h:a.length==b.length with
 |false=>rw[h]at e2;exact⟨c,rfl,by rw[e2,G6 _ _ _ h]⟩
 |true=>
  obtain⟨c',f1,f2⟩:=XW N a b a b 0 (Nat.zero_le _) rfl rfl;rw[f1];exact⟨c',rfl,f2⟩
theorem aaL(N:Nat)(a b:aN):Cz (oz a b) (Hd N a b):=by
 unfold Hd oz;obtain⟨c,e1,e2⟩:=Mo N a.bI b.bI;obtain⟨c',f1,f2⟩:=PR N a.aM b.aM;obtain⟨c2,k1,k2⟩:=aju N a.aZ b.aZ;rw[e1,f1,k1,amM,amM,amM,n3 e2,n3 f2];cases h:bL a.bI==bL b.bI with
 |false=>rw[h]at e2;exact⟨c,rfl,e2⟩
 |true=>
  cases h2:mA a.aM b.aM with
  |false=>rw[h2]at f2;exact⟨c',rfl,f2⟩
  |true=>exact⟨c2,rfl,k2⟩
theorem Yr(N:Nat)(A B:anD aN):∀(l r:anD aN)(k:Nat),k<=A.length->A.drop k=l->B.drop k=r->Cz (fK oz l r) (xF N A B l k)
 |[],[],k,hk,ha,hb=>by
  have h1:=lq ha;have h2:=lq hb;rw[xF,anw (show ¬(A.length:Int)<(B.length:Int) by omega)];exact⟨0,rfl,rfl⟩
 |[],y::r,k,hk,ha,hb=>by
  have h1:=lq ha;have h2:=lM hb;rw[xF,anv (show(A.length:Int)<(B.length:Int) by omega)];exact⟨-1,rfl,rfl⟩
 |x::l,[],k,hk,ha,hb=>by
  have h2:=lq hb;rw[xF,anv (show(k:Int)>=(B.length:Int) by omega)];exact⟨1,rfl,rfl⟩
 |x::l,y::r,k,hk,ha,hb=>by
  have h2:=lM hb;have h3:=lM ha;obtain⟨c,e1,e2⟩:=aaL N x y;rw[xF,anw (show ¬(k:Int)>=(B.length:Int) by omega),cond_false,anf,cO hb,amM,e1,amM,n3 e2,fK];cases h:oz x y with
  |false=>rw[h]at e2;exact⟨c,rfl,e2⟩
  |true=>exact Yr N A B l r (k+1) (by omega) (nC ha) (nC hb)
theorem akx(N:Nat)(a b:anD aN):Cz (fK oz a b) (Jj N a b):=by
 unfold Jj QN;obtain⟨c,e1,e2⟩:=sy N (a.length:Int) (b.length:Int);rw[pI]at e2;rw[e1,amM,n3 e2];cases h:a.length==b.length with
 |false=>rw[h]at e2;exact⟨c,rfl,by rw[e2,G6 _ _ _ h]⟩
 |true=>
  obtain⟨c',f1,f2⟩:=Yr N a b a b 0 (Nat.zero_le _) rfl rfl;rw[f1];exact⟨c',rfl,f2⟩
theorem akP(N:Nat)(a b:aF):Cz (gx a b) (Hj N a b):=by
 unfold Hj EH gx;obtain⟨c1,e1,f1⟩:=sy N a.aL b.aL;obtain⟨c2,e2,f2⟩:=sy N a.bY b.bY;obtain⟨c3,e3,f3⟩:=sy N a.bM b.bM;obtain⟨c4,e4,f4⟩:=sy N a.b5 b.b5;obtain⟨c5,e5,f5⟩:=sy N a.bK b.bK;obtain⟨c,e,f⟩:=Rz N [c1,c2,c3,c4,c5] 0;rw[e1,e2,e3,e4,e5];simp only[amM];rw[e];refine⟨c,rfl,?_⟩;rw[f];simp only[anz,List.all_nil,f1,f2,f3,f4,f5]
theorem VS(N:Nat)(A B:anD an)(rec:an->an->anF Int)(t:an->an->Bool)(hr:∀x∈A,∀y,Cz (t x y) (rec x y)):∀(l r:anD an)(k:Nat),k<=A.length->A.drop k=l->B.drop k=r->Cz (fK t l r) (wY N A B rec l k)
 |[],[],k,hk,ha,hb=>by
  have h1:=lq ha;have h2:=lq hb;rw[wY,anw (show ¬(A.length:Int)<(B.length:Int) by omega)];exact⟨0,rfl,rfl⟩
 |[],y::r,k,hk,ha,hb=>by
  have h1:=lq ha;have h2:=lM hb;rw[wY,anv (show(A.length:Int)<(B.length:Int) by omega)];exact⟨-1,rfl,rfl⟩
 |x::l,[],k,hk,ha,hb=>by
  have h2:=lq hb;rw[wY,anv (show(k:Int)>=(B.length:Int) by omega)];exact⟨1,rfl,rfl⟩
 |x::l,y::r,k,hk,ha,hb=>by
  have h2:=lM hb;have h3:=lM ha;obtain⟨c,e1,e2⟩:=hr x (acT (cO ha)) y;rw[wY,anw (show ¬(k:Int)>=(B.length:Int) by omega),cond_false,anf,cO hb,amM,e1,amM,n3 e2,fK];cases h:t x y with
  |false=>rw[h]at e2;exact⟨c,rfl,e2⟩
  |true=>exact VS N A B rec t hr l r (k+1) (by omega) (nC ha) (nC hb)
theorem TA(N:Nat):∀(d:Nat)(a b:an)(D:Nat),SizeOf.sizeOf a<d->3*d<=D->Cz (ql d a b) (uK N D a b)
 |0,_,_,_,h,_=>absurd h (ang _)
 |d+1,a,b,D,h,hD=>by
  obtain⟨D,rfl⟩:∃k,D=k+3:=⟨D-3,by omega⟩;rw[uK,EU,BY,ql];obtain⟨c1,e1,f1⟩:=sy N a.aq b.aq;obtain⟨c2,e2,f2⟩:=Mo N a.aO b.aO;obtain⟨c3,e3,f3⟩:=Y4 N a.bg.xN b.bg.xN;obtain⟨c4,e4,f4⟩:=Y4 N a.bg.xD b.bg.xD;obtain⟨c5,e5,f5⟩:=akP N a.aD b.aD;obtain⟨c6,e6,f6⟩:=PR N a.aM b.aM;obtain⟨c,e,f⟩:=Rz N [c1,c2,c3,c4,c5,c6] 0;obtain⟨c7,e7,f7⟩:=akx N a.xIdx b.xIdx;obtain⟨c8,e8,f8⟩:=sy N (a.aw.length:Int) (b.aw.length:Int);obtain⟨c9,e9,f9⟩:=VS N a.aw b.aw (uK N D) (ql d) (λx hx y=>TA N d x y D (by have:=fW hx;omega) (by omega)) a.aw b.aw 0 (Nat.zero_le _) rfl rfl;rw[pI]at f8;unfold EH;rw[e1,e2,e3,e4,e5,e6];simp only[amM];rw[e,e7,e8,e9];simp only[amM];simp only[anz,List.all_nil,f1,f2,f3,f4,f5,f6]at f;rw[n3 f,n3 f7,n3 f8];unfold tX;generalize (a.aq==b.aq)=t1 at*;generalize (bL a.aO==bL b.aO)=t2 at*;generalize (a.bg.xN.toInt==b.bg.xN.toInt)=t3 at*;generalize (a.bg.xD.toInt==b.bg.xD.toInt)=t4 at*;generalize gx a.aD b.aD=t5 at*;generalize mA a.aM b.aM=t6 at*;cases hh:t1&&(t2&&(t3&&(t4&&(t5&&(t6&&true)))))with
  |false=>
   rw[hh]at f;refine⟨c,rfl,?_⟩;rw[f];revert hh;cases t1<;>cases t2<;>cases t3<;>cases t4<;>cases t5<;>cases t6<;>first|(intro _;rfl)|(intro h;cases h)
  |true=>
   have ht:t1=true/\t2=true/\t3=true/\t4=true/\t5=true/\t6=true:=by
    revert hh;cases t1<;>cases t2<;>cases t3<;>cases t4<;>cases t5<;>cases t6<;>first|(intro _;exact⟨rfl,rfl,rfl,rfl,rfl,rfl⟩)|(intro h;cases h)
   obtain⟨rfl,rfl,rfl,rfl,rfl,rfl⟩:=ht;cases h7:fK oz a.xIdx b.xIdx with
   |false=>rw[h7]at f7;exact⟨c7,rfl,f7⟩
   |true=>
    cases h8:a.aw.length==b.aw.length with
    |false=>rw[h8]at f8;exact⟨c8,rfl,by rw[f8,G6 _ _ _ h8];rfl⟩
    |true=>exact⟨c9,rfl,by rw[f9];rfl⟩
theorem C7{α:Type}{t:α->α->Bool}:∀{a b:anD α},(∀x∈a,∀y,t x y=true->x=y)->fK t a b=true->a=b
 |[],[],_,_=>rfl
 |[],_::_,_,h=>by cases h
 |_::_,[],_,h=>by cases h
 |x::a,y::b,ht,h=>by
  have h':(t x y&&fK t a b)=true:=h;rw[amP]at h';rw[ht x amT y h'.1,C7 (λz hz=>ht z (amW _ hz)) h'.2]
theorem Bu{α:Type}{t:α->α->Bool}:∀{a:anD α},(∀x∈a,t x x=true)->fK t a a=true
 |[],_=>rfl
 |x::a,ht=>by
  show(t x x&&fK t a a)=true;rw[ht x amT,Bu λy hy=>ht y (amW _ hy)];rfl
theorem O1{a b:anE}(h:(bL a==bL b)=true):a=b:=Zs (by simpa using h)
theorem SM{a b:Int64}(h:(a.toInt==b.toInt)=true):a=b:=Int64.toInt_inj.1 (by simpa using h)
theorem akn{a b:bf}(h:ss a b=true):a=b:=by
 unfold ss at h;simp only[amP]at h;cases a;cases b
 congr 1
 ·exact O1 h.1
 ·exact SM h.2.1
theorem M6{a b:aP}(h:mA a b=true):a=b:=by
 unfold mA at h;simp only[amP]at h;cases a;cases b
 congr 1
 ·exact SM h.1
 ·exact C7 (λx _ y=>akn) h.2
theorem Qq(a:aP):mA a a=true:=by
 unfold mA;rw[Bu λx _=>by unfold ss;simp];simp
theorem aaG{a b:aN}(h:oz a b=true):a=b:=by
 unfold oz at h;simp only[amP]at h;cases a;cases b
 congr 1
 ·exact M6 h.2.1
 ·exact O1 h.1
 ·exact C7 (λx _ y=>M6) h.2.2
theorem air(a:aN):oz a a=true:=by
 unfold oz;rw[Bu λx _=>Qq x,Qq];simp
theorem By{a b:aF}:gx a b=true↔a=b:=by
 unfold gx;simp only[amP,beq_iff_eq,and_true];constructor
 ·rintro⟨h1,h2,h3,h4,h5⟩;cases a;cases b;simp only at*;subst h1;subst h2;subst h3;subst h4;subst h5;rfl
 ·rintro rfl;exact⟨rfl,rfl,rfl,rfl,rfl⟩
theorem I0{a b:aB}:tX a b=true↔a=b:=by
 unfold tX;simp only[amP,beq_iff_eq,and_true];constructor
 ·rintro⟨h1,h2⟩;exact yY h1 h2
 ·rintro rfl;exact⟨rfl,rfl⟩
theorem RL:∀{d:Nat}{a b:an},ql d a b=true->a=b
 |0,a,b,h=>by cases h
 |d+1,a,b,h=>by
  rw[ql]at h;simp only[amP]at h;cases a;cases b
  simp only at h;obtain⟨h1,h2,h3,h4,h5,h6,h7⟩:=h
  congr 1
  ·simpa using h1
  ·exact O1 h2
  ·exact I0.1 h3
  ·exact By.1 h4
  ·exact M6 h5
  ·exact C7 (λx _ y=>aaG) h6
  ·exact C7 (λx _ y=>RL) h7
theorem YN:∀{d:Nat}{a:an},SizeOf.sizeOf a<d->ql d a a=true
 |0,a,h=>absurd h (ang _)
 |d+1,a,h=>by
  rw[ql];have h1:=Bu (t:=ql d) (a:=a.aw) λx hx=>YN (by have:=fW hx;omega);have h2:=Bu (t:=oz) (a:=a.xIdx) λx _=>air x;have h3:=By.2 (rfl:a.aD=a.aD);have h4:=I0.2 (rfl:a.bg=a.bg);have h5:=Qq a.aM;simp [h1,h2,h3,h4,h5]
noncomputable def m4(a b:an):Bool:=ql (SizeOf.sizeOf a+1) a b
theorem Cg{a b:an}:m4 a b=true↔a=b:=by
 unfold m4;refine⟨RL,?_⟩;rintro rfl;exact YN (anB _)
def cu(op:Int)(l:anD an):an:=⟨op,bs [],bZ,dZ,dI,[],l⟩
def fB(t:aF)(v:aB):an:=⟨1,bs [],v,t,dI,[],[]⟩
def ixE(l:aP):an:=⟨2,bs [],bZ,dZ,l,[],[]⟩
def DM:aF:=⟨3,0,0,0,0⟩
def oT(op:Int):Bool:=op==4||(op==5||(op==6||(op==7||(op==9||op==10))))
abbrev Kn:=gv
def mE:Kn:=⟨dZ,false⟩
def kr:Nat->an->Kn
 |0,_=>mE
 |d+1,e=>bif e.aq==1||e.aq==12 then⟨e.aD,true⟩else bif e.aq==2 then⟨DM,true⟩
  else match e.aw with
  |[a]=>bif e.aq==8 then kr d a else mE
  |[a,b]=>bif oT e.aq then(bif (kr d a).cW then kr d a else kr d b)else mE
  |[_,a,b]=>bif e.aq==11&&((kr d a).cW&&((kr d b).cW&&gx (kr d a).yT (kr d b).yT))then kr d a else mE
  |_=>mE
noncomputable def da(e:an):Kn:=kr (SizeOf.sizeOf e) e
theorem Qc:∀(d d':Nat)(e:an),SizeOf.sizeOf e<=d->SizeOf.sizeOf e<=d'->kr d e=kr d' e
 |0,_,e,h,_=>by cases e;simp at h
 |_,0,e,_,h=>by cases e;simp at h
 |d+1,d'+1,e,h,h'=>by
  have ih:∀x∈e.aw,kr d x=kr d' x:=λx hx=>Qc d d' x (by have:=fW hx;omega) (by have:=fW hx;omega);rw[kr,kr];revert ih
  match e.aw with
  |[]=>intro _;rfl
  |[a]=>intro ih;simp only[ih a (by simp)]
  |[a,b]=>intro ih;simp only[ih a (by simp),ih b (by simp)]
  |[c,a,b]=>intro ih;simp only[ih a (by simp),ih b (by simp)]
  |_::_::_::_::_=>intro _;rfl
theorem Ov(e:an):da e=bif e.aq==1||e.aq==12 then⟨e.aD,true⟩else bif e.aq==2 then⟨DM,true⟩
 else match e.aw with
 |[a]=>bif e.aq==8 then da a else mE
 |[a,b]=>bif oT e.aq then(bif (da a).cW then da a else da b)else mE
 |[_,a,b]=>bif e.aq==11&&((da a).cW&&((da b).cW&&gx (da a).yT (da b).yT))then da a else mE
 |_=>mE:=by
 have ih:∀x∈e.aw,kr (SizeOf.sizeOf e) x=da x:=λx hx=>Qc _ _ x (by have:=fW hx;omega) (amY _);unfold da;rw[Qc _ (SizeOf.sizeOf e+1) e (amY _) (Nat.le_succ _),kr];revert ih;unfold da
 match e.aw with
 |[]=>intro _;rfl
 |[a]=>intro ih;simp only[ih a (by simp)]
 |[a,b]=>intro ih;simp only[ih a (by simp),ih b (by simp)]
 |[c,a,b]=>intro ih;simp only[ih a (by simp),ih b (by simp)]
 |_::_::_::_::_=>intro _;rfl
noncomputable def u7(a b:an):Kn:=bif (da a).cW then da a else da b
noncomputable def jF(e:an)(k:Kn)(i:Nat):Kn:=
 bif oT e.aq||(e.aq==8||(e.aq==11&& !(i==0)))then k
 else bif e.aq==12 then(match e.aw with|[a]=>da a|_=>mE)
 else bif e.aq==13||(e.aq==14||e.aq==15)then(match e.aw with|[a,b]=>u7 a b|_=>mE)else mE
def gX(e:an):anF aP:=bif e.aq==2 then some e.aM else bif e.aq==1&&e.aD.aL==3 then some ⟨e.bg.xN,[]⟩else none
def kR(f g:aP):X aP:=match kV g (-1)with| .error e=> .error e| .ok h=>n4 f h
def BF(a b:an):anF Int64:=match gX a,gX b with
 |some f,some g=>(match kR f g with| .ok d=>bif d.xL.length==0 then some d.xK else none| .error _=>none)
 |_,_=>none
def EO(op sign:Int):Bool:=bif op==13 then decide (sign<0)else bif op==14 then decide (sign<=0)else sign==0
noncomputable def qa(op:Int)(a b:an):Bool×Bool:=
 bif a.aq==1&&(b.aq==1&&gx a.aD b.aD)then(EO op (fD a.aD a.bg b.bg),true)
 else match BF a b with
 |some k=>(EO op (mF k.toInt 0),true)
 |none=>bif m4 a b then(!(op==13),true)else(false,false)
noncomputable def jz:Nat->an->Bool×Bool
 |0,_=>(false,false)
 |d+1,e=>match e.aw with
  |[a]=>bif e.aq==18 then((jz d a).2&& !(jz d a).1,(jz d a).2)else(false,false)
  |[a,b]=>bif e.aq==13||(e.aq==14||e.aq==15)then qa e.aq a b
   else bif e.aq==16||e.aq==17 then
    (bif ((jz d a).2&&(jz d a).1==(e.aq==17))||((jz d b).2&&(jz d b).1==(e.aq==17))then(e.aq==17,true)
    else(!(e.aq==17)&&((jz d a).2&&(jz d b).2),(jz d a).2&&(jz d b).2))
   else(false,false)
  |_=>(false,false)
noncomputable def fa(e:an):Bool×Bool:=jz (SizeOf.sizeOf e) e
theorem QO:∀(d d':Nat)(e:an),SizeOf.sizeOf e<=d->SizeOf.sizeOf e<=d'->jz d e=jz d' e
 |0,_,e,h,_=>by cases e;simp at h
 |_,0,e,_,h=>by cases e;simp at h
 |d+1,d'+1,e,h,h'=>by
  have ih:∀x∈e.aw,jz d x=jz d' x:=λx hx=>QO d d' x (by have:=fW hx;omega) (by have:=fW hx;omega);rw[jz,jz];revert ih
  match e.aw with
  |[]=>intro _;rfl
  |[a]=>intro ih;simp only[ih a (by simp)]
  |[a,b]=>intro ih;simp only[ih a (by simp),ih b (by simp)]
  |_::_::_::_=>intro _;rfl
theorem SA(e:an):fa e=match e.aw with
 |[a]=>bif e.aq==18 then((fa a).2&& !(fa a).1,(fa a).2)else(false,false)
 |[a,b]=>bif e.aq==13||(e.aq==14||e.aq==15)then qa e.aq a b
  else bif e.aq==16||e.aq==17 then
   (bif ((fa a).2&&(fa a).1==(e.aq==17))||((fa b).2&&(fa b).1==(e.aq==17))then(e.aq==17,true)
   else(!(e.aq==17)&&((fa a).2&&(fa b).2),(fa a).2&&(fa b).2))
  else(false,false)
 |_=>(false,false):=by
 have ih:∀x∈e.aw,jz (SizeOf.sizeOf e) x=fa x:=λx hx=>QO _ _ x (by have:=fW hx;omega) (amY _);unfold fa;rw[QO _ (SizeOf.sizeOf e+1) e (amY _) (Nat.le_succ _),jz];revert ih;unfold fa
 match e.aw with
 |[]=>intro _;rfl
 |[a]=>intro ih;simp only[ih a (by simp)]
 |[a,b]=>intro ih;simp only[ih a (by simp),ih b (by simp)]
 |_::_::_::_=>intro _;rfl
def ve(t:aF)(r:aB×Int):anF an:=bif r.2==0 then some (fB t r.1)else none
def kO(r:X aP):anF an:=match r with| .ok l=>some (ixE l)| .error _=>none
def pY(e:an):anF an:=match e.aw with
 |[a]=>bif e.aq==8&&a.aq==1 then ve a.aD (cJ 8 a.aD a.bg a.bg)else none
 |[a,b]=>bif oT e.aq&&(a.aq==1&&(b.aq==1&&gx a.aD b.aD))then ve a.aD (cJ e.aq a.aD a.bg b.bg)else none
 |_=>none
noncomputable def oU(e:an):anF an:=match e.aw with
 |[a]=>bif e.aq==12 then(bif a.aq==1 then ve e.aD (nx a.aD e.aD a.bg)else bif (da a).cW&&gx (da a).yT e.aD then some a else none)else none
 |_=>none
def rX(op:Int)(a b:an):anF an:=match gX a,gX b with
 |some f,some g=>bif a.aq==2||b.aq==2 then kO (bif op==5 then kR f g else n4 f g)else none
 |_,_=>none
def qV(e:an):Bool:=e.aq==1&&e.aD.aL==3
def tN(a b:an):anF an:=
 bif a.aq==2&&qV b then kO (kV a.aM b.bg.xN)else bif qV a&&b.aq==2 then kO (kV b.aM a.bg.xN)else none
def pF(e:an):anF an:=
 bif e.aq==2 then(bif e.aM.xL.length==0&&(decide (-2147483647<=e.aM.xK.toInt)&&decide (e.aM.xK.toInt<=2147483647))then some (fB DM ⟨e.aM.xK,1⟩)else none)
 else match e.aw with
 |[a]=>bif e.aq==8&&a.aq==2 then kO (kV a.aM (-1))else none
 |[a,b]=>bif e.aq==4||e.aq==5 then rX e.aq a b else bif e.aq==6 then tN a b else none
 |_=>none
noncomputable def pR(e:an):anF an:=match e.aw with
 |[c,a,b]=>bif e.aq==11&&(fa c).2 then some (bif (fa c).1 then a else b)else none
 |_=>none
noncomputable def ot(e:an):anF an:=match e.aw with
 |[_,a,b]=>bif e.aq==11&&m4 a b then some a else none
 |[a,b]=>bif (e.aq==9||(e.aq==10||(e.aq==16||e.aq==17)))&&m4 a b then some a else none
 |_=>none
def jh(e:an):Bool:=e.aq==1&&tX e.bg (tn e.aD)
def nS(e:an):Bool:=e.aq==1&&((fM e.aD).2==0&&tX e.bg (fM e.aD).1)
def oS(e:an):anF an:=match e.aw with
 |[a,b]=>bif e.aq==4 then(bif jh b then some a else bif jh a then some b else none)
  else bif e.aq==5 then(bif jh b then some a else bif jh a then some (cu 8 [b])else none)
  else bif e.aq==6 then(bif jh b then some b else bif jh a then some a else none)
  else bif e.aq==7 then(bif jh a then some a else none)else none
 |_=>none
def pz(e:an):anF an:=match e.aw with
 |[a,b]=>bif e.aq==6 then(bif nS b then some a else bif nS a then some b else none)else bif e.aq==7 then(bif nS b then some a else none)else none
 |_=>none
noncomputable def pQ(e:an)(k:Kn):anF an:=match e.aw with
 |[a,b]=>bif (e.aq==5||e.aq==7)&&(k.cW&&m4 a b)then
    (bif e.aq==5 then some (fB k.yT (tn k.yT))else bif !(k.yT.aL==2)&&(fM k.yT).2==0 then some (fB k.yT (fM k.yT).1)else none)else none
 |_=>none
def po(e:an)(k:Kn):anF an:=
 bif k.cW&&(!(k.yT.aL==2)||k.yT.bK==2)then
  (match e.aw with
  |[a]=>bif e.aq==8&&a.aq==8 then a.aw[0]? else none
  |[a,b]=>bif e.aq==4 then(bif b.aq==8 then(b.aw[0]?).map λx=>cu 5 [a,x]else bif a.aq==8 then(a.aw[0]?).map λx=>cu 5 [b,x]else none)
   else bif e.aq==5&&b.aq==8 then(b.aw[0]?).map λx=>cu 4 [a,x]else none
  |_=>none)else none
def n8(e:an):anF an:=match e.aw with
 |[c,a,b]=>bif e.aq==11&&c.aq==18 then(c.aw[0]?).map λx=>cu 11 [x,b,a]else none
 |[c]=>bif e.aq==18 then
    (bif c.aq==18 then c.aw[0]? else bif c.aq==13 then(match c.aw with|[x,y]=>some (cu 14 [y,x])|_=>none)
    else bif c.aq==14 then(match c.aw with|[x,y]=>some (cu 13 [y,x])|_=>none)else none)else none
 |_=>none
noncomputable def pM(e:an):anF an:=match e.aw with
 |[a,b]=>bif e.aq==16||e.aq==17 then
    (bif (fa a).2&&(fa a).1==(e.aq==16)then some b else bif (fa b).2&&(fa b).1==(e.aq==16)then some a else none)else none
 |_=>none
abbrev Rw:=anF (an×anE)
def kT(o:anF an)(s:anE)(r:Rw):Rw:=match o with|some x=>some (x,s)|none=>r
def LD:anE:=bs [102,111,108,100]
def PH:anE:=bs [99,97,115,116]
def Ni:anE:=bs [105,110,100,101,120]
def Ra:anE:=bs [105,102]
def L8:anE:=bs [115,97,109,101]
def KT:anE:=bs [122,101,114,111]
def P3:anE:=bs [111,110,101]
def P8:anE:=bs [99,97,110,99,101,108]
def PM:anE:=bs [110,101,103,97,116,101]
def Mg:anE:=bs [110,111,116]
def Lc:anE:=bs [108,111,103,105,99]
noncomputable def jo(e:an)(k:Kn):Rw:=
 kT (pY e) LD (kT (oU e) PH (kT (pF e) Ni (kT (pR e) Ra (kT (ot e) L8 (kT (oS e) KT (kT (pz e) P3
  (kT (pQ e k) P8 (kT (po e k) PM (kT (n8 e) Mg (kT (pM e) Lc none))))))))))
def et(e:an)(i:Nat)(x:an):an:=⟨e.aq,e.aO,e.bg,e.aD,e.aM,e.xIdx,e.aw.set i x⟩
noncomputable def l8(rec:an->Kn->Rw)(e:an)(k:Kn):Nat->anD an->Rw
 |_,[]=>none
 |i,x::l=>match rec x (jF e k i)with
  |some (y,s)=>some (et e i y,s)
  |none=>l8 rec e k (i+1) l
noncomputable def lR:Nat->an->Kn->Rw
 |0,_,_=>none
 |d+1,e,k=>match jo e k with
  |some r=>some r
  |none=>l8 (lR d) e k 0 e.aw
noncomputable def lv(e:an)(k:Kn):Rw:=lR (SizeOf.sizeOf e) e k
noncomputable def fv(t:aF)(e:an):Rw:=bif b9 t&&hJ e==0 then lv e ⟨t,!bn e⟩else none
theorem EZ{a g:aP}{b:Int64}(h:kV a b= .ok g):g.xL.length<=a.xL.length:=by
 rw[Jy]at h;cases h1:dY a<;>rw[h1]at h
 ·cases h
 ·cases h2:b.toInt==0<;>rw[h2]at h
  ·cases h3:dU (a.xK.toInt*b.toInt)&&a.xL.all (ug b)<;>rw[h3]at h
   ·cases h
   ·cases h;exact Nat.le_of_eq (amS _)
  ·cases h;exact Nat.zero_le _
theorem AT:∀a b:anD bf,(eE a b).length<=a.length+b.length
 |[],[]=>by rw[eE];exact amY _
 |x::l,[]=>by rw[eE];have:=AT l [];simp only[amQ,amZ]at*;omega
 |[],y::r=>by rw[eE];have:=AT [] r;simp only[amQ,amZ]at*;omega
 |x::l,y::r=>by
  rw[eE];have h1:=AT l (y::r);have h2:=AT (x::l) r;have h3:=AT l r;split
  ·simp only[amQ]at*;omega
  ·split<;>simp only[amQ]at* <;>omega
termination_by a b=>a.length+b.length
theorem UJ{a b g:aP}(h:n4 a b= .ok g):g.xL.length<=a.xL.length+b.xL.length:=by
 rw[Ii]at h;cases h1:dY a&&dY b<;>rw[h1]at h
 ·cases h
 ·cases h2:dU (a.xK.toInt+b.xK.toInt)&&(eE a.xL b.xL).all kZ<;>rw[h2]at h
  ·cases h
  ·cases h
   exact am5 (List.length_filterMap_le _ _) (AT _ _)
theorem agi{f g d:aP}(h:kR f g= .ok d):d.xL.length<=f.xL.length+g.xL.length:=by
 unfold kR at h;cases h1:kV g (-1)with
 |error e=>rw[h1]at h;cases h
 |ok q=>rw[h1]at h;have:=EZ h1;have:=UJ h;omega
theorem Rt{a:an}{f:aP}(h:gX a=some f):f.xL.length<=a.aM.xL.length:=by
 unfold gX at h;cases h2:a.aq==2 with
 |true=>rw[h2]at h;cases h;exact amY _
 |false=>
  rw[h2]at h;cases h3:a.aq==1&&a.aD.aL==3 with
  |true=>rw[h3]at h;cases h;exact Nat.zero_le _
  |false=>rw[h3]at h;cases h
def own(w:an->Nat):Prop:=∀e l,w ⟨e.aq,e.aO,e.bg,e.aD,e.aM,e.xIdx,l⟩=w e
def W(w:an->Nat)(e:an):Nat:=((dq e).map w).sum
def WL(w:an->Nat)(l:anD an):Nat:=(l.map (W w)).sum
theorem XV(w:an->Nat):∀l:anD an,((me l).map w).sum=WL w l
 |[]=>by rw[me];rfl
 |x::l=>by
  rw[JX,List.map_append,List.sum_append,XV w l];show _=(List.map (W w) (x::l)).sum;rw[anc,List.sum_cons];rfl
theorem cM(w:an->Nat)(e:an):W w e=w e+WL w e.aw:=by
 unfold W;unfold dq;rw[anc,List.sum_cons,XV]
theorem pJ(w:an->Nat)(x:an)(l:anD an):WL w (x::l)=W w x+WL w l:=by unfold WL;rw[anc,List.sum_cons]
theorem Be(w:an->Nat):WL w []=0:=rfl
theorem ld{w:an->Nat}:∀{l:anD an}{x:an},x∈l->W w x<=WL w l
 |y::l,x,h=>by
  rw[pJ];rcases ani.1 h with rfl|h
  ·omega
  ·have:=ld (w:=w) h;omega
theorem SH{w:an->Nat}:∀{l:anD an}{i:Nat}{a:an}(x:an),l[i]?=some a->WL w (l.set i x)+W w a=WL w l+W w x
 |[],i,a,x,h=>by cases h
 |y::l,0,a,x,h=>by cases h;rw[List.set_cons_zero,pJ,pJ];omega
 |y::l,i+1,a,x,h=>by
  rw[anp]at h;rw[List.set_cons_succ,pJ,pJ];have:=SH (w:=w) x h;omega
theorem alQ{w:an->Nat}(hw:own w){e a:an}{i:Nat}(x:an)(h:e.aw[i]?=some a):W w (et e i x)+W w a=W w e+W w x:=by
 rw[cM w (et e i x),cM w e];have h1:w (et e i x)=w e:=hw e _;have h2:WL w (et e i x).aw+W w a=WL w e.aw+W w x:=SH (w:=w) x h;omega
inductive fI:an->an->Prop
 |arg {e x:an}:4<=e.aq->x∈e.aw->fI e x
 |lE {e a x:an}:4<=e.aq->a∈e.aw->4<=a.aq->x∈a.aw->fI e x
 |val {e:an} (t:aF) (v:aB):e.aq=2\/(4<=e.aq/\e.aw≠ [])->fI e (fB t v)
 |idx {e:an} {l:aP}:4<=e.aq->e.aw≠ []->l.xL.length<=(e.aw.map λx=>x.aM.xL.length).sum->(∀x∈e.aw,x.aq=1\/x.aq=2)->(∃x∈e.aw,x.aq=2)->fI e (ixE l)
 |neg {e a b:an} (op:Int):4<=e.aq->4<=op->e.aw=[a,b]->fI e (cu op [b])
 |two {e a b c:an} (op:Int):4<=e.aq->4<=op->e.aw=[a,b]->4<=b.aq->b.aw=[c]->fI e (cu op [a,c])
 |vC {e a b c:an} (op:Int):4<=e.aq->4<=op->e.aw=[a,b]->4<=a.aq->a.aw=[c]->fI e (cu op [b,c])
 |swap {e a x y:an} (op:Int):4<=e.aq->4<=op->e.aw=[a]->4<=a.aq->a.aw=[x,y]->fI e (cu op [y,x])
 |three {e c a b x:an} (op:Int):4<=e.aq->4<=op->e.aw=[c,a,b]->4<=c.aq->c.aw=[x]->fI e (cu op [x,b,a])
theorem fV(w:an->Nat)(a b:an):WL w [a,b]=W w a+W w b:=by rw[pJ,pJ,Be];omega
theorem jm(w:an->Nat)(a:an):WL w [a]=W w a:=by rw[pJ,Be];omega
theorem vg(w:an->Nat)(a b c:an):WL w [a,b,c]=W w a+(W w b+W w c):=by rw[pJ,pJ,pJ,Be];omega
def wN(_:an):Nat:=1
def wM(e:an):Nat:=bif e.aq==2 then 3 else 2
def wT(e:an):Nat:=e.aM.xL.length
def gat(l:anD aN):Nat:=(l.filter λx=> !(bL x.bI==[])).length
def wC(e:an):Nat:=bif e.aq==1||e.aq==2 then 0 else bif e.aq==3 then 1+gat e.xIdx else 1
theorem WT:own wN:=λ_ _=>rfl
theorem akE:own wM:=λ_ _=>rfl
theorem abB:own wT:=λ_ _=>rfl
theorem agL:own wC:=λ_ _=>rfl
theorem qk{e:an}(h:4<=e.aq):wC e=1:=by
 unfold wC;rw[beq_false_of_ne (show e.aq≠1 by omega),beq_false_of_ne (show e.aq≠2 by omega),beq_false_of_ne (show e.aq≠3 by omega)];rfl
theorem mK{e:an}(h:4<=e.aq):wM e=2:=by
 unfold wM;rw[beq_false_of_ne (show e.aq≠2 by omega)];rfl
theorem vB(e:an):2<=wM e:=by unfold wM;cases e.aq==2<;>simp
theorem GM(w:an->Nat)(t:aF)(v:aB):W w (fB t v)=w (fB t v):=by rw[cM];show _+WL w []=_;rw[Be];rfl
theorem JW(w:an->Nat)(l:aP):W w (ixE l)=w (ixE l):=by rw[cM];show _+WL w []=_;rw[Be];rfl
theorem jq(w:an->Nat)(op:Int)(l:anD an):W w (cu op l)=w (cu op l)+WL w l:=cM w _
theorem Tm{f g:an->Nat}:∀{l:anD an},(∀x∈l,f x<=g x)->(l.map f).sum<=(l.map g).sum
 |[],_=>amY _
 |x::l,h=>by
  rw[anc,anc,List.sum_cons,List.sum_cons];have:=Tm λy hy=>h y (amW x hy);have:=h x amT;omega
theorem ajX{e x:an}(h:fI e x):W wM x<W wM e:=by
 cases h with
 |arg h0 h1=>rw[cM wM e];have:=ld (w:=wM) h1;have:=vB e;omega
 |lE h0 h1 h2 h3=>rw[cM wM e];rename_i a;have h4:=ld (w:=wM) h1;have:=ld (w:=wM) h3;have:=vB e;rw[cM wM a]at h4;omega
 |val t v h0=>
  rw[GM,cM wM e];show 2<_;rcases h0 with h0|h0
  ·have:wM e=3:=by unfold wM;rw[h0];rfl
   omega
  ·obtain⟨h0,h1⟩:=h0;obtain⟨y,hy⟩:=List.exists_mem_of_ne_nil _ h1;have:=ld (w:=wM) hy;have:=vB y;have:=vB e;rw[cM wM y]at*;omega
 |idx h0 h1 h2 h3 h4=>
  obtain⟨y,hy,HC⟩:=h4;rw[JW,cM wM e];have:=ld (w:=wM) hy;have:=vB y;have:=vB e;rw[cM wM y]at*;show 3<_;omega
 |neg op h0 ho h1=>rw[jq,cM wM e,h1,jm,fV,mK h0,mK (show 4<=(cu op _).aq from ho)];have:=cM wM;rename_i a b;have:=vB a;rw[cM wM a];omega
 |two op h0 ho h1 h2 h3=>rename_i a b c;rw[jq,cM wM e,h1,fV,fV,cM wM b,h3,jm,mK h0,mK h2,mK (show 4<=(cu op _).aq from ho)];omega
 |vC op h0 ho h1 h2 h3=>rename_i a b c;rw[jq,cM wM e,h1,fV,fV,cM wM a,h3,jm,mK h0,mK h2,mK (show 4<=(cu op _).aq from ho)];omega
 |swap op h0 ho h1 h2 h3=>rename_i a x y;rw[jq,cM wM e,h1,jm,fV,cM wM a,h3,fV,mK h0,mK h2,mK (show 4<=(cu op _).aq from ho)];omega
 |three op h0 ho h1 h2 h3=>rename_i c a b x;rw[jq,cM wM e,h1,vg,vg,cM wM c,h3,jm,mK h0,mK h2,mK (show 4<=(cu op _).aq from ho)];omega
theorem VI{e x:an}(h:fI e x):W wN x<=W wN e:=by
 cases h with
 |arg h0 h1=>rw[cM wN e];have:=ld (w:=wN) h1;omega
 |lE h0 h1 h2 h3=>rename_i a;rw[cM wN e];have h4:=ld (w:=wN) h1;have h5:=ld (w:=wN) h3;rw[cM wN a]at h4;omega
 |val t v h0=>rw[GM,cM wN e];show 1<=1+_;omega
 |idx h0 h1 h2 h3 h4=>rw[JW,cM wN e];show 1<=1+_;omega
 |neg op h0 ho h1=>rename_i a b;rw[jq,cM wN e,h1,jm,fV];rw[show ∀l,wN (cu op l)=1 from λ_=>rfl];have:wN e=1:=rfl;omega
 |two op h0 ho h1 h2 h3=>rename_i a b c;rw[jq,cM wN e,h1,fV,fV,cM wN b,h3,jm];rw[show ∀l,wN (cu op l)=1 from λ_=>rfl];have:wN e=1:=rfl;omega
 |vC op h0 ho h1 h2 h3=>rename_i a b c;rw[jq,cM wN e,h1,fV,fV,cM wN a,h3,jm];rw[show ∀l,wN (cu op l)=1 from λ_=>rfl];have:wN e=1:=rfl;omega
 |swap op h0 ho h1 h2 h3=>rename_i a x y;rw[jq,cM wN e,h1,jm,fV,cM wN a,h3,fV];rw[show ∀l,wN (cu op l)=1 from λ_=>rfl];have:wN e=1:=rfl;omega
 |three op h0 ho h1 h2 h3=>rename_i c a b x;rw[jq,cM wN e,h1,vg,vg,cM wN c,h3,jm];rw[show ∀l,wN (cu op l)=1 from λ_=>rfl];have:wN e=1:=rfl;omega
theorem aia{e x:an}(h:fI e x):W wC x<=W wC e:=by
 cases h with
 |arg h0 h1=>rw[cM wC e];have:=ld (w:=wC) h1;omega
 |lE h0 h1 h2 h3=>rename_i a;rw[cM wC e];have h4:=ld (w:=wC) h1;have h5:=ld (w:=wC) h3;rw[cM wC a]at h4;omega
 |val t v h0=>rw[GM];exact Nat.zero_le _
 |idx h0 h1 h2 h3 h4=>rw[JW];exact Nat.zero_le _
 |neg op h0 ho h1=>rename_i a b;rw[jq,cM wC e,h1,jm,fV];rw[show ∀l,wC (cu op l)=1 from λl=>qk (e:=cu op l) ho,qk h0];omega
 |two op h0 ho h1 h2 h3=>rename_i a b c;rw[jq,cM wC e,h1,fV,fV,cM wC b,h3,jm];rw[show ∀l,wC (cu op l)=1 from λl=>qk (e:=cu op l) ho,qk h0];omega
 |vC op h0 ho h1 h2 h3=>rename_i a b c;rw[jq,cM wC e,h1,fV,fV,cM wC a,h3,jm];rw[show ∀l,wC (cu op l)=1 from λl=>qk (e:=cu op l) ho,qk h0];omega
 |swap op h0 ho h1 h2 h3=>rename_i a x y;rw[jq,cM wC e,h1,jm,fV,cM wC a,h3,fV];rw[show ∀l,wC (cu op l)=1 from λl=>qk (e:=cu op l) ho,qk h0];omega
 |three op h0 ho h1 h2 h3=>rename_i c a b x;rw[jq,cM wC e,h1,vg,vg,cM wC c,h3,jm];rw[show ∀l,wC (cu op l)=1 from λl=>qk (e:=cu op l) ho,qk h0];omega
theorem ajE{e x:an}(h:fI e x):W wT x<=W wT e:=by
 cases h with
 |arg h0 h1=>rw[cM wT e];have:=ld (w:=wT) h1;omega
 |lE h0 h1 h2 h3=>rename_i a;rw[cM wT e];have h4:=ld (w:=wT) h1;have h5:=ld (w:=wT) h3;rw[cM wT a]at h4;omega
 |val t v h0=>rw[GM];exact Nat.zero_le _
 |idx h0 h1 h2 h3 h4=>
  rename_i l
  rw[JW,cM wT e];show l.xL.length<=_;have:(e.aw.map λx=>x.aM.xL.length).sum<=WL wT e.aw:=Tm λx _=>by rw[cM wT x];exact ant _ _
  omega
 |neg op h0 ho h1=>rename_i a b;rw[jq,cM wT e,h1,jm,fV];rw[show ∀l,wT (cu op l)=0 from λ_=>rfl];omega
 |two op h0 ho h1 h2 h3=>rename_i a b c;rw[jq,cM wT e,h1,fV,fV,cM wT b,h3,jm];rw[show ∀l,wT (cu op l)=0 from λ_=>rfl];omega
 |vC op h0 ho h1 h2 h3=>rename_i a b c;rw[jq,cM wT e,h1,fV,fV,cM wT a,h3,jm];rw[show ∀l,wT (cu op l)=0 from λ_=>rfl];omega
 |swap op h0 ho h1 h2 h3=>rename_i a x y;rw[jq,cM wT e,h1,jm,fV,cM wT a,h3,fV];rw[show ∀l,wT (cu op l)=0 from λ_=>rfl];omega
 |three op h0 ho h1 h2 h3=>rename_i c a b x;rw[jq,cM wT e,h1,vg,vg,cM wT c,h3,jm];rw[show ∀l,wT (cu op l)=0 from λ_=>rfl];omega
theorem bD{α:Type}{b:Bool}{o:anF α}{x:α}(h:(bif b then o else none)=some x):b=true/\o=some x:=by
 cases b with
 |true=>exact⟨rfl,h⟩
 |false=>cases h
theorem dm{α:Type}{b:Bool}{o p:anF α}{x:α}(h:(bif b then o else p)=some x):(b=true/\o=some x)\/(b=false/\p=some x):=by
 cases b with
 |true=>exact .inl ⟨rfl,h⟩
 |false=>exact .inr ⟨rfl,h⟩
theorem dJ{o:anF an}{s t:anE}{r:Rw}{x:an}(h:kT o s r=some (x,t)):(o=some x/\s=t)\/r=some (x,t):=by
 unfold kT at h;cases o with
 |none=>exact .inr h
 |some y=>cases h;exact .inl ⟨rfl,rfl⟩
theorem VQ{op:Int}(h:oT op=true):4<=op/\op<=10/\op≠8:=by
 unfold oT at h;simp only[Bool.or_eq_true,beq_iff_eq]at h;omega
theorem xp{t:aF}{r:aB×Int}{x:an}(h:ve t r=some x):x=fB t r.1/\r.2=0:=by
 obtain⟨h1,h2⟩:=bD h;cases h2
 exact⟨rfl,by simpa using h1⟩
theorem zK{r:X aP}{x:an}(h:kO r=some x):∃l,r= .ok l/\x=ixE l:=by
 unfold kO at h;cases r with
 |ok l=>cases h;exact⟨l,rfl,rfl⟩
 |error e=>cases h
def rk(e:an):Prop:=(e.aw.length:Int)=iY e.aq/\∀a∈e.aw,(a.aw.length:Int)=iY a.aq
theorem Pc{a:an}(h:(a.aw.length:Int)=iY a.aq)(h1:iY a.aq=1):∃x,a.aw=[x]:=by
 rw[h1]at h
 match a.aw,h with
 |[x],_=>exact⟨x,rfl⟩
 |[],h=>simp at h
 |_::_::_,h=>simp at h;omega
theorem ahM{e x:an}(h:pY e=some x):fI e x:=by
 unfold pY at h;split at h
 ·rename_i a ha
  obtain⟨h1,h2⟩:=bD h;obtain⟨rfl,_⟩:=xp h2;simp only[amP,beq_iff_eq]at h1;exact .val _ _ (.inr ⟨by omega,by rw[ha];simp⟩)
 ·rename_i a b ha
  obtain⟨h1,h2⟩:=bD h;obtain⟨rfl,_⟩:=xp h2;simp only[amP,beq_iff_eq]at h1;exact .val _ _ (.inr ⟨(VQ h1.1).1,by rw[ha];simp⟩)
 ·cases h
theorem aex{e x:an}(h:oU e=some x):fI e x:=by
 unfold oU at h;split at h
 ·rename_i a ha
  obtain⟨h1,h2⟩:=bD h;have ho:e.aq=12:=by simpa using h1
  rcases dm h2 with⟨_,h3⟩|⟨_,h3⟩
  ·obtain⟨rfl,_⟩:=xp h3;exact .val _ _ (.inr ⟨by omega,by rw[ha];simp⟩)
  ·obtain⟨_,h4⟩:=bD h3;cases h4
   exact .arg (by omega) (by rw[ha];simp)
 ·cases h
theorem adl{e x:an}(h:pF e=some x):fI e x:=by
 unfold pF at h;rcases dm h with⟨h1,h2⟩|⟨h1,h2⟩
 ·obtain⟨_,h3⟩:=bD h2;cases h3
  exact .val _ _ (.inl (by simpa using h1))
 ·split at h2
  ·rename_i a ha
   obtain⟨h3,h4⟩:=bD h2;simp only[amP,beq_iff_eq]at h3;obtain⟨l,h5,rfl⟩:=zK h4;have:=EZ h5;exact .idx (by omega) (by rw[ha];simp) (by rw[ha];simp;omega) (by rw[ha];simp;omega) (by rw[ha];simp;omega)
  ·rename_i a b ha
   rcases dm h2 with⟨h3,h4⟩|⟨h3,h4⟩
   ·simp only[Bool.or_eq_true,beq_iff_eq]at h3;unfold rX at h4;split at h4
    ·rename_i f g hf hg
     obtain⟨h5,h6⟩:=bD h4;simp only[Bool.or_eq_true,beq_iff_eq]at h5;obtain⟨l,h7,rfl⟩:=zK h6;have l1:=Rt hf;have l2:=Rt hg;have l3:l.xL.length<=f.xL.length+g.xL.length:=by
      cases h8:e.aq==5 with
      |true=>rw[h8]at h7;exact agi h7
      |false=>rw[h8]at h7;exact UJ h7
     have fo:∀{y:an}{q:aP},gX y=some q->y.aq=1\/y.aq=2:=fun{y q} hq=>by
      unfold gX at hq;rcases dm hq with⟨h9,_⟩|⟨_,h9⟩
      ·exact .inr (by simpa using h9)
      ·obtain⟨bk,_⟩:=bD h9;simp only[amP,beq_iff_eq]at bk;exact .inl bk.1
     refine .idx (by omega) (by rw[ha];simp) (by rw[ha];simp;omega) ?_ ?_
     ·rw[ha];intro y hy;simp only[ani,anu,or_false]at hy;rcases hy with rfl|rfl
      ·exact fo hf
      ·exact fo hg
     ·rw[ha];rcases h5 with h5|h5
      ·exact⟨a,by simp,h5⟩
      ·exact⟨b,by simp,h5⟩
    ·cases h4
   ·obtain⟨h5,h6⟩:=bD h4;have ho:e.aq=6:=by simpa using h5
    unfold tN at h6;rcases dm h6 with⟨h7,h8⟩|⟨_,h8⟩
    ·obtain⟨l,h9,rfl⟩:=zK h8;have:=EZ h9;simp only[qV,amP,beq_iff_eq]at h7;exact .idx (by omega) (by rw[ha];simp) (by rw[ha];simp;omega) (by rw[ha];simp;omega) (by rw[ha];simp;omega)
    ·obtain⟨h7,h8⟩:=bD h8;obtain⟨l,h9,rfl⟩:=zK h8;have:=EZ h9;simp only[qV,amP,beq_iff_eq]at h7;exact .idx (by omega) (by rw[ha];simp) (by rw[ha];simp;omega) (by rw[ha];simp;omega) (by rw[ha];simp;omega)
  ·cases h2
theorem abg{e x:an}(h:pR e=some x):fI e x:=by
 unfold pR at h;split at h
 ·rename_i c a b ha
  obtain⟨h1,h2⟩:=bD h;simp only[amP,beq_iff_eq]at h1;cases h2
  refine .arg (by omega) ?_;rw[ha];cases (fa c).1<;>simp
 ·cases h
theorem ajY{e x:an}(h:ot e=some x):fI e x:=by
 unfold ot at h;split at h
 ·rename_i c a b ha
  obtain⟨h1,h2⟩:=bD h;simp only[amP,beq_iff_eq]at h1;cases h2
  exact .arg (by omega) (by rw[ha];simp)
 ·rename_i a b ha
  obtain⟨h1,h2⟩:=bD h;simp only[amP,Bool.or_eq_true,beq_iff_eq]at h1;cases h2
  exact .arg (by omega) (by rw[ha];simp)
 ·cases h
theorem ado{e x:an}(h:oS e=some x):fI e x:=by
 unfold oS at h;split at h
 ·rename_i a b ha
  have A:∀y,4<=e.aq->y=a\/y=b->fI e y:=λy h1 h2=> .arg h1 (by rw[ha];rcases h2 with rfl|rfl<;>simp);rcases dm h with⟨h1,h2⟩|⟨_,h⟩
  ·have ho:e.aq=4:=by simpa using h1
   rcases dm h2 with⟨_,h3⟩|⟨_,h3⟩
   ·cases h3;exact A _ (by omega) (.inl rfl)
   ·obtain⟨_,h4⟩:=bD h3;cases h4;exact A _ (by omega) (.inr rfl)
  ·rcases dm h with⟨h1,h2⟩|⟨_,h⟩
   ·have ho:e.aq=5:=by simpa using h1
    rcases dm h2 with⟨_,h3⟩|⟨_,h3⟩
    ·cases h3;exact A _ (by omega) (.inl rfl)
    ·obtain⟨_,h4⟩:=bD h3;cases h4;exact .neg 8 (by omega) (by decide) ha
   ·rcases dm h with⟨h1,h2⟩|⟨_,h⟩
    ·have ho:e.aq=6:=by simpa using h1
     rcases dm h2 with⟨_,h3⟩|⟨_,h3⟩
     ·cases h3;exact A _ (by omega) (.inr rfl)
     ·obtain⟨_,h4⟩:=bD h3;cases h4;exact A _ (by omega) (.inl rfl)
    ·obtain⟨h1,h2⟩:=bD h;have ho:e.aq=7:=by simpa using h1
     obtain⟨_,h4⟩:=bD h2;cases h4;exact A _ (by omega) (.inl rfl)
 ·cases h
theorem ahC{e x:an}(h:pz e=some x):fI e x:=by
 unfold pz at h;split at h
 ·rename_i a b ha
  have A:∀y,4<=e.aq->y=a\/y=b->fI e y:=λy h1 h2=> .arg h1 (by rw[ha];rcases h2 with rfl|rfl<;>simp);rcases dm h with⟨h1,h2⟩|⟨_,h⟩
  ·have ho:e.aq=6:=by simpa using h1
   rcases dm h2 with⟨_,h3⟩|⟨_,h3⟩
   ·cases h3;exact A _ (by omega) (.inl rfl)
   ·obtain⟨_,h4⟩:=bD h3;cases h4;exact A _ (by omega) (.inr rfl)
  ·obtain⟨h1,h2⟩:=bD h;have ho:e.aq=7:=by simpa using h1
   obtain⟨_,h4⟩:=bD h2;cases h4;exact A _ (by omega) (.inl rfl)
 ·cases h
theorem ajZ{e x:an}{k:Kn}(h:pQ e k=some x):fI e x:=by
 unfold pQ at h;split at h
 ·rename_i a b ha
  obtain⟨h1,h2⟩:=bD h;simp only[amP,Bool.or_eq_true,beq_iff_eq]at h1;rcases dm h2 with⟨_,h3⟩|⟨_,h3⟩
  ·cases h3;exact .val _ _ (.inr ⟨by omega,by rw[ha];simp⟩)
  ·obtain⟨_,h4⟩:=bD h3;cases h4;exact .val _ _ (.inr ⟨by omega,by rw[ha];simp⟩)
 ·cases h
theorem S9{l:anD an}{x:an}(h:l[0]?=some x):x∈l:=am0 h
theorem akC{e x:an}{k:Kn}(hr:rk e)(h:po e k=some x):fI e x:=by
 unfold po at h;obtain⟨_,h⟩:=bD h;split at h
 ·rename_i a ha
  obtain⟨h1,h2⟩:=bD h;simp only[amP,beq_iff_eq]at h1;exact .lE (by omega) (by rw[ha];simp) (by omega) (S9 h2)
 ·rename_i a b ha
  have one:∀y,y=a\/y=b->y.aq=8->∃c,y.aw=[c]:=λy hy ho=>Pc (hr.2 y (by rw[ha];rcases hy with rfl|rfl<;>simp)) (by rw[ho];rfl);rcases dm h with⟨h1,h⟩|⟨_,h⟩
  ·have ho:e.aq=4:=by simpa using h1
   rcases dm h with⟨h2,h⟩|⟨_,h⟩
   ·have hb:b.aq=8:=by simpa using h2
    obtain⟨c,hc⟩:=one b (.inr rfl) hb;rw[hc]at h;cases h
    exact .two 5 (by omega) (by decide) ha (by omega) hc
   ·obtain⟨h2,h⟩:=bD h;have hb:a.aq=8:=by simpa using h2
    obtain⟨c,hc⟩:=one a (.inl rfl) hb;rw[hc]at h;cases h
    exact .vC 5 (by omega) (by decide) ha (by omega) hc
  ·obtain⟨h1,h⟩:=bD h;simp only[amP,beq_iff_eq]at h1;obtain⟨c,hc⟩:=one b (.inr rfl) h1.2;rw[hc]at h;cases h
   exact .two 4 (by omega) (by decide) ha (by omega) hc
 ·cases h
theorem agW{e x:an}(hr:rk e)(h:n8 e=some x):fI e x:=by
 unfold n8 at h;split at h
 ·rename_i c a b ha
  obtain⟨h1,h⟩:=bD h;simp only[amP,beq_iff_eq]at h1;obtain⟨y,hy⟩:=Pc (hr.2 c (by rw[ha];simp)) (by rw[h1.2];rfl);rw[hy]at h;cases h
  exact .three 11 (by omega) (by decide) ha (by omega) hy
 ·rename_i c ha
  obtain⟨h1,h⟩:=bD h;have ho:e.aq=18:=by simpa using h1
  rcases dm h with⟨h2,h⟩|⟨_,h⟩
  ·have hb:c.aq=18:=by simpa using h2
   exact .lE (by omega) (by rw[ha];simp) (by omega) (S9 h)
  ·rcases dm h with⟨h2,h⟩|⟨_,h⟩
   ·have hb:c.aq=13:=by simpa using h2
    split at h
    ·rename_i p q hp
     cases h
     exact .swap 14 (by omega) (by decide) ha (by omega) hp
    ·cases h
   ·obtain⟨h2,h⟩:=bD h;have hb:c.aq=14:=by simpa using h2
    split at h
    ·rename_i p q hp
     cases h
     exact .swap 13 (by omega) (by decide) ha (by omega) hp
    ·cases h
 ·cases h
theorem aem{e x:an}(h:pM e=some x):fI e x:=by
 unfold pM at h;split at h
 ·rename_i a b ha
  obtain⟨h1,h⟩:=bD h;simp only[Bool.or_eq_true,beq_iff_eq]at h1;rcases dm h with⟨_,h⟩|⟨_,h⟩
  ·cases h;exact .arg (by omega) (by rw[ha];simp)
  ·obtain⟨_,h⟩:=bD h;cases h;exact .arg (by omega) (by rw[ha];simp)
 ·cases h
theorem NG{e x:an}{k:Kn}{s:anE}(hr:rk e)(h:jo e k=some (x,s)):fI e x:=by
 unfold jo at h;rcases dJ h with⟨h,_⟩|h
 ·exact ahM h
 rcases dJ h with⟨h,_⟩|h
 ·exact aex h
 rcases dJ h with⟨h,_⟩|h
 ·exact adl h
 rcases dJ h with⟨h,_⟩|h
 ·exact abg h
 rcases dJ h with⟨h,_⟩|h
 ·exact ajY h
 rcases dJ h with⟨h,_⟩|h
 ·exact ado h
 rcases dJ h with⟨h,_⟩|h
 ·exact ahC h
 rcases dJ h with⟨h,_⟩|h
 ·exact ajZ h
 rcases dJ h with⟨h,_⟩|h
 ·exact akC hr h
 rcases dJ h with⟨h,_⟩|h
 ·exact agW hr h
 rcases dJ h with⟨h,_⟩|h
 ·exact aem h
 cases h
theorem wj{rec:an->Kn->Rw}{e x:an}{k:Kn}{s:anE}:∀(l:anD an)(i:Nat),e.aw.drop i=l->l8 rec e k i l=some (x,s)->
 ∃j a y,e.aw[j]?=some a/\rec a (jF e k j)=some (y,s)/\x=et e j y
 |[],i,_,h=>by cases h
 |a::l,i,hd,h=>by
  rw[l8]at h;cases hr:rec a (jF e k i)with
  |some r=>rw[hr]at h;cases h;exact⟨i,a,r.1,cO hd,by rw[hr],rfl⟩
  |none=>rw[hr]at h;exact wj l (i+1) (nC hd) h
def lX(e:an):Prop:=∀y∈dq e,(y.aw.length:Int)=iY y.aq
theorem lX.arg{e x:an}(h:lX e)(hx:x∈e.aw):lX x:=λy hy=>h y (mc hx hy)
theorem vU(e:an):e∈dq e:=amT
theorem lX.rk{e:an}(h:lX e):rk e:=⟨h e (vU e),λa ha=>h a (mc ha (vU a))⟩
theorem QJ{w:an->Nat}(hw:own w){R:Nat->Nat->Prop}(hR:∀a b p q:Nat,R a b->p+b=q+a->R p q)(Hv:∀{e x:an},fI e x->R (W w x) (W w e)):
 ∀(d:Nat)(e x:an)(k:Kn)(s:anE),lX e->lR d e k=some (x,s)->R (W w x) (W w e)
 |0,_,_,_,_,_,h=>by cases h
 |d+1,e,x,k,s,hr,h=>by
  rw[lR]at h;cases h1:jo e k with
  |some r=>rw[h1]at h;cases h;exact Hv (NG hr.rk (by rw[h1]))
  |none=>
   rw[h1]at h;obtain⟨j,a,y,h2,h3,rfl⟩:=wj e.aw 0 rfl h;have ih:=QJ hw hR Hv d a y _ s (hr.arg (am0 h2)) h3;exact hR _ _ _ _ ih (alQ hw y h2)
theorem Qm:∀(d d':Nat)(e:an)(k:Kn),SizeOf.sizeOf e<=d->SizeOf.sizeOf e<=d'->lR d e k=lR d' e k
 |0,_,e,_,h,_=>by cases e;simp at h
 |_,0,e,_,_,h=>by cases e;simp at h
 |d+1,d'+1,e,k,h,h'=>by
  rw[lR,lR];have ih:∀(l:anD an)(i:Nat),(∀x∈l,x∈e.aw)->l8 (lR d) e k i l=l8 (lR d') e k i l:=λl=>by
    induction l with
    |nil=>intro i _;rfl
    |cons x l ih=>
     intro i hl;have hx:=fW (hl x amT);rw[l8,l8,Qm d d' x _ (by omega) (by omega),ih _ λy hy=>hl y (amW _ hy)]
  rw[ih e.aw 0 λx hx=>hx]
theorem CD(e:an)(k:Kn):lv e k=match jo e k with
 |some r=>some r
 |none=>l8 lv e k 0 e.aw:=by
 unfold lv;rw[Qm _ (SizeOf.sizeOf e+1) e k (amY _) (Nat.le_succ _),lR];have ih:∀(l:anD an)(i:Nat),(∀x∈l,x∈e.aw)->l8 (lR (SizeOf.sizeOf e)) e k i l=l8 (λe k=>lR (SizeOf.sizeOf e) e k) e k i l:=λl=>by
  induction l with
  |nil=>intro i _;rfl
  |cons x l ih=>
   intro i hl;have hx:=fW (hl x amT);rw[l8,l8,Qm (SizeOf.sizeOf e) (SizeOf.sizeOf x) x _ (by omega) (amY _),ih _ λy hy=>hl y (amW _ hy)]
 rw[ih e.aw 0 λx hx=>hx]<;>rfl
theorem UY:∀l:anD an,qw l=0->∀x∈l,jj x=0
 |[],_,x,hx=>by cases hx
 |y::l,h,x,hx=>by
  rw[qw]at h;cases hy:jj y !=0 with
  |true=>
   rw[hy]at h;simp only[cond_true]at h;rw[h]at hy;cases hy
  |false=>
   rw[hy]at h;rcases ani.1 hx with rfl|hx
   ·rw[kY]at hy;simpa using hy
   ·exact UY l h x hx
def vE(e:an):Prop:=∀y∈dq e,jj y=0
theorem vE.arg{e x:an}(h:vE e)(hx:x∈e.aw):vE x:=λy hy=>h y (mc hx hy)
structure xd(e:an):Prop where
 plain:jT e=true
 named:lU e=true
 T9:jl e=true
 typed:jr e=true
 formed:mP e=true
theorem O7{x:an}(h:jj x=0):xd x:=by
 unfold jj at h;cases p:jT x<;>rw[p]at h
 ·cases h
 cases q:lU x<;>rw[q]at h
 ·cases h
 cases r:jl x<;>rw[r]at h
 ·cases h
 cases s:jr x<;>rw[s]at h
 ·cases h
 cases t:mP x<;>rw[t]at h
 ·cases h
 exact⟨p,q,r,s,t⟩
theorem Aj{e:an}(h:hJ e=0):vE e/\iJ 40 e<=40/\(dq e).length<=2000:=by
 unfold hJ at h;cases h1:decide (40<iJ 40 e)with
 |true=>rw[h1]at h;cases h
 |false=>
  cases h2:decide (2000<(dq e).length)with
  |true=>rw[h1,h2]at h;cases h
  |false=>
   rw[h1,h2]at h;exact⟨λx hx=>UY (dq e) h x hx,by simpa using h1,by simpa using h2⟩
theorem vE.lX{e:an}(h:vE e):lX e:=λy hy=>by
 have:=(O7 (h y hy)).T9;unfold jl at this;rw[amP,beq_iff_eq]at this;exact this.1
theorem rP{t:aF}{e x:an}{s:anE}(h:fv t e=some (x,s)):b9 t=true/\hJ e=0/\lv e ⟨t,!bn e⟩=some (x,s):=by
 obtain⟨h1,h2⟩:=bD h;simp only[amP,beq_iff_eq]at h1;exact⟨h1.1,h1.2,h2⟩
theorem aiP{t:aF}{e x:an}{s:anE}(h:fv t e=some (x,s)):W wM x<W wM e:=by
 obtain⟨_,h1,h2⟩:=rP h;exact QJ (R:=λa b=>a<b) akE (λa b p q h e=>by omega) ajX _ e x _ s (Aj h1).1.lX h2
theorem G9{w:an->Nat}(hw:own w)(Hv:∀{e x:an},fI e x->W w x<=W w e){t:aF}{e x:an}{s:anE}(h:fv t e=some (x,s)):W w x<=W w e:=by
 obtain⟨_,h1,h2⟩:=rP h;exact QJ (R:=λa b=>a<=b) hw (λa b p q h e=>by omega) Hv _ e x _ s (Aj h1).1.lX h2
theorem alk{P:an->Prop}(mr:∀t v,P (fB t v))(tt:∀l,P (ixE l))(eO:∀op l,4<=op->l.length<=3->P (cu op l)){e x:an}(h:fI e x)(he:∀y∈dq e,P y):∀y∈dq x,P y:=by
 have hA:∀{a:an},a∈e.aw->∀y∈dq a,P y:=λha y hy=>he y (mc ha hy);have hO:∀op l,4<=op->l.length<=3->(∀a∈l,∀y∈dq a,P y)->∀y∈dq (cu op l),P y:=λop l ho hl ha y hy=>by
  rcases ani.1 hy with rfl|hy
  ·exact eO op l ho hl
  ·obtain⟨a,h1,h2⟩:=zi hy;exact ha a h1 y h2
 cases h with
 |arg h0 h1=>exact hA h1
 |lE h0 h1 h2 h3=>exact λy hy=>hA h1 y (mc h3 hy)
 |val t v h0=>exact λy hy=>by rcases ani.1 hy with rfl|hy;exact mr t v;exact absurd hy (by rw[show(fB t v).aw=[]from rfl,me];simp)
 |idx h0 h1 h2 h3 h4=>rename_i l;exact λy hy=>by rcases ani.1 hy with rfl|hy;exact tt l;exact absurd hy (by rw[show(ixE l).aw=[]from rfl,me];simp)
 |neg op h0 ho h1=>exact hO _ _ ho (by simp) λa ha=>by simp at ha;subst ha;exact hA (by rw[h1];simp)
 |two op h0 ho h1 h2 h3=>
  rename_i a b c
  exact hO _ _ ho (by simp) λz hz=>by
   simp at hz;rcases hz with rfl|rfl
   ·exact hA (by rw[h1];simp)
   ·exact λy hy=>hA (a:=b) (by rw[h1];simp) y (mc (x:=z) (by rw[h3];simp) hy)
 |vC op h0 ho h1 h2 h3=>
  rename_i a b c
  exact hO _ _ ho (by simp) λz hz=>by
   simp at hz;rcases hz with rfl|rfl
   ·exact hA (by rw[h1];simp)
   ·exact λy hy=>hA (a:=a) (by rw[h1];simp) y (mc (x:=z) (by rw[h3];simp) hy)
 |swap op h0 ho h1 h2 h3=>
  rename_i a p q
  exact hO _ _ ho (by simp) λz hz=>by
   simp at hz;exact λy hy=>hA (a:=a) (by rw[h1];simp) y (mc (x:=z) (by rw[h3];rcases hz with rfl|rfl<;>simp) hy)
 |three op h0 ho h1 h2 h3=>
  rename_i c a b p
  exact hO _ _ ho (by simp) λz hz=>by
   simp at hz;rcases hz with rfl|rfl|rfl
   ·exact λy hy=>hA (a:=c) (by rw[h1];simp) y (mc (x:=z) (by rw[h3];simp) hy)
   ·exact hA (by rw[h1];simp)
   ·exact hA (by rw[h1];simp)
theorem TH{P:an->Prop}(mr:∀t v,P (fB t v))(tt:∀l,P (ixE l))(eO:∀op l,4<=op->l.length<=3->P (cu op l))(F6:∀e i x,P e->P (et e i x)):
 ∀(d:Nat)(e x:an)(k:Kn)(s:anE),lX e->lR d e k=some (x,s)->(∀y∈dq e,P y)->∀y∈dq x,P y
 |0,_,_,_,_,_,h,_=>by cases h
 |d+1,e,x,k,s,hr,h,he=>by
  rw[lR]at h;cases h1:jo e k with
  |some r=>rw[h1]at h;cases h;exact alk mr tt eO (NG hr.rk (by rw[h1])) he
  |none=>
   rw[h1]at h;obtain⟨j,a,z,h2,h3,rfl⟩:=wj e.aw 0 rfl h;have ha:=am0 h2;have ih:=TH mr tt eO F6 d a z _ s (hr.arg ha) h3 λy hy=>he y (mc ha hy);intro y hy;rcases ani.1 hy with rfl|hy
   ·exact F6 e j z (he e (vU e))
   ·obtain⟨b,h4,h5⟩:=zi hy;have h4':b∈e.aw.set j z:=h4;rcases List.mem_or_eq_of_mem_set h4' with h4|rfl
    ·exact he y (mc h4 h5)
    ·exact ih y h5
theorem Vv{P:an->Prop}(mr:∀t v,P (fB t v))(tt:∀l,P (ixE l))(eO:∀op l,4<=op->l.length<=3->P (cu op l))(F6:∀e i x,P e->P (et e i x))
 {t:aF} {e x:an} {s:anE} (h:fv t e=some (x,s)) (he:∀y∈dq e,P y):∀y∈dq x,P y:=by
 obtain⟨_,h1,h2⟩:=rP h;exact TH mr tt eO F6 _ e x _ s (Aj h1).1.lX h2 he
section
variable {mem:anD bp} {env:anD bm}
theorem Jp(t:aF)(v:aB):bE mem env (fB t v)= .ok (v,t):=qW rfl
theorem zj:∀(n:Nat)(e:an),SizeOf.sizeOf e<=n->Ev e->bn e=false->∀x,bE mem env e= .ok x->(da e).cW=true->x.2=(da e).yT
 |0,e,hn,_,_,_,_,_=>by cases e;simp at hn
 |n+1,e,hn,H,hc,x,hx,hk=>by
  rw[Ov]at hk ⊢;rcases kd H.n hc with h|⟨a,ha,ho⟩|⟨a,ha,ho⟩|⟨a,b,ha,ho⟩|⟨c,a,b,ha,ho⟩
  ·have hl:=H.n.lo;have:e.aq=1\/e.aq=2\/e.aq=3:=by omega
   rw[wU h]at hx;rcases this with h|h|h
   ·unfold nK at hx;rw[h]at hx ⊢;cases hx;rfl
   ·unfold nK at hx;rw[h,show((2:Int)==1)=false from rfl,show((2:Int)==2)=true from rfl,cond_false,cond_true]at hx;cases h1:(cU e.aM env).2 !=0 with
    |true=>rw[h1]at hx;cases hx
    |false=>
     rw[h1,cond_false]at hx;cases h2:(decide ((cU e.aM env).1.toInt>2147483647)||decide ((cU e.aM env).1.toInt< -2147483647))with
     |true=>rw[h2]at hx;cases hx
     |false=>rw[h2]at hx;cases hx;rw[h];rfl
   ·rw[h,m9 H (by omega)]at hk;cases hk
  ·rw[ho,show((12:Int)==1||(12:Int)==12)=true from rfl,cond_true];obtain⟨y,h1,h2,rfl⟩:=Ih ha ho hx;rfl
  ·rw[ho,ha,show((8:Int)==1||(8:Int)==12)=false from rfl,cond_false,show((8:Int)==2)=false from rfl,cond_false]at hk ⊢;obtain⟨y,h1,h2,rfl⟩:=qB ha ho hx;have s1:=rF ha;exact zj n a (by omega) (H.a1 ha) (H.c1 ha (by omega) (by omega)) y h1 hk
  ·rw[show(e.aq==1||e.aq==12)=false by rw[anC,beq_eq_false_iff_ne,beq_eq_false_iff_ne];omega,cond_false,show(e.aq==2)=false by rw[beq_eq_false_iff_ne];omega,cond_false,ha]at hk ⊢;obtain⟨y,z,h1,h2,h3,h4,rfl⟩:=qq ha (by omega) hx;have s2:=rQ ha;have a2:=H.a2 ha;have c2:=H.c2 ha (by omega) (by omega);dsimp only at hk ⊢;cases hb:oT e.aq with
   |false=>rw[hb]at hk;cases hk
   |true=>
    rw[hb,cond_true]at hk;rw[cond_true];cases hd:(da a).cW with
    |true=>rw[cond_true];exact zj n a (by omega) a2.1 c2.1 y h1 hd
    |false=>
     rw[hd,cond_false]at hk;rw[cond_false];exact h3.trans (zj n b (by omega) a2.2 c2.2 z h2 hk)
  ·rw[ho,ha,show((11:Int)==1||(11:Int)==12)=false from rfl,cond_false,show((11:Int)==2)=false from rfl,cond_false]at hk ⊢;dsimp only at hk ⊢;obtain⟨t,h1,h2⟩:=z8 ha (by omega) hx;have s3:=Bf ha;have c3:=H.c3 ha ho;have a3:=H.a3 ha;cases hb:((11:Int)==11&&((da a).cW&&((da b).cW&&gx (da a).yT (da b).yT)))with
   |false=>rw[hb]at hk;cases hk
   |true=>
    rw[hb,cond_true]at hk;rw[cond_true];simp only[amP]at hb;cases t with
    |true=>exact zj n a (by omega) a3.2.1 c3.2.1 x h2 hk
    |false=>exact(zj n b (by omega) a3.2.2 c3.2.2 x h2 hb.2.2.1).trans (By.1 hb.2.2.2).symm
theorem JB{e:an}{x:aB×aF}(H:Ev e)(hc:bn e=false)(hx:bE mem env e= .ok x)(hk:(da e).cW=true):x.2=(da e).yT:=zj _ e (amY _) H hc x hx hk
theorem adx{t:aF}(ht:b9 t=true)(hk:t.aL=3):t=lW:=by
 unfold b9 at ht;rw[hk]at ht;have h:(t.bY==0&&(t.bM==0&&(t.b5==0&&t.bK==0)))=true:=ht;simp only[amP,beq_iff_eq]at h;cases t
 simp only at hk h;obtain⟨h1,h2,h3,h4⟩:=h;subst hk;subst h1;subst h2;subst h3;subst h4;rfl
structure Ie(env:List bm)(f:aP)(x:aB×aF)(n:Int64):Prop where
 ev:cU f env=(n,0)
 eq:x=(⟨n,1⟩,lW)
 lo: -2147483647<=n.toInt
 hi:n.toInt<=2147483647
theorem YH{e:an}{x:aB×aF}(h:e.aq=2)(hx:bE mem env e= .ok x):∃n,Ie env e.aM x n:=by
 rw[wU (by omega)]at hx;unfold nK at hx;rw[h,show((2:Int)==1)=false from rfl,show((2:Int)==2)=true from rfl,cond_false,cond_true]at hx;cases h1:(cU e.aM env).2 !=0 with
 |true=>rw[h1]at hx;cases hx
 |false=>
  rw[h1,cond_false]at hx;cases h2:(decide ((cU e.aM env).1.toInt>2147483647)||decide ((cU e.aM env).1.toInt< -2147483647))with
  |true=>rw[h2]at hx;cases hx
  |false=>
   rw[h2]at hx;rw[anC,decide_eq_false_iff_not,decide_eq_false_iff_not]at h2;exact⟨(cU e.aM env).1,Prod.ext rfl (by simpa using h1),(Except.ok.inj hx).symm,by omega,by omega⟩
theorem sr{e:an}{f:aP}{x:aB×aF}(H:Ev e)(hf:gX e=some f)(hx:bE mem env e= .ok x):∃n,Ie env f x n:=by
 unfold gX at hf;cases h2:e.aq==2 with
 |true=>
  rw[h2,cond_true]at hf;cases hf
  exact YH (by simpa using h2) hx
 |false=>
  rw[h2,cond_false]at hf;obtain⟨h3,h4⟩:=bD hf;simp only[amP,beq_iff_eq]at h3;cases h4
  rw[qW h3.1]at hx;cases hx
  have hl:=H.n.lit h3.1;have hv:=aeN h3.2 hl.2;refine⟨e.bg.xN,Qo _ _,?_,hv.1.n1,hv.1.n2⟩;rw[adx hl.1 h3.2];exact congrArg (·,lW) (yY rfl (by show e.bg.xD.toInt=(1:Int64).toInt;rw[hv.2];rfl))
theorem akK{f:aP}{s:Int}(h1:dY f=true)(h2:gD env f.xL f.xK.toInt=some s)(lo: -2147483647<=s)(hi:s<=2147483647):bE mem env (ixE f)= .ok (⟨Int64.ofInt s,1⟩,lW):=by
 rw[wU (by show(2:Int)<=3;decide)];have e:=aln h1 h2 (kg.2 (by omega));show(bif (cU f env).2 !=0 then _ else bif decide ((cU f env).1.toInt>2147483647)||decide ((cU f env).1.toInt< -2147483647)then _ else Except.ok ((⟨(cU f env).1,1⟩:aB),lW))=_;rw[e];show(bif decide ((Int64.ofInt s).toInt>2147483647)||decide ((Int64.ofInt s).toInt< -2147483647)then _ else _)=_;rw[Int64.toInt_ofInt_of_le (by omega) (by omega),anw (show ¬s>2147483647 by omega),anw (show ¬s< -2147483647 by omega)];rfl
theorem Vm{n:Int64}(lo: -2147483647<=n.toInt)(hi:n.toInt<=2147483647):b4 lW ⟨n,1⟩=true:=by
 have:=BS (t:=lW) rfl lo hi
 rwa [Int64.ofInt_toInt]at this
theorem Ie.v{f:aP}{x:aB×aF}{n:Int64}(h:Ie env f x n):b4 lW ⟨n,1⟩=true:=Vm h.lo h.hi
theorem RF(a b:Int):mF b a= -mF a b:=by
 unfold mF;by_cases h1:a<b
 ·have h2:¬b<a:=by omega
  simp [h1,h2]
 ·by_cases h2:b<a
  ·simp [h1,h2]
  ·simp [h1,h2]
theorem ada{a b k:Int}(h:a-b=k):mF k 0=mF a b:=by
 unfold mF;by_cases h1:a<b
 ·have h2:k<0:=by omega
  simp [h1,h2]
 ·have h2:¬k<0:=by omega
  by_cases h3:b<a
  ·have h4:0<k:=by omega
   simp [h1,h2,h3,h4]
  ·have h4:¬0<k:=by omega
   simp [h1,h2,h3,h4]
theorem Po(t:aF)(a b:aB):fD t b a= -fD t a b:=by
 unfold fD;rw[Bool.and_comm (b4 t b)];cases (b9 t&&(b4 t a&&b4 t b))with
 |false=>rfl
 |true=>
  rw[cond_true,cond_true];cases t.aL==1 with
  |true=>exact RF _ _
  |false=>exact RF _ _
theorem alF(t:aF)(a:aB):fD t a a=0:=by
 have:=Po t a a;omega
theorem SI{f g d:aP}{s u:Int}(h:kR f g= .ok d)(hf:gD env f.xL f.xK.toInt=some s)(hg:gD env g.xL g.xK.toInt=some u):gD env d.xL d.xK.toInt=some (s-u):=by
 unfold kR at h;cases hs:kV g (-1)with
 |error z=>rw[hs]at h;cases h
 |ok w=>
  rw[hs]at h;have:=TS h hf (GO hs hg);rw[this,show(-1:Int64).toInt= -1 from rfl]
  congr 1;omega
theorem Sj{f g d:aP}(h:kR f g= .ok d):dY d=true:=by
 unfold kR at h;cases hs:kV g (-1)with
 |error z=>rw[hs]at h;cases h
 |ok w=>rw[hs]at h;exact N9 h
theorem aav{op:Int}{a b:an}{y z:aB×aF}(ho:13<=op/\op<=15)(A:Ev a)(B:Ev b)(h1:bE mem env a= .ok y)(h2:bE mem env b= .ok z)(ht:y.2=z.2)(hk:(qa op a b).2=true):(qa op a b).1=qZ op (fD y.2 y.1 z.1):=by
 unfold qa at hk ⊢;cases hl:(a.aq==1&&(b.aq==1&&gx a.aD b.aD))with
 |true=>
  simp only[amP,beq_iff_eq]at hl;rw[qW hl.1]at h1;rw[qW hl.2.1]at h2;cases h1;cases h2
  rfl
 |false=>
  rw[hl,cond_false]at hk;rw[cond_false];cases hc:BF a b with
  |some k=>
   dsimp only;unfold BF at hc;cases hf:gX a with
   |none=>rw[hf]at hc;cases hc
   |some f=>
    cases hg:gX b with
    |none=>rw[hf,hg]at hc;cases hc
    |some g=>
     rw[hf,hg]at hc;dsimp only at hc;obtain⟨n,N1⟩:=sr A hf h1;obtain⟨m,M1⟩:=sr B hg h2;cases hm:kR f g with
     |error w=>rw[hm]at hc;cases hc
     |ok d=>
      rw[hm]at hc;obtain⟨h5,h6⟩:=bD hc;cases h6
      have e:=SI hm (qF N1.ev).2 (qF M1.ev).2;have LA:d.xL=[]:=List.eq_nil_of_length_eq_zero (by simpa using h5);rw[LA,gD]at e;have e:=am6 e;rw[ada e.symm,N1.eq,M1.eq];unfold fD;rw[N1.v,M1.v];rfl
  |none=>
   rw[hc]at hk;dsimp only at hk ⊢;cases he:m4 a b with
   |false=>rw[he]at hk;cases hk
   |true=>
    have:=Cg.1 he;subst this;rw[h1]at h2;cases h2
    rw[alF,cond_true];have:op=13\/op=14\/op=15:=by omega
    rcases this with rfl|rfl|rfl<;>rfl
theorem HW:∀(n:Nat)(e:an),SizeOf.sizeOf e<=n->Ev e->bn e=true->∀r,eK mem env e= .ok r->(fa e).2=true->(fa e).1=r
 |0,e,hn,_,_,_,_,_=>by cases e;simp at hn
 |n+1,e,hn,H,hc,r,hr,hk=>by
  rw[SA]at hk ⊢;rcases kc H.n hc with⟨a,ha,ho⟩|⟨a,b,ha,ho⟩|⟨a,b,ha,ho⟩
  ·rw[ha]at hk ⊢;dsimp only at hk ⊢;rw[ho,show((18:Int)==18)=true from rfl,cond_true]at hk ⊢;obtain⟨t,h1,rfl⟩:=Dz ha hr;have s1:=rF ha;dsimp only at hk ⊢;rw[hk,HW n a (by omega) (H.a1 ha) (H.k1 ha ho) t h1 hk];rfl
  ·rw[ha]at hk ⊢;dsimp only at hk ⊢;rw[show(e.aq==13||(e.aq==14||e.aq==15))=true by
     have:e.aq=13\/e.aq=14\/e.aq=15:=by omega
     rcases this with h|h|h<;>rw[h]<;>rfl,cond_true]at hk ⊢
   obtain⟨y,z,h1,h2,h3,rfl⟩:=Ip ha (by omega) hr;exact aav ho (H.a2 ha).1 (H.a2 ha).2 h1 h2 h3 hk
  ·rw[ha]at hk ⊢;dsimp only at hk ⊢;rw[show(e.aq==13||(e.aq==14||e.aq==15))=false by rcases ho with h|h<;>rw[h]<;>rfl,cond_false,show(e.aq==16||e.aq==17)=true by rcases ho with h|h<;>rw[h]<;>rfl,cond_true]at hk ⊢;obtain⟨s,t,h1,h2,rfl⟩:=Js ha (by omega) hr;have s2:=rQ ha;have a2:=H.a2 ha;have k2:=H.k2 ha ho;have i1:=HW n a (by omega) a2.1 k2.1 s h1;have i2:=HW n b (by omega) a2.2 k2.2 t h2;generalize fa a=p at hk i1 ⊢;generalize fa b=q at hk i2 ⊢;obtain⟨p1,p2⟩:=p;obtain⟨q1,q2⟩:=q;dsimp only at i1 i2 hk ⊢;rcases ho with h|h<;>rw[h]at hk ⊢
   ·cases p2<;>cases q2<;>cases p1<;>cases q1<;>cases s<;>cases t<;>simp at i1 i2 hk ⊢
   ·cases p2<;>cases q2<;>cases p1<;>cases q1<;>cases s<;>cases t<;>simp at i1 i2 hk ⊢
theorem LR{e:an}{r:Bool}(H:Ev e)(hc:bn e=true)(hr:eK mem env e= .ok r)(hk:(fa e).2=true):(fa e).1=r:=HW _ e (amY _) H hc r hr hk
end
section
variable {mem:anD bp} {env:anD bm} {e y:an} {x:aB×aF}
theorem Og{t:aF}{r:aB×Int}(h:ve t r=some y)(hx:x=(r.1,t)):bE mem env y= .ok x:=by
 rw[(xp h).1,Jp,hx]
theorem aj2(H:Ev e)(hc:bn e=false)(hx:bE mem env e= .ok x)(h:pY e=some y):bE mem env y= .ok x:=by
 unfold pY at h;rcases kd H.n hc with k|⟨a,ha,ho⟩|⟨a,ha,ho⟩|⟨a,b,ha,ho⟩|⟨c,a,b,ha,ho⟩
 ·rw[m9 H k]at h;cases h
 ·rw[ha]at h;obtain⟨h1,h2⟩:=bD h;rw[ho]at h1;cases h1
 ·rw[ha]at h;obtain⟨h1,h2⟩:=bD h;simp only[amP,beq_iff_eq]at h1;obtain⟨z,z1,z2,z3⟩:=qB ha ho hx;rw[qW h1.2]at z1;cases z1
  exact Og h2 z3
 ·rw[ha]at h;obtain⟨h1,h2⟩:=bD h;simp only[amP,beq_iff_eq]at h1;obtain⟨z,w,z1,z2,z3,z4,z5⟩:=qq ha (by omega) hx;rw[qW h1.2.1]at z1;rw[qW h1.2.2.1]at z2;cases z1;cases z2
  exact Og h2 z5
 ·rw[ha]at h;cases h
theorem acg(H:Ev e)(hc:bn e=false)(hx:bE mem env e= .ok x)(h:oU e=some y):bE mem env y= .ok x:=by
 unfold oU at h;rcases kd H.n hc with k|⟨a,ha,ho⟩|⟨a,ha,ho⟩|⟨a,b,ha,ho⟩|⟨c,a,b,ha,ho⟩
 ·rw[m9 H k]at h;cases h
 ·rw[ha]at h;obtain⟨h1,h2⟩:=bD h;obtain⟨z,z1,z2,z3⟩:=Ih ha ho hx;rcases dm h2 with⟨l1,l2⟩|⟨l1,l2⟩
  ·rw[qW (by simpa using l1)]at z1;cases z1
   exact Og l2 z3
  ·obtain⟨m1,m2⟩:=bD l2;cases m2
   rw[amP]at m1;have c1:=H.c1 ha (by omega) (by omega);have g:=nB (H.a1 ha) c1 z1;have e1:=(JB (H.a1 ha) c1 z1 m1.1).trans (By.1 m1.2);rw[z1,z3,<-e1,akU g.1 g.2]
 ·rw[ha]at h;obtain⟨h1,h2⟩:=bD h;rw[ho]at h1;cases h1
 ·rw[ha]at h;cases h
 ·rw[ha]at h;cases h
theorem BB{r:X aP}{s:Int}(h:kO r=some y)(hl:∀l,r= .ok l->dY l=true/\gD env l.xL l.xK.toInt=some s)(lo: -2147483647<=s)(hi:s<=2147483647)(hx:x=(⟨Int64.ofInt s,1⟩,lW)):bE mem env y= .ok x:=by
 obtain⟨l,h1,rfl⟩:=zK h;rw[akK (hl l h1).1 (hl l h1).2 lo hi,hx]
theorem E9{op:Int}{n m:Int64}{s:Int}(hn:b4 lW ⟨n,1⟩=true)(hm:b4 lW ⟨m,1⟩=true)(ho:op=4\/op=5\/op=6\/op=8)(hs:kK op n.toInt m.toInt=my s)(h:(cJ op lW ⟨n,1⟩ ⟨m,1⟩).2=0): -2147483647<=s/\s<=2147483647/\(cJ op lW ⟨n,1⟩ ⟨m,1⟩).1=⟨Int64.ofInt s,1⟩:=by
 rw[iK rfl hn hm (by omega),jK rfl]at h ⊢;show _/\_/\(kK op n.toInt m.toInt).1=_;have h':(kK op n.toInt m.toInt).2=0:=h;rw[hs]at h' ⊢;exact QD h'
theorem adj{op:Int}{a b:an}{z w:aB×aF}(ho:op=4\/op=5)(A:Ev a)(B:Ev b)(z1:bE mem env a= .ok z)(z2:bE mem env b= .ok w)(z4:(cJ op z.2 z.1 w.1).2=0)(z5:x=((cJ op z.2 z.1 w.1).1,z.2))(h:rX op a b=some y):bE mem env y= .ok x:=by
 unfold rX at h;cases hf:gX a with
 |none=>rw[hf]at h;cases h
 |some f=>
  cases hg:gX b with
  |none=>rw[hf,hg]at h;cases h
  |some g=>
   rw[hf,hg]at h;obtain⟨h1,h2⟩:=bD h;obtain⟨n,N1⟩:=sr A hf z1;obtain⟨m,M1⟩:=sr B hg z2;rw[N1.eq,M1.eq]at z4 z5;dsimp only at z4 z5;rcases ho with rfl|rfl
   ·obtain⟨lo,hi,e⟩:=E9 N1.v M1.v (by simp) (JM _ _) z4;rw[e]at z5;exact BB h2 (λl hl=>⟨N9 hl,TS hl (qF N1.ev).2 (qF M1.ev).2⟩) lo hi z5
   ·obtain⟨lo,hi,e⟩:=E9 N1.v M1.v (by simp) (yP _ _) z4;rw[e]at z5;exact BB h2 (λl hl=>⟨Sj hl,SI hl (qF N1.ev).2 (qF M1.ev).2⟩) lo hi z5
theorem Up{b:an}(h:qV b=true):gX b=some ⟨b.bg.xN,[]⟩:=by
 unfold qV at h;have h1:=h;rw[amP,beq_iff_eq]at h1;unfold gX;rw[h,h1.1];rfl
theorem Rf{a:an}(h:a.aq=2):gX a=some a.aM:=by unfold gX;rw[h];rfl
theorem ahl{a b:an}{z w:aB×aF}(A:Ev a)(B:Ev b)(z1:bE mem env a= .ok z)(z2:bE mem env b= .ok w)(z4:(cJ 6 z.2 z.1 w.1).2=0)(z5:x=((cJ 6 z.2 z.1 w.1).1,z.2))(h:tN a b=some y):bE mem env y= .ok x:=by
 unfold tN at h;rcases dm h with⟨l1,l2⟩|⟨l1,l2⟩
 ·rw[amP,beq_iff_eq]at l1;obtain⟨n,N1⟩:=sr A (Rf l1.1) z1;obtain⟨m,M1⟩:=sr B (Up l1.2) z2;have em:m=b.bg.xN:=by have:=M1.ev;rw[Qo]at this;exact(congrArg Prod.fst this).symm
  rw[N1.eq,M1.eq]at z4 z5;dsimp only at z4 z5;obtain⟨lo,hi,e⟩:=E9 N1.v M1.v (by simp) (AS _ _) z4;rw[e]at z5;exact BB l2 (λl hl=>⟨Au hl,by rw[GO hl (qF N1.ev).2,em]⟩) lo hi z5
 ·obtain⟨l1,l2⟩:=bD l2;rw[amP,beq_iff_eq]at l1;obtain⟨n,N1⟩:=sr A (Up l1.1) z1;obtain⟨m,M1⟩:=sr B (Rf l1.2) z2;have em:n=a.bg.xN:=by have:=N1.ev;rw[Qo]at this;exact(congrArg Prod.fst this).symm
  rw[N1.eq,M1.eq]at z4 z5;dsimp only at z4 z5;obtain⟨lo,hi,e⟩:=E9 N1.v M1.v (by simp) (AS _ _) z4;rw[e]at z5;exact BB l2 (λl hl=>⟨Au hl,by rw[GO hl (qF M1.ev).2,em,Int.mul_comm]⟩) lo hi z5
theorem ajF(H:Ev e)(hc:bn e=false)(hx:bE mem env e= .ok x)(h:pF e=some y):bE mem env y= .ok x:=by
 unfold pF at h;cases h2:e.aq==2 with
 |true=>
  rw[h2,cond_true]at h;obtain⟨h3,h4⟩:=bD h;cases h4
  obtain⟨n,N1⟩:=YH (by simpa using h2) hx;rw[amP]at h3;have e1:=(qF N1.ev).2;have LA:e.aM.xL=[]:=List.eq_nil_of_length_eq_zero (by simpa using h3.1);rw[LA,gD]at e1;have e2:e.aM.xK=n:=Int64.toInt_inj.1 (am6 e1);rw[Jp,N1.eq,e2];rfl
 |false=>
  rw[h2,cond_false]at h;rcases kd H.n hc with k|⟨a,ha,ho⟩|⟨a,ha,ho⟩|⟨a,b,ha,ho⟩|⟨c,a,b,ha,ho⟩
  ·rw[m9 H k]at h;cases h
  ·rw[ha]at h;obtain⟨h1,_⟩:=bD h;rw[ho]at h1;cases h1
  ·rw[ha]at h;obtain⟨h1,h3⟩:=bD h;rw[amP,beq_iff_eq,beq_iff_eq]at h1;obtain⟨z,z1,z2,z3⟩:=qB ha ho hx;obtain⟨n,N1⟩:=sr (H.a1 ha) (Rf h1.2) z1;rw[N1.eq]at z2 z3;dsimp only at z2 z3;obtain⟨lo,hi,e1⟩:=E9 N1.v N1.v (by simp) (JK _ _) z2;rw[e1]at z3;exact BB h3 (λl hl=>⟨Au hl,by rw[GO hl (qF N1.ev).2,show(-1:Int64).toInt= -1 from rfl];congr 1;omega⟩) lo hi z3
  ·rw[ha]at h;obtain⟨z,w,z1,z2,z3,z4,z5⟩:=qq ha (by omega) hx;have a2:=H.a2 ha;rcases dm h with⟨l1,l2⟩|⟨l1,l2⟩
   ·rw[Bool.or_eq_true,beq_iff_eq,beq_iff_eq]at l1;exact adj l1 a2.1 a2.2 z1 z2 z4 z5 l2
   ·obtain⟨m1,m2⟩:=bD l2;rw[beq_iff_eq]at m1;rw[m1]at z4 z5;exact ahl a2.1 a2.2 z1 z2 z4 z5 m2
  ·rw[ha]at h;cases h
theorem ak9(H:Ev e)(hc:bn e=false)(hx:bE mem env e= .ok x)(h:pR e=some y):bE mem env y= .ok x:=by
 unfold pR at h;rcases kd H.n hc with k|⟨a,ha,ho⟩|⟨a,ha,ho⟩|⟨a,b,ha,ho⟩|⟨c,a,b,ha,ho⟩
 ·rw[m9 H k]at h;cases h
 ·rw[ha]at h;cases h
 ·rw[ha]at h;cases h
 ·rw[ha]at h;cases h
 ·rw[ha]at h;obtain⟨h1,h2⟩:=bD h;rw[amP]at h1;obtain⟨t,t1,t2⟩:=z8 ha (by omega) hx;have:=LR (H.a3 ha).1 (H.c3 ha ho).1 t1 h1.2;rw[this]at h2;cases h2
  cases t<;>exact t2
theorem abt{op:Int}{t:aF}{v:aB}(ht:b9 t=true)(hv:b4 t v=true)(ho:op=9\/op=10):cJ op t v v=(v,0):=by
 unfold cJ;rw[ht,hv];rcases ho with rfl|rfl
 ·show((bif decide (fD t v v>0)then v else v),(0:Int))=_;cases decide (fD t v v>0)<;>rfl
 ·show((bif decide (fD t v v<0)then v else v),(0:Int))=_;cases decide (fD t v v<0)<;>rfl
theorem abI(H:Ev e)(hc:bn e=false)(hx:bE mem env e= .ok x)(h:ot e=some y):bE mem env y= .ok x:=by
 unfold ot at h;rcases kd H.n hc with k|⟨a,ha,ho⟩|⟨a,ha,ho⟩|⟨a,b,ha,ho⟩|⟨c,a,b,ha,ho⟩
 ·rw[m9 H k]at h;cases h
 ·rw[ha]at h;cases h
 ·rw[ha]at h;cases h
 ·rw[ha]at h;obtain⟨h1,h2⟩:=bD h;cases h2
  rw[amP]at h1;have he:=Cg.1 h1.2;subst he;obtain⟨z,w,z1,z2,z3,z4,z5⟩:=qq ha (by omega) hx;rw[z1]at z2;cases z2
  have g:=nB (H.a2 ha).1 (H.c2 ha (by omega) (by omega)).1 z1;have ho9:e.aq=9\/e.aq=10:=by
   have:=h1.1;simp only[Bool.or_eq_true,beq_iff_eq]at this;omega
  rw[z1,z5,abt g.1 g.2 ho9]
 ·rw[ha]at h;obtain⟨h1,h2⟩:=bD h;cases h2
  rw[amP]at h1;have he:=Cg.1 h1.2;subst he;obtain⟨t,t1,t2⟩:=z8 ha (by omega) hx;cases t<;>exact t2
theorem vV{b:an}{w:aB×aF}(h:jh b=true)(B:Ev b)(hw:bE mem env b= .ok w):w.1=⟨0,1⟩:=by
 unfold jh at h;rw[amP,beq_iff_eq,I0]at h;rw[qW h.1]at hw;cases hw
 show b.bg=_;rw[h.2];unfold tn;rw[(B.n.lit h.1).1];rfl
theorem Rh{b:an}{w:aB×aF}(h:nS b=true)(hw:bE mem env b= .ok w):(fM w.2).2=0/\w.1=(fM w.2).1:=by
 unfold nS at h;rw[amP,amP,beq_iff_eq,beq_iff_eq,I0]at h;rw[qW h.1]at hw;cases hw
 exact h.2
theorem ah1(H:Ev e)(hc:bn e=false)(hx:bE mem env e= .ok x)(h:oS e=some y):bE mem env y= .ok x:=by
 unfold oS at h;rcases kd H.n hc with k|⟨a,ha,ho⟩|⟨a,ha,ho⟩|⟨a,b,ha,ho⟩|⟨c,a,b,ha,ho⟩
 ·rw[m9 H k]at h;cases h
 ·rw[ha]at h;cases h
 ·rw[ha]at h;cases h
 ·rw[ha]at h;dsimp only at h;obtain⟨⟨zv,zt⟩,⟨wv,wt⟩,z1,z2,z3,z4,z5⟩:=qq ha (by omega) hx;have a2:=H.a2 ha;have c2:=H.c2 ha (by omega) (by omega);have g1:=nB a2.1 c2.1 z1;have g2:=nB a2.2 c2.2 z2;dsimp only at z3 z4 z5 g1 g2;subst z3;rcases dm h with⟨l1,l2⟩|⟨l1,l2⟩
  ·rw[beq_iff_eq]at l1;rw[l1]at z4 z5;rcases dm l2 with⟨m1,m2⟩|⟨m1,m2⟩
   ·cases m2
    have q:wv=_:=vV m1 a2.2 z2;rw[q,aiu g1.1 g1.2]at z5;rw[z1,z5]
   ·obtain⟨p1,p2⟩:=bD m2;cases p2
    have q:zv=_:=vV p1 a2.1 z1;rw[q,aie g2.1 g2.2]at z5;rw[z2,z5]
  ·rcases dm l2 with⟨k1,k2⟩|⟨k1,k2⟩
   ·rw[beq_iff_eq]at k1;rw[k1]at z4 z5;rcases dm k2 with⟨m1,m2⟩|⟨m1,m2⟩
    ·cases m2
     have q:wv=_:=vV m1 a2.2 z2;rw[q,akp g1.1 g1.2]at z5;rw[z1,z5]
    ·obtain⟨p1,p2⟩:=bD m2;cases p2
     have q:zv=_:=vV p1 a2.1 z1;rw[q,aic g2.1 g2.2]at z4 z5;rw[alG (e:=cu 8 [b]) rfl rfl z2];dsimp only;rw[GD z4,z5]
   ·rcases dm k2 with⟨j1,j2⟩|⟨j1,j2⟩
    ·rw[beq_iff_eq]at j1;rw[j1]at z4 z5;rcases dm j2 with⟨m1,m2⟩|⟨m1,m2⟩
     ·cases m2
      have q:wv=_:=vV m1 a2.2 z2;rw[q,afZ g1.1 g1.2]at z5;rw[z2,z5,q]
     ·obtain⟨p1,p2⟩:=bD m2;cases p2
      have q:zv=_:=vV p1 a2.1 z1;rw[q,ac7 g2.1 g2.2]at z5;rw[z1,z5,q]
    ·obtain⟨j1,j2⟩:=bD j2;rw[beq_iff_eq]at j1;rw[j1]at z4 z5;obtain⟨p1,p2⟩:=bD j2;cases p2
     have q:zv=_:=vV p1 a2.1 z1;rw[q]at z4;rw[q,ac9 g2.1 g2.2 z4]at z5;rw[z1,z5,q]
 ·rw[ha]at h;cases h
theorem akm(H:Ev e)(hc:bn e=false)(hx:bE mem env e= .ok x)(h:pz e=some y):bE mem env y= .ok x:=by
 unfold pz at h;rcases kd H.n hc with k|⟨a,ha,ho⟩|⟨a,ha,ho⟩|⟨a,b,ha,ho⟩|⟨c,a,b,ha,ho⟩
 ·rw[m9 H k]at h;cases h
 ·rw[ha]at h;cases h
 ·rw[ha]at h;cases h
 ·rw[ha]at h;dsimp only at h;obtain⟨⟨zv,zt⟩,⟨wv,wt⟩,z1,z2,z3,z4,z5⟩:=qq ha (by omega) hx;have a2:=H.a2 ha;have c2:=H.c2 ha (by omega) (by omega);have g1:=nB a2.1 c2.1 z1;have g2:=nB a2.2 c2.2 z2;dsimp only at z3 z4 z5 g1 g2;subst z3;rcases dm h with⟨l1,l2⟩|⟨l1,l2⟩
  ·rw[beq_iff_eq]at l1;rw[l1]at z4 z5;rcases dm l2 with⟨m1,m2⟩|⟨m1,m2⟩
   ·cases m2
    obtain⟨q1,q2⟩:=Rh m1 z2;dsimp only at q1 q2;rw[q2,ach g1.1 g1.2 q1]at z5;rw[z1,z5]
   ·obtain⟨p1,p2⟩:=bD m2;cases p2
    obtain⟨q1,q2⟩:=Rh p1 z1;dsimp only at q1 q2;rw[q2,abP g2.1 g2.2 q1]at z5;rw[z2,z5]
  ·obtain⟨j1,j2⟩:=bD l2;rw[beq_iff_eq]at j1;rw[j1]at z4 z5;obtain⟨p1,p2⟩:=bD j2;cases p2
   obtain⟨q1,q2⟩:=Rh p1 z2;dsimp only at q1 q2;rw[q2,ajW g1.1 g1.2 q1]at z5;rw[z1,z5]
 ·rw[ha]at h;cases h
theorem ai1{k:Kn}(H:Ev e)(hc:bn e=false)(hx:bE mem env e= .ok x)(hk:k.cW=true->x.2=k.yT)(h:pQ e k=some y):bE mem env y= .ok x:=by
 unfold pQ at h;rcases kd H.n hc with j|⟨a,ha,ho⟩|⟨a,ha,ho⟩|⟨a,b,ha,ho⟩|⟨c,a,b,ha,ho⟩
 ·rw[m9 H j]at h;cases h
 ·rw[ha]at h;cases h
 ·rw[ha]at h;cases h
 ·rw[ha]at h;dsimp only at h;obtain⟨h1,h2⟩:=bD h;rw[amP,amP]at h1;have he:=Cg.1 h1.2.2;subst he;have eW:=hk h1.2.1;obtain⟨⟨zv,zt⟩,w,z1,z2,z3,z4,z5⟩:=qq ha (by omega) hx;rw[z1]at z2;cases z2
  have g:=nB (H.a2 ha).1 (H.c2 ha (by omega) (by omega)).1 z1;dsimp only at z4 z5 g;rw[z5]at eW;dsimp only at eW;rw[<-eW]at h2;rcases dm h2 with⟨l1,l2⟩|⟨l1,l2⟩
  ·cases l2
   rw[beq_iff_eq]at l1;rw[l1,ahY g.1 g.2]at z5;rw[Jp,z5];unfold tn;rw[g.1];rfl
  ·obtain⟨m1,m2⟩:=bD l2;cases m2
   rw[amP,Bool.not_eq_true',beq_eq_false_iff_ne,beq_iff_eq]at m1;have h7:e.aq=7:=by
     have:=h1.1;rw[Bool.or_eq_true,beq_iff_eq,beq_iff_eq]at this;rw[beq_eq_false_iff_ne]at l1;omega
   rw[h7]at z4 z5;rw[aaB g.1 g.2 m1.1 m1.2 z4]at z5;rw[Jp,z5]
 ·rw[ha]at h;cases h
theorem u6{a:an}(H:Ev a)(h:a.aq=8):∃c,a.aw=[c]:=by
 have:=H.n.AJ;unfold iY at this;rw[h]at this;obtain⟨c,hc⟩:=Du (l:=a.aw) this;exact⟨c,hc⟩
theorem ad3{k:Kn}(H:Ev e)(hc:bn e=false)(hx:bE mem env e= .ok x)(hk:k.cW=true->x.2=k.yT)(h:po e k=some y):bE mem env y= .ok x:=by
 unfold po at h;obtain⟨h0,h⟩:=bD h;rw[amP]at h0;have eW:=hk h0.1;have hw:x.2.aL≠2\/x.2.bK=2:=by
  rw[eW];have:=h0.2;rw[Bool.or_eq_true,Bool.not_eq_true',beq_eq_false_iff_ne,beq_iff_eq]at this;exact this
 rcases kd H.n hc with j|⟨a,ha,ho⟩|⟨a,ha,ho⟩|⟨a,b,ha,ho⟩|⟨c,a,b,ha,ho⟩
 ·rw[m9 H j]at h;cases h
 ·rw[ha]at h;obtain⟨h1,_⟩:=bD h;rw[ho]at h1;cases h1
 ·rw[ha]at h;obtain⟨h1,h2⟩:=bD h;rw[amP,beq_iff_eq,beq_iff_eq]at h1;obtain⟨⟨zv,zt⟩,z1,z2,z3⟩:=qB ha ho hx;have A:=H.a1 ha;obtain⟨c,eP⟩:=u6 A h1.2;rw[eP]at h2;cases h2
  obtain⟨⟨wv,wt⟩,w1,w2,w3⟩:=qB eP h1.2 z1;cases w3
  dsimp only at z2 z3 w2;have g:=nB (A.a1 eP) (A.c1 eP (by omega) (by omega)) w1;rw[z3]at hw;have q:cJ 8 wt wv wv=((cJ 8 wt wv wv).1,0):=Prod.ext rfl w2;rw[w1,z3,adt g.1 g.2 hw q]
 ·rw[ha]at h;dsimp only at h;obtain⟨⟨zv,zt⟩,⟨wv,wt⟩,z1,z2,z3,z4,z5⟩:=qq ha (by omega) hx;have a2:=H.a2 ha;have c2:=H.c2 ha (by omega) (by omega);have g1:=nB a2.1 c2.1 z1;have g2:=nB a2.2 c2.2 z2;dsimp only at z3 z4 z5 g1 g2;subst z3;rw[z5]at hw;dsimp only at hw;rcases dm h with⟨l1,l2⟩|⟨l1,l2⟩
  ·rw[beq_iff_eq]at l1;rw[l1]at z4 z5;rcases dm l2 with⟨m1,m2⟩|⟨m1,m2⟩
   ·rw[beq_iff_eq]at m1;obtain⟨c,eP⟩:=u6 a2.2 m1;rw[eP]at m2;cases m2
    obtain⟨⟨uv,ut⟩,u1,u2,u3⟩:=qB eP m1 z2;cases u3
    dsimp only at u2;have g3:=nB (a2.2.a1 eP) (a2.2.c1 eP (by omega) (by omega)) u1;have q:cJ 8 ut uv uv=((cJ 8 ut uv uv).1,0):=Prod.ext rfl u2;have e1:=amo g1.1 g1.2 g3.2 hw q;dsimp only at e1;rw[OS (e:=cu 5 [a,c]) rfl (by show ¬(5:Int)<=3;decide) z1 u1 rfl];dsimp only;show jy _ (cJ 5 _ zv uv)=_;rw[e1,GD z4,z5]
   ·obtain⟨m1,m2⟩:=bD m2;rw[beq_iff_eq]at m1;obtain⟨c,eP⟩:=u6 a2.1 m1;rw[eP]at m2;cases m2
    obtain⟨⟨uv,ut⟩,u1,u2,u3⟩:=qB eP m1 z1;cases u3
    dsimp only at u2;have g3:=nB (a2.1.a1 eP) (a2.1.c1 eP (by omega) (by omega)) u1;have q:cJ 8 ut uv uv=((cJ 8 ut uv uv).1,0):=Prod.ext rfl u2;have e1:=amr g3.1 g3.2 g2.2 hw q;rw[OS (e:=cu 5 [b,c]) rfl (by show ¬(5:Int)<=3;decide) z2 u1 rfl];dsimp only;show jy _ (cJ 5 _ wv uv)=_;rw[e1,GD z4,z5]
  ·obtain⟨m1,m2⟩:=bD l2;rw[amP,beq_iff_eq,beq_iff_eq]at m1;rw[m1.1]at z4 z5;obtain⟨c,eP⟩:=u6 a2.2 m1.2;rw[eP]at m2;cases m2
   obtain⟨⟨uv,ut⟩,u1,u2,u3⟩:=qB eP m1.2 z2;cases u3
   dsimp only at u2;have g3:=nB (a2.2.a1 eP) (a2.2.c1 eP (by omega) (by omega)) u1;have q:cJ 8 ut uv uv=((cJ 8 ut uv uv).1,0):=Prod.ext rfl u2;have e1:=amq g1.1 g1.2 g3.2 hw q;rw[OS (e:=cu 4 [a,c]) rfl (by show ¬(4:Int)<=3;decide) z1 u1 rfl];dsimp only;show jy _ (cJ 4 _ zv uv)=_;rw[e1,GD z4,z5]
 ·rw[ha]at h;cases h
theorem Jt{a:an}(H:Ev a)(h:a.aq=18):∃c,a.aw=[c]:=by
 have:=H.n.AJ;unfold iY at this;rw[h]at this;obtain⟨c,hc⟩:=Du (l:=a.aw) this;exact⟨c,hc⟩
theorem J1{a:an}(H:Ev a)(h:a.aq=13\/a.aq=14):∃c d,a.aw=[c,d]:=by
 have:=H.n.AJ;unfold iY at this;rcases h with h|h
 ·rw[h]at this;exact Kb (l:=a.aw) this
 ·rw[h]at this;exact Kb (l:=a.aw) this
theorem aiw(H:Ev e)(hc:bn e=false)(hx:bE mem env e= .ok x)(h:n8 e=some y):bE mem env y= .ok x:=by
 unfold n8 at h;rcases kd H.n hc with k|⟨a,ha,ho⟩|⟨a,ha,ho⟩|⟨a,b,ha,ho⟩|⟨c,a,b,ha,ho⟩
 ·rw[m9 H k]at h;cases h
 ·rw[ha]at h;obtain⟨h1,_⟩:=bD h;rw[ho]at h1;cases h1
 ·rw[ha]at h;obtain⟨h1,_⟩:=bD h;rw[ho]at h1;cases h1
 ·rw[ha]at h;cases h
 ·rw[ha]at h;obtain⟨h1,h2⟩:=bD h;rw[amP,beq_iff_eq,beq_iff_eq]at h1;obtain⟨d,hd⟩:=Jt (H.a3 ha).1 h1.2;rw[hd]at h2;cases h2
  obtain⟨t,t1,t2⟩:=z8 ha (by omega) hx;obtain⟨u,u1,rfl⟩:=Dz hd t1;rw[wA (e:=cu 11 [d,b,a]) (by show ¬(11:Int)<=3;decide) rfl,u1];show(bif u then bE mem env b else bE mem env a)=_;cases u<;>exact t2
theorem Z6{r:Bool}(H:Ev e)(hc:bn e=true)(hr:eK mem env e= .ok r)(h:n8 e=some y):eK mem env y= .ok r:=by
 unfold n8 at h;rcases kc H.n hc with⟨a,ha,ho⟩|⟨a,b,ha,ho⟩|⟨a,b,ha,ho⟩
 ·rw[ha]at h;obtain⟨_,h⟩:=bD h;obtain⟨t,t1,rfl⟩:=Dz ha hr;have A:=H.a1 ha;rcases dm h with⟨l1,l2⟩|⟨l1,l2⟩
  ·rw[beq_iff_eq]at l1;obtain⟨d,hd⟩:=Jt A l1;rw[hd]at l2;cases l2
   obtain⟨u,u1,rfl⟩:=Dz hd t1;rw[u1,Bool.not_not]
  ·rcases dm l2 with⟨m1,m2⟩|⟨m1,m2⟩
   ·rw[beq_iff_eq]at m1;obtain⟨c,d,hd⟩:=J1 A (.inl m1);rw[hd]at m2;cases m2
    obtain⟨⟨zv,zt⟩,⟨wv,wt⟩,z1,z2,z3,z4⟩:=Ip hd (by omega) t1;dsimp only at z3 z4;subst z3;rw[mV (e:=cu 14 [d,c]) rfl,z1,z2];show(bif jH zt zt then _ else _)=_;rw[D7.2 rfl,cond_true,z4,m1];show Except.ok (qZ 14 (fD zt wv zv))=_;rw[Po];unfold qZ;show Except.ok (decide (-fD zt zv wv<=0))=Except.ok (!decide (fD zt zv wv<0))
    congr 1
    by_cases q:fD zt zv wv<0
    ·rw[anv q,anw (by omega)];rfl
    ·rw[anw q,anv (by omega)];rfl
   ·obtain⟨m1,m2⟩:=bD m2;rw[beq_iff_eq]at m1;obtain⟨c,d,hd⟩:=J1 A (.inr m1);rw[hd]at m2;cases m2
    obtain⟨⟨zv,zt⟩,⟨wv,wt⟩,z1,z2,z3,z4⟩:=Ip hd (by omega) t1;dsimp only at z3 z4;subst z3;rw[mV (e:=cu 13 [d,c]) rfl,z1,z2];show(bif jH zt zt then _ else _)=_;rw[D7.2 rfl,cond_true,z4,m1];show Except.ok (qZ 13 (fD zt wv zv))=_;rw[Po];unfold qZ;show Except.ok (decide (-fD zt zv wv<0))=Except.ok (!decide (fD zt zv wv<=0))
    congr 1
    by_cases q:fD zt zv wv<=0
    ·rw[anv q,anw (by omega)];rfl
    ·rw[anw q,anv (by omega)];rfl
 ·rw[ha]at h;cases h
 ·rw[ha]at h;cases h
theorem aj7{r:Bool}(H:Ev e)(hc:bn e=true)(hr:eK mem env e= .ok r)(h:pM e=some y):eK mem env y= .ok r:=by
 unfold pM at h;rcases kc H.n hc with⟨a,ha,ho⟩|⟨a,b,ha,ho⟩|⟨a,b,ha,ho⟩
 ·rw[ha]at h;cases h
 ·rw[ha]at h;obtain⟨h1,_⟩:=bD h;rw[Bool.or_eq_true,beq_iff_eq,beq_iff_eq]at h1;omega
 ·rw[ha]at h;obtain⟨_,h⟩:=bD h;obtain⟨s,t,s1,t1,rfl⟩:=Js ha (by omega) hr;have a2:=H.a2 ha;have k2:=H.k2 ha ho;rcases dm h with⟨l1,l2⟩|⟨l1,l2⟩
  ·cases l2
   rw[amP,beq_iff_eq]at l1;rw[LR a2.1 k2.1 s1 l1.1]at l1;rw[t1,l1.2];cases e.aq==16<;>rfl
  ·obtain⟨p1,p2⟩:=bD l2;cases p2
   rw[amP,beq_iff_eq]at p1;rw[LR a2.2 k2.2 t1 p1.1]at p1;rw[s1,p1.2];cases e.aq==16<;>cases s<;>rfl
theorem aeb{r:Bool}(H:Ev e)(hc:bn e=true)(hr:eK mem env e= .ok r)(h:ot e=some y):eK mem env y= .ok r:=by
 unfold ot at h;rcases kc H.n hc with⟨a,ha,ho⟩|⟨a,b,ha,ho⟩|⟨a,b,ha,ho⟩
 ·rw[ha]at h;cases h
 ·rw[ha]at h;obtain⟨h1,_⟩:=bD h;simp only[amP,Bool.or_eq_true,beq_iff_eq]at h1;omega
 ·rw[ha]at h;obtain⟨h1,h2⟩:=bD h;cases h2
  rw[amP]at h1;have he:=Cg.1 h1.2;subst he;obtain⟨s,t,s1,t1,rfl⟩:=Js ha (by omega) hr;rw[s1]at t1;cases t1
  rw[s1];cases e.aq==16<;>cases s<;>rfl
theorem aaz{k:Kn}{s:anE}(H:Ev e)(hc:bn e=false)(hx:bE mem env e= .ok x)(hk:k.cW=true->x.2=k.yT)(h:jo e k=some (y,s)):bE mem env y= .ok x:=by
 unfold jo at h;rcases dJ h with⟨h,_⟩|h
 ·exact aj2 H hc hx h
 rcases dJ h with⟨h,_⟩|h
 ·exact acg H hc hx h
 rcases dJ h with⟨h,_⟩|h
 ·exact ajF H hc hx h
 rcases dJ h with⟨h,_⟩|h
 ·exact ak9 H hc hx h
 rcases dJ h with⟨h,_⟩|h
 ·exact abI H hc hx h
 rcases dJ h with⟨h,_⟩|h
 ·exact ah1 H hc hx h
 rcases dJ h with⟨h,_⟩|h
 ·exact akm H hc hx h
 rcases dJ h with⟨h,_⟩|h
 ·exact ai1 H hc hx hk h
 rcases dJ h with⟨h,_⟩|h
 ·exact ad3 H hc hx hk h
 rcases dJ h with⟨h,_⟩|h
 ·exact aiw H hc hx h
 rcases dJ h with⟨h,_⟩|h
 ·unfold pM at h;rcases kd H.n hc with k|⟨a,ha,ho⟩|⟨a,ha,ho⟩|⟨a,b,ha,ho⟩|⟨c,a,b,ha,ho⟩
  ·rw[m9 H k]at h;cases h
  ·rw[ha]at h;cases h
  ·rw[ha]at h;cases h
  ·rw[ha]at h;obtain⟨h1,_⟩:=bD h;rw[Bool.or_eq_true,beq_iff_eq,beq_iff_eq]at h1;omega
  ·rw[ha]at h;cases h
 ·cases h
theorem afC{k:Kn}{s:anE}{r:Bool}(H:Ev e)(hc:bn e=true)(hr:eK mem env e= .ok r)(h:jo e k=some (y,s)):eK mem env y= .ok r:=by
 have sh:=kc H.n hc;have ge:13<=e.aq:=by have:=QB H.n;rw[hc]at this;simpa using this.symm
 have no (n:Int) (hn:n<13):(e.aq==n)=false:=by rw[beq_eq_false_iff_ne];omega
 have ar:oT e.aq=false:=by unfold oT;rw[no 4,no 5,no 6,no 7,no 9,no 10]<;>first|rfl|decide
 unfold jo at h;rcases dJ h with⟨h,_⟩|h
 ·unfold pY at h;rcases sh with⟨a,ha,ho⟩|⟨a,b,ha,ho⟩|⟨a,b,ha,ho⟩
  ·rw[ha,no 8 (by decide)]at h;cases h
  ·rw[ha,ar]at h;cases h
  ·rw[ha,ar]at h;cases h
 rcases dJ h with⟨h,_⟩|h
 ·unfold oU at h;rcases sh with⟨a,ha,ho⟩|⟨a,b,ha,ho⟩|⟨a,b,ha,ho⟩
  ·rw[ha,no 12 (by decide)]at h;cases h
  ·rw[ha]at h;cases h
  ·rw[ha]at h;cases h
 rcases dJ h with⟨h,_⟩|h
 ·unfold pF at h;rw[no 2 (by decide),cond_false]at h;rcases sh with⟨a,ha,ho⟩|⟨a,b,ha,ho⟩|⟨a,b,ha,ho⟩
  ·rw[ha,no 8 (by decide)]at h;cases h
  ·rw[ha,no 4 (by decide),no 5 (by decide),no 6 (by decide)]at h;cases h
  ·rw[ha,no 4 (by decide),no 5 (by decide),no 6 (by decide)]at h;cases h
 rcases dJ h with⟨h,_⟩|h
 ·unfold pR at h;rcases sh with⟨a,ha,ho⟩|⟨a,b,ha,ho⟩|⟨a,b,ha,ho⟩<;>rw[ha]at h<;>cases h
 rcases dJ h with⟨h,_⟩|h
 ·exact aeb H hc hr h
 rcases dJ h with⟨h,_⟩|h
 ·unfold oS at h;rcases sh with⟨a,ha,ho⟩|⟨a,b,ha,ho⟩|⟨a,b,ha,ho⟩
  ·rw[ha]at h;cases h
  ·rw[ha,no 4 (by decide),no 5 (by decide),no 6 (by decide),no 7 (by decide)]at h;cases h
  ·rw[ha,no 4 (by decide),no 5 (by decide),no 6 (by decide),no 7 (by decide)]at h;cases h
 rcases dJ h with⟨h,_⟩|h
 ·unfold pz at h;rcases sh with⟨a,ha,ho⟩|⟨a,b,ha,ho⟩|⟨a,b,ha,ho⟩
  ·rw[ha]at h;cases h
  ·rw[ha,no 6 (by decide),no 7 (by decide)]at h;cases h
  ·rw[ha,no 6 (by decide),no 7 (by decide)]at h;cases h
 rcases dJ h with⟨h,_⟩|h
 ·unfold pQ at h;rcases sh with⟨a,ha,ho⟩|⟨a,b,ha,ho⟩|⟨a,b,ha,ho⟩
  ·rw[ha]at h;cases h
  ·rw[ha,no 5 (by decide),no 7 (by decide)]at h;cases h
  ·rw[ha,no 5 (by decide),no 7 (by decide)]at h;cases h
 rcases dJ h with⟨h,_⟩|h
 ·unfold po at h;obtain⟨_,h⟩:=bD h;rcases sh with⟨a,ha,ho⟩|⟨a,b,ha,ho⟩|⟨a,b,ha,ho⟩
  ·rw[ha,no 8 (by decide)]at h;cases h
  ·rw[ha,no 4 (by decide),no 5 (by decide)]at h;cases h
  ·rw[ha,no 4 (by decide),no 5 (by decide)]at h;cases h
 rcases dJ h with⟨h,_⟩|h
 ·exact Z6 H hc hr h
 rcases dJ h with⟨h,_⟩|h
 ·exact aj7 H hc hr h
 ·cases h
end
theorem Pm{α:Type}{a x:α}{j:Nat}(h: [a][j]?=some x):j=0/\x=a:=by
 match j,h with
 |0,h=>exact⟨rfl,(am6 h).symm⟩
 |_+1,h=>simp at h
theorem Nu{α:Type}{a b x:α}{j:Nat}(h: [a,b][j]?=some x):(j=0/\x=a)\/(j=1/\x=b):=by
 match j,h with
 |0,h=>exact .inl ⟨rfl,(am6 h).symm⟩
 |1,h=>exact .inr ⟨rfl,(am6 h).symm⟩
 |_+2,h=>simp at h
theorem ahW{α:Type}{a b c x:α}{j:Nat}(h: [a,b,c][j]?=some x):(j=0/\x=a)\/(j=1/\x=b)\/(j=2/\x=c):=by
 match j,h with
 |0,h=>exact .inl ⟨rfl,(am6 h).symm⟩
 |1,h=>exact .inr (.inl ⟨rfl,(am6 h).symm⟩)
 |2,h=>exact .inr (.inr ⟨rfl,(am6 h).symm⟩)
 |_+3,h=>simp at h
theorem afc{e a:an}(k:Kn)(i:Nat)(ha:e.aw=[a])(ho:e.aq=12):jF e k i=da a:=by unfold jF;rw[ho,ha];rfl
theorem afq{e:an}(k:Kn)(i:Nat)(ho:e.aq=8):jF e k i=k:=by unfold jF;rw[ho];rfl
theorem adf{e:an}(k:Kn)(i:Nat)(ho:4<=e.aq/\e.aq<=10/\e.aq≠8):jF e k i=k:=by
 have:e.aq=4\/e.aq=5\/e.aq=6\/e.aq=7\/e.aq=9\/e.aq=10:=by omega
 unfold jF;rcases this with h|h|h|h|h|h<;>rw[h]<;>rfl
theorem Tj{e:an}(k:Kn)(i:Nat)(ho:e.aq=11):jF e k (i+1)=k:=by unfold jF;rw[ho];rfl
theorem ahx{e a b:an}(k:Kn)(i:Nat)(ha:e.aw=[a,b])(ho:13<=e.aq/\e.aq<=15):jF e k i=u7 a b:=by
 have:e.aq=13\/e.aq=14\/e.aq=15:=by omega
 unfold jF;rcases this with h|h|h<;>rw[h,ha]<;>rfl
section
variable {mem:anD bp} {env:anD bm}
theorem ahA{a b:an}{y z:aB×aF}(A:Ev a)(B:Ev b)(ca:bn a=false)(cb:bn b=false)(h1:bE mem env a= .ok y)(h2:bE mem env b= .ok z)(ht:y.2=z.2)(hk:(u7 a b).cW=true):y.2=(u7 a b).yT:=by
 unfold u7 at hk ⊢;cases hd:(da a).cW with
 |true=>rw[cond_true];exact JB A ca h1 hd
 |false=>
  rw[hd,cond_false]at hk;rw[cond_false,ht];exact JB B cb h2 hk
theorem nG:∀(n:Nat)(e:an),SizeOf.sizeOf e<=n->Ev e->
 (bn e=false->∀(k:Kn)(x:aB×aF)(y:an)(s:anE),(k.cW=true->x.2=k.yT)->bE mem env e= .ok x->lv e k=some (y,s)->bE mem env y= .ok x)/\
 (bn e=true->∀(k:Kn)(r:Bool)(y:an)(s:anE),eK mem env e= .ok r->lv e k=some (y,s)->eK mem env y= .ok r)
 |0,e,hn,_=>by cases e;simp at hn
 |n+1,e,hn,H=>by
  refine⟨λhc k x y s hk hx h=> ?_,λhc k r y s hr h=> ?_⟩
  ·rw[CD]at h;cases mj:jo e k with
   |some q=>
    rw[mj]at h;have h:some q=some (y,s):=h;cases h
    exact aaz H hc hx hk mj
   |none=>
    rw[mj]at h;obtain⟨j,a',y',h1,h2,rfl⟩:=wj e.aw 0 rfl h;rcases kd H.n hc with k0|⟨a,ha,ho⟩|⟨a,ha,ho⟩|⟨a,b,ha,ho⟩|⟨c,a,b,ha,ho⟩
    ·rw[m9 H k0]at h1;simp at h1
    ·rw[ha]at h1;obtain⟨rfl,rfl⟩:=Pm h1;have s1:=rF ha;obtain⟨z,z1,z2,z3⟩:=Ih ha ho hx;rw[afc k 0 ha ho]at h2;have c1:=H.c1 ha (by omega) (by omega);have e1:=((nG n a' (by omega) (H.a1 ha)).1 c1 _ z y' s (λq=>JB (H.a1 ha) c1 z1 q) z1 h2);have hp:(et e 0 y').aw=[y']:=by show e.aw.set 0 y'=_;rw[ha];rfl
     rw[o6 (by omega) ha,z1]at hx;rw[o6 (e:=et e 0 y') (by show ¬e.aq<=3;omega) hp,e1];exact hx
    ·rw[ha]at h1;obtain⟨rfl,rfl⟩:=Pm h1;have s1:=rF ha;obtain⟨z,z1,z2,z3⟩:=qB ha ho hx;rw[afq k 0 ho]at h2;have c1:=H.c1 ha (by omega) (by omega);have e1:=((nG n a' (by omega) (H.a1 ha)).1 c1 k z y' s (λq=>by rw[<-hk q,z3]) z1 h2);have hp:(et e 0 y').aw=[y']:=by show e.aw.set 0 y'=_;rw[ha];rfl
     rw[o6 (by omega) ha,z1]at hx;rw[o6 (e:=et e 0 y') (by show ¬e.aq<=3;omega) hp,e1];exact hx
    ·rw[ha]at h1;have s2:=rQ ha;have a2:=H.a2 ha;have c2:=H.c2 ha (by omega) (by omega);obtain⟨z,w,z1,w1,t1,z2,z3⟩:=qq ha (by omega) hx;rw[adf k j ho]at h2;rcases Nu h1 with⟨rfl,rfl⟩|⟨rfl,rfl⟩
     ·have e1:=((nG n a' (by omega) a2.1).1 c2.1 k z y' s (λq=>by rw[<-hk q,z3]) z1 h2);have hp:(et e 0 y').aw=[y',b]:=by show e.aw.set 0 y'=_;rw[ha];rfl
      rw[tT (by omega) ha,z1]at hx;rw[tT (e:=et e 0 y') (by show ¬e.aq<=3;omega) hp,e1];exact hx
     ·have e1:=((nG n a' (by omega) a2.2).1 c2.2 k w y' s (λq=>by rw[<-hk q,z3,t1]) w1 h2);have hp:(et e 1 y').aw=[a,y']:=by show e.aw.set 1 y'=_;rw[ha];rfl
      rw[tT (by omega) ha,w1]at hx;rw[tT (e:=et e 1 y') (by show ¬e.aq<=3;omega) hp,e1];exact hx
    ·rw[ha]at h1;have s3:=Bf ha;have a3:=H.a3 ha;have c3:=H.c3 ha ho;obtain⟨t,t1,t2⟩:=z8 ha (by omega) hx;rcases ahW h1 with⟨rfl,rfl⟩|⟨rfl,rfl⟩|⟨rfl,rfl⟩
     ·have e1:=((nG n a' (by omega) a3.1).2 c3.1 _ t y' s t1 h2);have hp:(et e 0 y').aw=[y',a,b]:=by show e.aw.set 0 y'=_;rw[ha];rfl
      rw[wA (e:=et e 0 y') (by show ¬e.aq<=3;omega) hp,e1];exact t2
     ·rw[Tj k 0 ho]at h2;have hp:(et e 1 y').aw=[c,y',b]:=by show e.aw.set 1 y'=_;rw[ha];rfl
      rw[wA (e:=et e 1 y') (by show ¬e.aq<=3;omega) hp,t1];cases t with
      |true=>exact((nG n a' (by omega) a3.2.1).1 c3.2.1 k x y' s hk t2 h2)
      |false=>exact t2
     ·rw[Tj k 1 ho]at h2;have hp:(et e 2 y').aw=[c,a,y']:=by show e.aw.set 2 y'=_;rw[ha];rfl
      rw[wA (e:=et e 2 y') (by show ¬e.aq<=3;omega) hp,t1];cases t with
      |true=>exact t2
      |false=>exact((nG n a' (by omega) a3.2.2).1 c3.2.2 k x y' s hk t2 h2)
  ·rw[CD]at h;cases mj:jo e k with
   |some q=>
    rw[mj]at h;have h:some q=some (y,s):=h;cases h
    exact afC H hc hr mj
   |none=>
    rw[mj]at h;obtain⟨j,a',y',h1,h2,rfl⟩:=wj e.aw 0 rfl h;rcases kc H.n hc with⟨a,ha,ho⟩|⟨a,b,ha,ho⟩|⟨a,b,ha,ho⟩
    ·rw[ha]at h1;obtain⟨rfl,rfl⟩:=Pm h1;have s1:=rF ha;obtain⟨t,t1,t2⟩:=Dz ha hr;have e1:=((nG n a' (by omega) (H.a1 ha)).2 (H.k1 ha ho) _ t y' s t1 h2);have hp:(et e 0 y').aw=[y']:=by show e.aw.set 0 y'=_;rw[ha];rfl
     rw[Gz (e:=et e 0 y') hp,e1,t2];rfl
    ·rw[ha]at h1;have s2:=rQ ha;have a2:=H.a2 ha;have c2:=H.c2 ha (by omega) (by omega);obtain⟨z,w,z1,w1,t1,z2⟩:=Ip ha (by omega) hr;rw[ahx k j ha ho]at h2;have hk:=ahA a2.1 a2.2 c2.1 c2.2 z1 w1 t1;rcases Nu h1 with⟨rfl,rfl⟩|⟨rfl,rfl⟩
     ·have e1:=((nG n a' (by omega) a2.1).1 c2.1 _ z y' s hk z1 h2);have hp:(et e 0 y').aw=[y',b]:=by show e.aw.set 0 y'=_;rw[ha];rfl
      have kS:=hr;rw[mV ha,z1,anv (show e.aq<16 by omega),cond_true]at kS;rw[mV (e:=et e 0 y') hp];show(bif decide (e.aq<16)then _ else _)=_;rw[anv (show e.aq<16 by omega),cond_true,e1];exact kS
     ·have e1:=((nG n a' (by omega) a2.2).1 c2.2 _ w y' s (λq=>by rw[<-t1];exact hk q) w1 h2);have hp:(et e 1 y').aw=[a,y']:=by show e.aw.set 1 y'=_;rw[ha];rfl
      have kS:=hr;rw[mV ha,w1,anv (show e.aq<16 by omega),cond_true]at kS;rw[mV (e:=et e 1 y') hp];show(bif decide (e.aq<16)then _ else _)=_;rw[anv (show e.aq<16 by omega),cond_true,e1];exact kS
    ·rw[ha]at h1;have s2:=rQ ha;have a2:=H.a2 ha;have k2:=H.k2 ha ho;obtain⟨u,w,u1,w1,rfl⟩:=Js ha (by omega) hr;rcases Nu h1 with⟨rfl,rfl⟩|⟨rfl,rfl⟩
     ·have e1:=((nG n a' (by omega) a2.1).2 k2.1 _ u y' s u1 h2);have hp:(et e 0 y').aw=[y',b]:=by show e.aw.set 0 y'=_;rw[ha];rfl
      rw[mV (e:=et e 0 y') hp];show(bif decide (e.aq<16)then _ else _)=_;rw[anw (show ¬e.aq<16 by omega),cond_false,e1,w1];rfl
     ·have e1:=((nG n a' (by omega) a2.2).2 k2.2 _ w y' s w1 h2);have hp:(et e 1 y').aw=[a,y']:=by show e.aw.set 1 y'=_;rw[ha];rfl
      rw[mV (e:=et e 1 y') hp];show(bif decide (e.aq<16)then _ else _)=_;rw[anw (show ¬e.aq<16 by omega),cond_false,u1,e1];rfl
end
def Dp:Nat->an->Prop
 |0,_=>False
 |m+1,e=>∀x∈e.aw,Dp m x
theorem Dp.up:∀{m:Nat}{e:an},Dp m e->Dp (m+1) e
 |0,_,h=>h.elim
 |_+1,_,h=>λx hx=>Dp.up (h x hx)
theorem QG{α:Type}(f:α->Nat):∀(l:anD α)(m:Nat),m<=l.foldl (λm a=>max m (f a)) m/\∀x∈l,f x<=l.foldl (λm a=>max m (f a)) m
 |[],m=>⟨amY _,λx hx=>by cases hx⟩
 |y::l,m=>by
  have h:=QG f l (max m (f y));rw[List.foldl_cons];refine⟨am5 (Nat.le_max_left _ _) h.1,λx hx=> ?_⟩;rcases ani.1 hx with rfl|hx
  ·exact am5 (Nat.le_max_right _ _) h.1
  ·exact h.2 x hx
theorem Hk:∀(L m:Nat)(e:an),m<=L->(iJ L e<=m↔Dp m e)
 |0,0,e,_=>⟨λh=>absurd h (by rw[iJ];omega),λh=>h.elim⟩
 |0,m+1,e,h=>absurd h (by omega)
 |L+1,0,e,_=>⟨λh=>absurd (am5 (QG (λa=>1+iJ L a) e.aw 1).1 h) (by omega),λh=>h.elim⟩
 |L+1,m+1,e,h=>by
  refine⟨λhd x hx=>(Hk L m x (by omega)).1 ?_,λhd=>Qp (λa=>1+iJ L a) (m+1) e.aw 1 (by omega) λx hx=> ?_⟩
  ·have:=am5 ((QG (λa=>1+iJ L a) e.aw 1).2 x hx) hd;omega
  ·have:=(Hk L m x (by omega)).2 (hd x hx);show 1+iJ L x<=m+1;omega
theorem Gm{e a:an}(h:e.aw=[a]):a∈e.aw:=by rw[h];simp
theorem w6{e a b:an}(h:e.aw=[a,b]):a∈e.aw/\b∈e.aw:=by rw[h];simp
theorem Pk{e c a b:an}(h:e.aw=[c,a,b]):c∈e.aw/\a∈e.aw/\b∈e.aw:=by rw[h];simp
theorem agG{e x:an}(h:fI e x):∀{m:Nat},Dp m e->Dp m x:=by
 intro m hm;obtain⟨m,rfl⟩:∃k,m=k+1:=by
  cases m with
  |zero=>exact hm.elim
  |succ k=>exact⟨k,rfl⟩
 have lo {a:an} (ha:Dp m a) {c:an} (hc:c∈a.aw):Dp m c:=by
  cases m with
  |zero=>exact ha.elim
  |succ k=>exact(ha c hc).up
 cases h with
 |arg _ hx=>exact(hm x hx).up
 |lE _ ha _ hx=>exact(lo (hm _ ha) hx).up
 |val t v _=>intro y hy;cases hy
 |idx _ _ _ _ _=>intro y hy;cases hy
 |neg op _ _ ha=>
  intro y hy;rcases List.mem_singleton.1 hy with rfl;exact hm _ (w6 ha).2
 |two op _ _ ha _ hb=>
  intro y hy;rcases ani.1 hy with rfl|hy
  ·exact hm _ (w6 ha).1
  ·rcases List.mem_singleton.1 hy with rfl;exact lo (hm _ (w6 ha).2) (Gm hb)
 |vC op _ _ ha _ hb=>
  intro y hy;rcases ani.1 hy with rfl|hy
  ·exact hm _ (w6 ha).2
  ·rcases List.mem_singleton.1 hy with rfl;exact lo (hm _ (w6 ha).1) (Gm hb)
 |swap op _ _ ha _ hb=>
  intro y hy;have CV:=hm _ (Gm ha);rcases ani.1 hy with rfl|hy
  ·exact lo CV (w6 hb).2
  ·rcases List.mem_singleton.1 hy with rfl;exact lo CV (w6 hb).1
 |three op _ _ ha _ hb=>
  intro y hy;rcases ani.1 hy with rfl|hy
  ·exact lo (hm _ (Pk ha).1) (Gm hb)
  ·rcases ani.1 hy with rfl|hy
   ·exact hm _ (Pk ha).2.2
   ·rcases List.mem_singleton.1 hy with rfl;exact hm _ (Pk ha).2.1
theorem Gu{e:an}(h:jj e=0)(ha:∀a∈e.aw,vE a):vE e:=λy hy=>by
 rcases ani.1 hy with rfl|hy
 ·exact h
 ·obtain⟨x,hx,hy⟩:=zi hy;exact ha x hx y hy
theorem ae2{t:aF}{v:aB}(ht:b9 t=true)(hv:b4 t v=true):vE (fB t v):=by
 refine Gu ?_ λa ha=>by cases ha
 show(bif jT (fB t v)then bif lU (fB t v)then bif jl (fB t v)then bif jr (fB t v)then bif mP (fB t v)then 0 else 1 else 10 else 11 else 7 else 5)=0;rw[show jT (fB t v)=true from rfl,show lU (fB t v)=true from rfl,show jl (fB t v)=true from rfl,show jr (fB t v)=true by
  show(b9 t&&true)=true;rw[ht];rfl,show mP (fB t v)=true by
  show(b4 t v&&true)=true;rw[hv];rfl]
 rfl
theorem abR{l:aP}(h:dY l=true):vE (ixE l):=by
 refine Gu ?_ λa ha=>by cases ha
 show(bif jT (ixE l)then bif lU (ixE l)then bif jl (ixE l)then bif jr (ixE l)then bif mP (ixE l)then 0 else 1 else 10 else 11 else 7 else 5)=0;rw[show jT (ixE l)=true from rfl,show lU (ixE l)=true from rfl,show jl (ixE l)=true from rfl,show jr (ixE l)=true from rfl,show mP (ixE l)=true by
  show(true&&(dY l&&true))=true;rw[h];rfl]
 rfl
theorem Hr{op:Int}{l:anD an}(h4:4<=op)(cY:op<=18)(bJ:op≠12)(hl:(l.length:Int)=iY op)(ht:lF op 0 l=true)(ha:∀a∈l,vE a):vE (cu op l):=by
 refine Gu ?_ ha;have p:jT (cu op l)=true:=by
  show(decide (1<=op)&&(decide (op<=18)&&((op==1||true)&&((op==1||(op==12||true))&&((op==2||true)&&((op==3||true)&&true))))))=true;rw[anv (show 1<=op by omega),anv cY];simp
 have n:lU (cu op l)=true:=by
  show((!(op==3)||j8 (bs []))&&true)=true;rw[beq_false_of_ne (show op≠3 by omega)];rfl
 have r:jl (cu op l)=true:=by
  show((l.length:Int)==iY op&&true)=true;rw[hl];simp
 have t:jr (cu op l)=true:=by
  show((!(op==1||op==12)||b9 dZ)&&lF op 0 l)=true;rw[beq_false_of_ne (show op≠1 by omega),beq_false_of_ne bJ,ht];rfl
 have f:mP (cu op l)=true:=by
  show((!(op==1)||b4 dZ bZ)&&true)=true;rw[beq_false_of_ne (show op≠1 by omega)];rfl
 unfold jj;rw[p,n,r,t,f];rfl
theorem TE(op:Int){x y:an}(h:bn y=bn x):∀(l:anD an)(j k:Nat),l[j]?=some x->lF op k (l.set j y)=lF op k l
 |[],_,_,hj=>by simp at hj
 |a::l,0,k,hj=>by
  have e:a=x:=am6 hj;show(bn y==wantsB op k&&lF op (k+1) l)=(bn a==wantsB op k&&lF op (k+1) l);rw[h,e]
 |a::l,j+1,k,hj=>by
  show(bn a==wantsB op k&&lF op (k+1) (l.set j y))=_;rw[TE op h l j (k+1) (by simpa using hj)];rfl
theorem acy{e a y:an}{j:Nat}(H:vE e)(hj:e.aw[j]?=some a)(hy:vE y)(hc:bn y=bn a):vE (et e j y):=by
 refine Gu ?_ λb hb=> ?_
 ·have h:=H e (vU e);unfold jj at h ⊢;rw[show jT (et e j y)=jT e from rfl,show lU (et e j y)=lU e from rfl,show mP (et e j y)=mP e from rfl,
   show jl (et e j y)=jl e by unfold jl;show(((e.aw.set j y).length:Int)==_&&_)=_;rw[List.length_set];rfl,
   show jr (et e j y)=jr e by unfold jr;show(_&&lF e.aq 0 (e.aw.set j y))=_;rw[TE e.aq hc e.aw j 0 hj];rfl]
  exact h
 ·rcases List.mem_or_eq_of_mem_set hb with h|rfl
  ·exact H.arg h
  ·exact hy
set_option linter.unusedSectionVars false
def Vd(e y:an):Prop:=vE y/\bn y=bn e
theorem nw{e:an}(h:e.aq<13):bn e=false:=by unfold bn;rw[anw (by omega)];rfl
theorem Bp{e:an}(h:13<=e.aq)(h2:e.aq<=18):bn e=true:=by unfold bn;rw[anv h,anv h2];rfl
theorem Ev.vE{e:an}(H:Ev e):vE e:=H.v
theorem zL{e:an}(h:e.aq<13){t:aF}{v:aB}(ht:b9 t=true)(hv:b4 t v=true):Vd e (fB t v):=⟨ae2 ht hv,by rw[nw h];rfl⟩
theorem ags{e:an}(h:e.aq<13){l:aP}(hl:dY l=true):Vd e (ixE l):=⟨abR hl,by rw[nw h];rfl⟩
theorem FW{e y:an}(h:e.aq<13){r:X aP}(hr:kO r=some y)(hl:∀l,r= .ok l->dY l=true):Vd e y:=by
 obtain⟨l,h1,rfl⟩:=zK hr;exact ags h (hl l h1)
section
variable {e y:an} (H:Ev e)
include H
theorem o9{a:an}(ha:a∈e.aw)(hc:bn a=bn e):Vd e a:=⟨H.vE.arg ha,hc⟩
theorem aaF(h:pY e=some y):Vd e y:=by
 unfold pY at h;split at h
 ·rename_i a ha
  obtain⟨h1,h2⟩:=bD h;rw[amP,beq_iff_eq]at h1;obtain⟨rfl,h4⟩:=xp h2;have g:=zB h4;exact zL (by omega) g.1 g.2.2
 ·rename_i a b ha
  obtain⟨h1,h2⟩:=bD h;rw[amP]at h1;obtain⟨rfl,h4⟩:=xp h2;have g:=zB h4;have:=VQ h1.1;exact zL (by omega) g.1 g.2.2
 ·cases h
theorem ahI(h:oU e=some y):Vd e y:=by
 unfold oU at h;split at h
 ·rename_i a ha
  obtain⟨h1,h2⟩:=bD h;rw[beq_iff_eq]at h1;rcases dm h2 with⟨l1,l2⟩|⟨l1,l2⟩
  ·obtain⟨rfl,h4⟩:=xp l2;have g:=S6 h4;exact zL (by omega) g.1 g.2
  ·obtain⟨m1,m2⟩:=bD l2;cases m2
   exact o9 H (by rw[ha];simp) (by rw[H.c1 ha (by omega) (by omega),nw (by omega)])
 ·cases h
theorem akd{op:Int}{a b:an}(ho:e.aq<13)(h:rX op a b=some y):Vd e y:=by
 unfold rX at h;split at h
 ·obtain⟨h1,h2⟩:=bD h;refine FW ho h2 λl hl=> ?_;cases h5:op==5 with
  |true=>rw[h5]at hl;exact Sj hl
  |false=>rw[h5]at hl;exact N9 hl
 ·cases h
theorem ajI{a b:an}(ho:e.aq<13)(h:tN a b=some y):Vd e y:=by
 unfold tN at h;rcases dm h with⟨l1,l2⟩|⟨l1,l2⟩
 ·exact FW ho l2 λl hl=>Au hl
 ·obtain⟨l1,l2⟩:=bD l2;exact FW ho l2 λl hl=>Au hl
theorem abZ(h:pF e=some y):Vd e y:=by
 unfold pF at h;rcases dm h with⟨h2,h⟩|⟨h2,h⟩
 ·rw[beq_iff_eq]at h2;obtain⟨h3,h4⟩:=bD h;cases h4
  simp only[amP,decide_eq_true_eq]at h3;exact zL (by omega) rfl (Vm h3.2.1 h3.2.2)
 ·split at h
  ·rename_i a ha
   obtain⟨h1,h3⟩:=bD h;rw[amP,beq_iff_eq]at h1;exact FW (by omega) h3 λl hl=>Au hl
  ·rename_i a b ha
   rcases dm h with⟨l1,l2⟩|⟨l1,l2⟩
   ·rw[Bool.or_eq_true,beq_iff_eq,beq_iff_eq]at l1;exact akd H (by omega) l2
   ·obtain⟨m1,m2⟩:=bD l2;rw[beq_iff_eq]at m1;exact ajI H (by omega) m2
  ·cases h
theorem ahq(h:pR e=some y):Vd e y:=by
 unfold pR at h;split at h
 ·rename_i c a b ha
  obtain⟨h1,h2⟩:=bD h;rw[amP,beq_iff_eq]at h1;have c3:=H.c3 ha h1.1;have h3:=am6 h2;rw[<-h3];cases (fa c).1 with
  |true=>exact o9 H (a:=a) (by rw[ha];simp) (by rw[c3.2.1,nw (by omega)])
  |false=>exact o9 H (a:=b) (by rw[ha];simp) (by rw[c3.2.2,nw (by omega)])
 ·cases h
theorem alY(h:ot e=some y):Vd e y:=by
 unfold ot at h;split at h
 ·rename_i c a b ha
  obtain⟨h1,h2⟩:=bD h;rw[amP,beq_iff_eq]at h1;cases h2
  exact o9 H (by rw[ha];simp) (by rw[(H.c3 ha h1.1).2.1,nw (by omega)])
 ·rename_i a b ha
  obtain⟨h1,h2⟩:=bD h;simp only[amP,Bool.or_eq_true,beq_iff_eq]at h1;cases h2
  refine o9 H (by rw[ha];simp) ?_;by_cases bH:e.aq=16\/e.aq=17
  ·rw[(H.k2 ha bH).1,Bp (by omega) (by omega)]
  ·rw[(H.c2 ha (by omega) (by omega)).1,nw (by omega)]
 ·cases h
theorem adv(h:oS e=some y):Vd e y:=by
 unfold oS at h;split at h
 ·rename_i a b ha
  have key (lo:4<=e.aq) (hi:e.aq<=7):Vd e a/\Vd e b/\Vd e (cu 8 [b]):=by
   have c2:=H.c2 ha (by omega) (by omega);have cl:=nw (e:=e) (by omega);refine⟨o9 H (by rw[ha];simp) (by rw[c2.1,cl]),o9 H (by rw[ha];simp) (by rw[c2.2,cl]),Hr (by decide) (by decide) (by decide) rfl ?_ ?_,by rw[cl];rfl⟩
   ·show(bn b==false&&true)=true;rw[c2.2];rfl
   ·intro x hx;rcases List.mem_singleton.1 hx with rfl;exact H.vE.arg (by rw[ha];simp)
  rcases dm h with⟨l1,l2⟩|⟨l1,l2⟩
  ·rw[beq_iff_eq]at l1;obtain⟨k1,k2,k3⟩:=key (by omega) (by omega);rcases dm l2 with⟨m1,m2⟩|⟨m1,m2⟩
   ·cases m2;exact k1
   ·obtain⟨m1,m2⟩:=bD m2;cases m2;exact k2
  ·rcases dm l2 with⟨l1,l2⟩|⟨l1,l2⟩
   ·rw[beq_iff_eq]at l1;obtain⟨k1,k2,k3⟩:=key (by omega) (by omega);rcases dm l2 with⟨m1,m2⟩|⟨m1,m2⟩
    ·cases m2;exact k1
    ·obtain⟨m1,m2⟩:=bD m2;cases m2;exact k3
   ·rcases dm l2 with⟨l1,l2⟩|⟨l1,l2⟩
    ·rw[beq_iff_eq]at l1;obtain⟨k1,k2,k3⟩:=key (by omega) (by omega);rcases dm l2 with⟨m1,m2⟩|⟨m1,m2⟩
     ·cases m2;exact k2
     ·obtain⟨m1,m2⟩:=bD m2;cases m2;exact k1
    ·obtain⟨l1,l2⟩:=bD l2;rw[beq_iff_eq]at l1;obtain⟨k1,k2,k3⟩:=key (by omega) (by omega);obtain⟨m1,m2⟩:=bD l2;cases m2;exact k1
 ·cases h
theorem ahf(h:pz e=some y):Vd e y:=by
 unfold pz at h;split at h
 ·rename_i a b ha
  have key (lo:4<=e.aq) (hi:e.aq<=7):Vd e a/\Vd e b:=by
   have c2:=H.c2 ha (by omega) (by omega);have cl:=nw (e:=e) (by omega);exact⟨o9 H (by rw[ha];simp) (by rw[c2.1,cl]),o9 H (by rw[ha];simp) (by rw[c2.2,cl])⟩
  rcases dm h with⟨l1,l2⟩|⟨l1,l2⟩
  ·rw[beq_iff_eq]at l1;obtain⟨k1,k2⟩:=key (by omega) (by omega);rcases dm l2 with⟨m1,m2⟩|⟨m1,m2⟩
   ·cases m2;exact k1
   ·obtain⟨m1,m2⟩:=bD m2;cases m2;exact k2
  ·obtain⟨l1,l2⟩:=bD l2;rw[beq_iff_eq]at l1;obtain⟨k1,k2⟩:=key (by omega) (by omega);obtain⟨m1,m2⟩:=bD l2;cases m2;exact k1
 ·cases h
theorem akc{k:Kn}(hk:k.cW=true->b9 k.yT=true)(h:pQ e k=some y):Vd e y:=by
 unfold pQ at h;split at h
 ·obtain⟨h1,h2⟩:=bD h;simp only[amP,Bool.or_eq_true,beq_iff_eq]at h1;have ht:=hk h1.2.1;rcases dm h2 with⟨l1,l2⟩|⟨l1,l2⟩
  ·cases l2
   refine zL (by omega) ht ?_;unfold tn;rw[ht];exact nJ ht
  ·obtain⟨m1,m2⟩:=bD l2;cases m2
   rw[amP,beq_iff_eq]at m1;exact zL (by omega) ht (zx m1.2).2.2
 ·cases h
theorem Qb{op:Int}{a c:an}(eO:op=4\/op=5)(he:e.aq<13)(ca:bn a=false)(cc:bn c=false)(va:vE a)(vc:vE c):Vd e (cu op [a,c]):=by
 refine⟨Hr (by omega) (by omega) (by omega) (by rcases eO with rfl|rfl<;>rfl) ?_ ?_,?_⟩
 ·rcases eO with rfl|rfl
  ·show(bn a==false&&(bn c==false&&true))=true;rw[ca,cc];rfl
  ·show(bn a==false&&(bn c==false&&true))=true;rw[ca,cc];rfl
 ·intro x hx;rcases ani.1 hx with rfl|hx
  ·exact va
  ·rcases List.mem_singleton.1 hx with rfl;exact vc
 ·rw[nw he];exact nw (by show op<13;omega)
theorem akl{k:Kn}(h:po e k=some y):Vd e y:=by
 unfold po at h;obtain⟨h0,h⟩:=bD h;split at h
 ·rename_i a ha
  obtain⟨h1,h2⟩:=bD h;rw[amP,beq_iff_eq,beq_iff_eq]at h1;have A:=H.a1 ha;obtain⟨c,eP⟩:=u6 A h1.2;rw[eP]at h2;cases h2
  exact⟨A.vE.arg (by rw[eP];simp),by rw[A.c1 eP (by omega) (by omega),nw (by omega)]⟩
 ·rename_i a b ha
  rcases dm h with⟨l1,l2⟩|⟨l1,l2⟩
  ·rw[beq_iff_eq]at l1;have a2:=H.a2 ha;have c2:=H.c2 ha (by omega) (by omega);rcases dm l2 with⟨m1,m2⟩|⟨m1,m2⟩
   ·rw[beq_iff_eq]at m1;obtain⟨c,eP⟩:=u6 a2.2 m1;rw[eP]at m2;cases m2
    exact Qb H (.inr rfl) (by omega) c2.1 (a2.2.c1 eP (by omega) (by omega)) a2.1.vE (a2.2.vE.arg (by rw[eP];simp))
   ·obtain⟨m1,m2⟩:=bD m2;rw[beq_iff_eq]at m1;obtain⟨c,eP⟩:=u6 a2.1 m1;rw[eP]at m2;cases m2
    exact Qb H (.inr rfl) (by omega) c2.2 (a2.1.c1 eP (by omega) (by omega)) a2.2.vE (a2.1.vE.arg (by rw[eP];simp))
  ·obtain⟨m1,m2⟩:=bD l2;rw[amP,beq_iff_eq,beq_iff_eq]at m1;have a2:=H.a2 ha;have c2:=H.c2 ha (by omega) (by omega);obtain⟨c,eP⟩:=u6 a2.2 m1.2;rw[eP]at m2;cases m2
   exact Qb H (.inl rfl) (by omega) c2.1 (a2.2.c1 eP (by omega) (by omega)) a2.1.vE (a2.2.vE.arg (by rw[eP];simp))
 ·cases h
theorem Wl{op:Int}{c d:an}(eO:op=13\/op=14)(he:e.aq=18)(ca:bn c=false)(cd:bn d=false)(va:vE c)(vd:vE d):Vd e (cu op [d,c]):=by
 refine⟨Hr (by omega) (by omega) (by omega) (by rcases eO with rfl|rfl<;>rfl) ?_ ?_,?_⟩
 ·rcases eO with rfl|rfl
  ·show(bn d==false&&(bn c==false&&true))=true;rw[ca,cd];rfl
  ·show(bn d==false&&(bn c==false&&true))=true;rw[ca,cd];rfl
 ·intro x hx;rcases ani.1 hx with rfl|hx
  ·exact vd
  ·rcases List.mem_singleton.1 hx with rfl;exact va
 ·rw[Bp (e:=e) (by omega) (by omega)];exact Bp (by show 13<=op;omega) (by show op<=18;omega)
theorem al5(h:n8 e=some y):Vd e y:=by
 unfold n8 at h;split at h
 ·rename_i c a b ha
  obtain⟨h1,h2⟩:=bD h;rw[amP,beq_iff_eq,beq_iff_eq]at h1;have a3:=H.a3 ha;have c3:=H.c3 ha h1.1;obtain⟨d,hd⟩:=Jt a3.1 h1.2;rw[hd]at h2;cases h2
  refine⟨Hr (by decide) (by decide) (by decide) rfl ?_ ?_,by rw[nw (e:=e) (by omega)];rfl⟩
  ·show(bn d==true&&(bn b==false&&(bn a==false&&true)))=true;rw[a3.1.k1 hd h1.2,c3.2.1,c3.2.2];rfl
  ·intro x hx;rcases ani.1 hx with rfl|hx
   ·exact a3.1.vE.arg (by rw[hd];simp)
   ·rcases ani.1 hx with rfl|hx
    ·exact a3.2.2.vE
    ·rcases List.mem_singleton.1 hx with rfl;exact a3.2.1.vE
 ·rename_i a ha
  obtain⟨h1,h⟩:=bD h;rw[beq_iff_eq]at h1;have A:=H.a1 ha;rcases dm h with⟨l1,l2⟩|⟨l1,l2⟩
  ·rw[beq_iff_eq]at l1;obtain⟨d,hd⟩:=Jt A l1;rw[hd]at l2;cases l2
   exact⟨A.vE.arg (by rw[hd];simp),by rw[A.k1 hd l1,Bp (e:=e) (by omega) (by omega)]⟩
  ·rcases dm l2 with⟨m1,m2⟩|⟨m1,m2⟩
   ·rw[beq_iff_eq]at m1;obtain⟨c,d,hd⟩:=J1 A (.inl m1);rw[hd]at m2;cases m2
    have c2:=A.c2 hd (by omega) (by omega);exact Wl H (.inr rfl) h1 c2.1 c2.2 (A.vE.arg (by rw[hd];simp)) (A.vE.arg (by rw[hd];simp))
   ·obtain⟨m1,m2⟩:=bD m2;rw[beq_iff_eq]at m1;obtain⟨c,d,hd⟩:=J1 A (.inr m1);rw[hd]at m2;cases m2
    have c2:=A.c2 hd (by omega) (by omega);exact Wl H (.inl rfl) h1 c2.1 c2.2 (A.vE.arg (by rw[hd];simp)) (A.vE.arg (by rw[hd];simp))
 ·cases h
theorem ai4(h:pM e=some y):Vd e y:=by
 unfold pM at h;split at h
 ·rename_i a b ha
  obtain⟨h1,h⟩:=bD h;rw[Bool.or_eq_true,beq_iff_eq,beq_iff_eq]at h1;have k2:=H.k2 ha h1;have ch:=Bp (e:=e) (by omega) (by omega);rcases dm h with⟨l1,l2⟩|⟨l1,l2⟩
  ·cases l2
   exact o9 H (by rw[ha];simp) (by rw[k2.2,ch])
  ·obtain⟨l1,l2⟩:=bD l2;cases l2
   exact o9 H (by rw[ha];simp) (by rw[k2.1,ch])
 ·cases h
theorem aaq{k:Kn}{s:anE}(hk:k.cW=true->b9 k.yT=true)(h:jo e k=some (y,s)):Vd e y:=by
 unfold jo at h;rcases dJ h with⟨h,_⟩|h
 ·exact aaF H h
 rcases dJ h with⟨h,_⟩|h
 ·exact ahI H h
 rcases dJ h with⟨h,_⟩|h
 ·exact abZ H h
 rcases dJ h with⟨h,_⟩|h
 ·exact ahq H h
 rcases dJ h with⟨h,_⟩|h
 ·exact alY H h
 rcases dJ h with⟨h,_⟩|h
 ·exact adv H h
 rcases dJ h with⟨h,_⟩|h
 ·exact ahf H h
 rcases dJ h with⟨h,_⟩|h
 ·exact akc H hk h
 rcases dJ h with⟨h,_⟩|h
 ·exact akl H h
 rcases dJ h with⟨h,_⟩|h
 ·exact al5 H h
 rcases dJ h with⟨h,_⟩|h
 ·exact ai4 H h
 ·cases h
end
theorem xh:∀(n:Nat)(e:an),SizeOf.sizeOf e<=n->Ev e->(da e).cW=true->b9 (da e).yT=true
 |0,e,hn,_,_=>by cases e;simp at hn
 |n+1,e,hn,H,hk=>by
  rw[Ov]at hk ⊢;cases h1:(e.aq==1||e.aq==12)with
  |true=>
   rw[cond_true];rw[Bool.or_eq_true,beq_iff_eq,beq_iff_eq]at h1;rcases h1 with h|h
   ·exact(H.n.lit h).1
   ·exact H.n.cast h
  |false=>
   rw[h1,cond_false]at hk;rw[cond_false];cases h2:e.aq==2 with
   |true=>rfl
   |false=>
    rw[h2,cond_false]at hk;rw[cond_false];split at hk
    ·rename_i a ha
     have s1:=rF ha;cases h8:e.aq==8 with
     |true=>rw[h8,cond_true]at hk;rw[cond_true];exact xh n a (by omega) (H.a1 ha) hk
     |false=>rw[h8]at hk;cases hk
    ·rename_i a b ha
     have s2:=rQ ha;have a2:=H.a2 ha;cases h8:oT e.aq with
     |false=>rw[h8]at hk;cases hk
     |true=>
      rw[h8,cond_true]at hk;rw[cond_true];cases hd:(da a).cW with
      |true=>rw[cond_true];exact xh n a (by omega) a2.1 hd
      |false=>rw[hd,cond_false]at hk;rw[cond_false];exact xh n b (by omega) a2.2 hk
    ·rename_i c a b ha
     have s3:=Bf ha;have a3:=H.a3 ha;cases h8:(e.aq==11&&((da a).cW&&((da b).cW&&gx (da a).yT (da b).yT)))with
     |false=>rw[h8]at hk;cases hk
     |true=>rw[h8,cond_true]at hk;rw[cond_true];exact xh n a (by omega) a3.2.1 hk
    ·cases hk
theorem ae9{e:an}{k:Kn}(H:Ev e)(hk:k.cW=true->b9 k.yT=true)(i:Nat):(jF e k i).cW=true->b9 (jF e k i).yT=true:=by
 intro h;unfold jF at h ⊢;cases h1:(oT e.aq||(e.aq==8||(e.aq==11&& !(i==0))))with
 |true=>rw[h1,cond_true]at h;rw[cond_true];exact hk h
 |false=>
  rw[h1,cond_false]at h;rw[cond_false];cases h2:e.aq==12 with
  |true=>
   rw[h2,cond_true]at h;rw[cond_true];split at h
   ·rename_i a ha
    exact xh _ a (amY _) (H.a1 ha) h
   ·cases h
  |false=>
   rw[h2,cond_false]at h;rw[cond_false];cases h3:(e.aq==13||(e.aq==14||e.aq==15))with
   |false=>rw[h3]at h;cases h
   |true=>
    rw[h3,cond_true]at h;rw[cond_true];split at h
    ·rename_i a b ha
     have a2:=H.a2 ha;unfold u7 at h ⊢;cases hd:(da a).cW with
     |true=>rw[cond_true];exact xh _ a (amY _) a2.1 hd
     |false=>rw[hd,cond_false]at h;rw[cond_false];exact xh _ b (amY _) a2.2 h
    ·cases h
theorem Yl:∀(n:Nat)(e:an),SizeOf.sizeOf e<=n->Ev e->∀(k:Kn)(y:an)(s:anE),(k.cW=true->b9 k.yT=true)->lv e k=some (y,s)->Vd e y
 |0,e,hn,_,_,_,_,_,_=>by cases e;simp at hn
 |n+1,e,hn,H,k,y,s,hk,h=>by
  rw[CD]at h;cases mj:jo e k with
  |some q=>
   rw[mj]at h;have h:some q=some (y,s):=h;cases h
   exact aaq H hk mj
  |none=>
   rw[mj]at h;obtain⟨j,a,y',h1,h2,rfl⟩:=wj e.aw 0 rfl h;have hm:=am0 h1;have sz:=fW hm;obtain⟨i1,i2⟩:=Yl n a (by omega) (H.arg hm) _ y' s (ae9 H hk j) h2;exact⟨acy H.vE h1 i1 i2,rfl⟩
theorem Sz:∀(n:Nat)(e:an),SizeOf.sizeOf e<=n->lX e->∀(k:Kn)(y:an)(s:anE)(m:Nat),lv e k=some (y,s)->Dp m e->Dp m y
 |0,e,hn,_,_,_,_,_,_,_=>by cases e;simp at hn
 |n+1,e,hn,H,k,y,s,m,h,hd=>by
  rw[CD]at h;cases mj:jo e k with
  |some q=>
   rw[mj]at h;have h:some q=some (y,s):=h;cases h
   exact agG (NG H.rk mj) hd
  |none=>
   rw[mj]at h;obtain⟨j,a,y',h1,h2,rfl⟩:=wj e.aw 0 rfl h;have hm:=am0 h1;have sz:=fW hm;cases m with
   |zero=>exact hd.elim
   |succ m=>
    intro x hx;rcases List.mem_or_eq_of_mem_set hx with hx|rfl
    ·exact hd x hx
    ·exact Sz n a (by omega) (H.arg hm) _ x s m h2 (hd a hm)
theorem Wg:∀{l:anD an},(∀x∈l,jj x=0)->qw l=0
 |[],_=>rfl
 |x::l,h=>by rw[qw,h x amT];exact Wg λy hy=>h y (amW _ hy)
theorem R7(e:an):W wN e=(dq e).length:=by
 have go:∀l:anD an,(l.map wN).sum=l.length:=by
  intro l
  induction l with
  |nil=>rfl
  |cons x l ih=>rw[anc,List.sum_cons,ih,amQ];unfold wN;omega
 exact go _
theorem ab8{t:aF}{e y:an}{s:anE}(hs:fv t e=some (y,s))(H:Ev e):hJ y=0/\bn y=bn e:=by
 obtain⟨ht,hv,hf⟩:=rP hs;obtain⟨v1,v2,v3⟩:=Aj hv;obtain⟨y1,y2⟩:=Yl _ e (amY _) H _ y s (λ_=>ht) hf;have d:=(Hk 40 40 y (amY _)).2 (Sz _ e (amY _) v1.lX _ y s 40 hf ((Hk 40 40 e (amY _)).1 v2));have n:W wN y<=W wN e:=G9 WT VI hs;rw[R7,R7]at n;refine⟨?_,y2⟩;unfold hJ;rw[anw (show ¬40<iJ 40 y by omega),anw (show ¬2000<(dq y).length by omega),Wg y1];rfl
theorem ZJ{mem:anD bp}{env:anD bm}{t:aF}{e y:an}{s:anE}{x:aB×aF}(hs:fv t e=some (y,s))(H:Ev e)(hc:bn e=false)(hx:bE mem env e= .ok x)(ht:x.2=t):bE mem env y= .ok x:=by
 obtain⟨_,_,hf⟩:=rP hs;exact(nG _ e (amY _) H).1 hc _ x y s (λ_=>ht) hx hf
end Go.Proofs.YtfdhojiehjfghaaGreatDoor
