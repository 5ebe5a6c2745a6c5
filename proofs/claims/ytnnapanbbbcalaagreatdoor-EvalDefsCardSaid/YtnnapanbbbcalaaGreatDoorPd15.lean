/-
  Part 15 of the proof: Wts, EvI, EvJ, EvK, EvL, EvM, CnB, EvQ, EvN, EvO, EvP, EvR, OpenT, EvDefsAbs.
-/
import Derived.Test.YtnnapanbbbcalaaGreatDoorPd14
set_option linter.defProp false
namespace Go.Proofs.YtnnapanbbbcalaaGreatDoor
open Tryz
open Go.RowKit
set_option maxRecDepth 100000
set_option linter.unusedSimpArgs false
set_option linter.unusedVariables false
def agI(n:Nat):((n:Int) !=(n:Int))=false:=by rw[H0,Ys];rfl
structure Ch(B:Nat)(x:c7):Prop where
 nr:x.bO.xL.length<=B
 at_:x.cP.length<=B
 Hf:∀l∈x.cP,l.xL.length<=B
structure JT(B:Nat)(e:ay):Prop where
 nr:e.bO.xL.length<=B
 idx:e.xIdx.length<=B
 each:∀x∈e.xIdx,Ch B x
 args:e.bS.length<=B
def jj(B:Nat)(e:ay):Prop:=∀y∈dR e,JT B y
def jj.arg{B:Nat}{e x:ay}(h:jj B e)(a:x∈e.bS):jj B x:=λy b=>h y (Js a b)
def Ch.mono{A B:Nat}(h:A<=B){x:c7}(k:Ch A x):Ch B x:=⟨Za k.nr h,Za k.at_ h,λl a=>Za (k.Hf l a) h⟩
def JT.mono{A B:Nat}(h:A<=B){e:ay}(k:JT A e):JT B e:=⟨Za k.nr h,Za k.idx h,λx a=>(k.each x a).mono h,Za k.args h⟩
abbrev rS:Nat:=140737488355328
def x8{a b:Nat}(h:a+b<=9223372036854775807):aE ((a:Int)+(b:Int))=((a+b:Nat):Int):=by
 rw[<-Int.natCast_add];exact Lo h
def Wt(m n:Nat)(Q:Prop)(r:U Int):Prop:=∃v:Nat,r=some (v:Int)/\n<=v/\v<=m+500000000000000/\(v<=m->Q)
def Q2(N:Nat)(m:Nat)(g:m<=100000)(rec:ay->Int->U Int)(c:ay->Prop)(d:∀(x:ay)(q:Nat),q<=m->c x->Wt q 1 (jj q x) (rec x (q:Int))):∀(l:I ay)(k v:Nat),v<=m+500000000000000->(∀x∈l,c x)->
 Wt m v (v+l.length<=m/\∀x∈l,jj m x) (zL N (m:Int) rec l k (v:Int))/\Cr N (m:Int) rec l k (v:Int)=zL N (m:Int) rec l k (v:Int)
 |[],k,v,i,_=>⟨⟨v,rfl,Zr _,by omega,λh=>⟨h,λ_ h=>by cases h⟩⟩,rfl⟩
 |x::l,k,v,i,e=>by
  rw[zL,Cr,xP];by_cases h:v<=m
  ·rw[dO h,V1,V1,show aE ((m:Int)-(v:Int))=((m-v:Nat):Int) by rw[show(m:Int)-(v:Int)=((m-v:Nat):Int) by omega];exact Lo (by omega)];obtain⟨n,j,G,H,o⟩:=d x (m-v) (Nat.sub_le _ _) (e x Zl);rw[j,re,re];dsimp only;rw[x8 (by omega)];by_cases f:v+n<=m
   ·obtain⟨⟨u,r,J,t,w⟩,A⟩:=Q2 N m g rec c d l (k+1) (v+n) (by omega) λy b=>e y (Zg _ b);refine⟨⟨u,r,by omega,t,λB=> ?_⟩,A⟩;obtain⟨K,C⟩:=w B;refine⟨by simp only[Zi];omega,λy b=> ?_⟩;rcases ZY.1 b with rfl|b
    ·exact λz E=>(o (by omega) z E).mono (by omega)
    ·exact C y b
   ·have a:∀(l:I ay)(k:Nat),zL N (m:Int) rec l k ((v+n:Nat):Int)=some ((v+n:Nat):Int)/\Cr N (m:Int) rec l k ((v+n:Nat):Int)=some ((v+n:Nat):Int):=by
     intro l k;cases l with
     |nil=>exact⟨rfl,rfl⟩
     |cons y l=>rw[zL,Cr,xP,Zx f];exact⟨rfl,rfl⟩
    rw[(a l (k+1)).1,(a l (k+1)).2];exact⟨⟨v+n,rfl,by omega,by omega,λh=>absurd h f⟩,rfl⟩
  ·rw[Zx h];exact⟨⟨v,rfl,Zr _,by omega,λF=>absurd F h⟩,rfl⟩
def agC(N:Nat)(m:Nat)(r:m<=100000)(c:Int->U Int)(lo:Nat)(Q:Prop)(e:∀v:Nat,v<=m+500000000000000->lo<=v->Wt m v Q (c (v:Int))):∀(l:I bD)(k v:Nat),v<=m+500000000000000->lo<=v->(∀x∈l,x.xL.length<=rS)->
 Wt m v (Q/\∀x∈l,x.xL.length<=m) (PD N c (m:Int) l k (v:Int))
 |[],k,v,f,g,_=>by
  obtain⟨u,i,b,j,n⟩:=e v f g;exact⟨u,i,b,j,λh=>⟨n h,λ_ h=>by cases h⟩⟩
 |x::l,k,v,f,g,o=>by
  rw[PD,xP];by_cases h:v<=m
  ·have z:x.xL.length<=140737488355328:=o x Zl;rw[dO h,V1];dsimp only;rw[x8 (by omega)];obtain⟨u,t,A,w,q⟩:=agC N m r c lo Q e l (k+1) (v+x.xL.length) (by omega) (by omega) λy a=>o y (Zg _ a);refine⟨u,t,by omega,w,λd=>⟨(q d).1,λy a=> ?_⟩⟩;rcases ZY.1 a with rfl|a
   ·omega
   ·exact(q d).2 y a
  ·rw[Zx h,UQ];obtain⟨u,i,b,j,n⟩:=e v f g;exact⟨u,i,b,j,λd=>absurd (Za b d) h⟩
def adF(N:Nat)(m:Nat)(f:m<=100000)(rec:ay->Int->U Int)(a:ay->Prop)(i:∀(x:ay)(q:Nat),q<=m->a x->Wt q 1 (jj q x) (rec x (q:Int)))(e:ay)(j:∀x∈e.bS,a x):∀(l:I c7)(k v:Nat),v<=m+500000000000000->(∀x∈l,Ch rS x)->
 Wt m v ((e.bS.length<=m/\∀x∈e.bS,jj m x)/\∀x∈l,Ch m x) (Du N (m:Int) rec e l k (v:Int))
 |[],k,v,b,_=>by
  rw[Du];obtain⟨u,g,c,n,o⟩:=(Q2 N m f rec a i e.bS 0 v b j).1;exact⟨u,g,c,n,λh=>⟨⟨by have:=(o h).1;omega,(o h).2⟩,λ_ h=>by cases h⟩⟩
 |x::l,k,v,b,w=>by
  rw[Du,xP];by_cases h:v<=m
  ·have r:=w x Zl;have g:x.bO.xL.length<=140737488355328:=r.nr;have c:x.cP.length<=140737488355328:=r.at_;rw[dO h,V1,x8 (by omega),x8 (by omega)];obtain⟨u,z,J,A,B⟩:=agC N m f (λC=>Du N (m:Int) rec e l (k+1) C) 0 _ (λv b _=>adF N m f rec a i e j l (k+1) v b λy d=>w y (Zg _ d)) x.cP 0 (v+x.bO.xL.length+x.cP.length) (by omega) (WJ _) r.Hf;refine⟨u,z,by omega,A,λt=> ?_⟩;obtain⟨⟨E,F⟩,G⟩:=B t;refine⟨E,λy d=> ?_⟩;rcases ZY.1 d with rfl|d
   ·exact⟨by omega,by omega,G⟩
   ·exact F y d
  ·rw[Zx h,UQ];obtain⟨⟨u,g,c,n,o⟩,H⟩:=Q2 N m f rec a i e.bS 0 v b j;rw[H];exact⟨u,g,c,n,λt=>absurd (Za c t) h⟩
def adC(N:Nat):∀(d:Nat)(e:ay)(m:Nat),m<=100000->SizeOf.sizeOf e<d->jj rS e->Wt m 1 (jj m e) (wC N d e (m:Int))
 |0,_,_,_,h,_=>absurd h (Z5 _)
 |d+1,e,m,g,h,f=>by
  have c:=f e Zl;have t:e.bO.xL.length<=140737488355328:=c.nr;have v:e.xIdx.length<=140737488355328:=c.idx;rw[wC,show(1:Int)=((1:Nat):Int)from rfl,x8 (by omega),x8 (by omega)];obtain⟨u,i,w,j,k⟩:=adF N m g (wC N d) (λx=>SizeOf.sizeOf x<d/\jj rS x) (λx q z a=>adC N d x q (by omega) a.1 a.2) e (λx a=>⟨by have:=vi a;omega,f.arg a⟩) e.xIdx 0 (1+e.bO.xL.length+e.xIdx.length) (by omega) c.each;refine⟨u,i,by omega,j,λl=> ?_⟩;obtain⟨⟨n,o⟩,r⟩:=k l;intro y b;rcases ZY.1 b with rfl|b
  ·exact⟨by omega,by omega,r,n⟩
  ·obtain⟨x,a,b⟩:=Mb b;exact o x a y b
structure Om(d:bZ):Prop where
 Gp:d.aQ.length<=12
 red:d.cl.length<=12
 arz:∀a∈d.aQ++d.cl,a.eH.xL.length<=20
 body:jj 400 d.cw
structure Cn(p:bo):Prop where
 s:p.bG.length<=12
 w:p.dU.length<=12
 q:p.bu.length<=12
 d:p.aM.length<=12
 o:p.dM.length<=12
 W:∀c∈p.dU,c.bO.xL.length<=20
 P:∀x∈p.bu,x.aQ.length<=12/\∀y∈x.aQ,y.xL.length<=20
 D:∀d∈p.aM,Om d
def Bt(Q:Prop)(r:U Bool):Prop:=∃b,r=some b/\(b=false->Q)
def Bt.mono{Q R:Prop}{r:U Bool}(h:Bt Q r)(f:Q->R):Bt R r:=let ⟨b,a,c⟩:=h;⟨b,a,λe=>f (c e)⟩
def SC(n:Nat):decide ((n:Int)>20)= !decide (n<=20):=lZ n 20
def vv(n:Nat):decide ((n:Int)>12)= !decide (n<=12):=lZ n 12
def acd(N:Nat):∀(l:I bD)(k:Nat),Bt (∀y∈l,y.xL.length<=20) (Kx N l k)
 |[],_=>⟨_,rfl,λ_ _ h=>by cases h⟩
 |x::l,k=>by
  rw[Kx,SC];by_cases h:x.xL.length<=20
  ·rw[dO h];refine(acd N l (k+1)).mono λg y a=> ?_;rcases ZY.1 a with rfl|a
   ·exact h
   ·exact g y a
  ·rw[Zx h];exact⟨true,rfl,λh=>by cases h⟩
def acS(N:Nat)(d:bZ)(c:U Bool)(Q:Prop)(f:Bt Q c)(h1:d.aQ.length<=12)(j:d.cl.length<=12):∀(n k:Nat),k<=d.aQ.length+d.cl.length->d.aQ.length+d.cl.length-k<n->
 Bt (Q/\∀a∈(d.aQ++d.cl).drop k,a.eH.xL.length<=20) (IB N d c n (k:Int))
 |0,k,_,h=>absurd h (Z5 _)
 |n+1,k,q,h=>by
  rw[IB,x8 (by omega)];by_cases l:k<d.aQ.length+d.cl.length
  ·have i:k<(d.aQ++d.cl).length:=by rw[Zj];exact l
   rw[show decide ((k:Int)<((d.aQ.length+d.cl.length:Nat):Int))=true from dO (by omega),fq (by omega),fq (by omega),show decide ((0:Int)<=(k:Int))=true from dO (by omega),V1,V1,V1,V1,ZB,Zd i,re,SC,List.drop_eq_getElem_cons i,K1 (by omega)];by_cases b:((d.aQ++d.cl)[k]).eH.xL.length<=20
   ·rw[dO b];refine(acS N d c Q f h1 j n (k+1) (by omega) (by omega)).mono fun⟨m,o⟩=>⟨m,λy e=> ?_⟩;rcases ZY.1 e with rfl|e
    ·exact b
    ·exact o y e
   ·rw[Zx b];exact⟨true,rfl,λh=>by cases h⟩
  ·rw[show decide ((k:Int)<((d.aQ.length+d.cl.length:Nat):Int))=false from Zx (by omega),UQ,List.drop_eq_nil_of_le (by rw[Zj];omega)];exact f.mono λg=>⟨g,λ_ h=>by cases h⟩
def ad6(N m:Nat)(f:m<=400)(i:1000<N):∀(l:I bZ)(k:Nat),(∀d∈l,jj rS d.cw/\SizeOf.sizeOf d.cw<N)->Bt (∀d∈l,Om d) (FZ N (m:Int) l k)
 |[],_,_=>⟨_,rfl,λ_ _ h=>by cases h⟩
 |d::l,k,g=>by
  obtain⟨j,n⟩:=g d Zl;have o:=ad6 N m f i l (k+1) λy a=>g y (Zg _ a);obtain⟨v,q,x,A,r⟩:=adC N N d.cw m (by omega) n j;rw[FZ,vv,vv];unfold TC;rw[q,re,show decide ((v:Int)>(m:Int))= !decide (v<=m)from lZ v m];by_cases b:d.aQ.length<=12
  ·rw[dO b];by_cases c:d.cl.length<=12
   ·rw[dO c];by_cases e:v<=m
    ·rw[dO e];have:=acS N d _ _ o b c N 0 (WJ _) (by omega);rw[Yq]at this;refine Bt.mono this fun⟨t,u⟩ y a=> ?_;rcases ZY.1 a with rfl|a
     ·exact⟨b,c,u,λz w=>(r e z w).mono f⟩
     ·exact t y a
    ·rw[Zx e];exact⟨true,rfl,λh=>by cases h⟩
   ·rw[Zx c];exact⟨true,rfl,λh=>by cases h⟩
  ·rw[Zx b];exact⟨true,rfl,λh=>by cases h⟩
def aeg(N m:Nat)(c:m<=400)(e:1000<N)(p:bo)(f:∀d∈p.aM,jj rS d.cw/\SizeOf.sizeOf d.cw<N):∀(l:I fm)(k:Nat),Bt ((∀d∈p.aM,Om d)/\∀x∈l,x.aQ.length<=12/\∀y∈x.aQ,y.xL.length<=20) (Nn N (m:Int) p l k)
 |[],_=>(ad6 N m c e p.aM 0 f).mono λg=>⟨g,λ_ h=>by cases h⟩
 |x::l,k=>by
  obtain⟨b,i,j⟩:=acd N x.aQ 0;rw[Nn,vv];unfold Th;rw[i,re];by_cases h:x.aQ.length<=12
  ·rw[dO h];cases b with
   |true=>exact⟨true,rfl,λh=>by cases h⟩
   |false=>
    refine(aeg N m c e p f l (k+1)).mono fun⟨n,o⟩=>⟨n,λy a=> ?_⟩;rcases ZY.1 a with rfl|a
    ·exact⟨h,j rfl⟩
    ·exact o y a
  ·rw[Zx h];exact⟨true,rfl,λh=>by cases h⟩
def aaR(N m:Nat)(b:m<=400)(e:1000<N)(p:bo)(f:∀d∈p.aM,jj rS d.cw/\SizeOf.sizeOf d.cw<N):∀(l:I iu)(k:Nat),Bt (((∀d∈p.aM,Om d)/\∀x∈p.bu,x.aQ.length<=12/\∀y∈x.aQ,y.xL.length<=20)/\∀c∈l,c.bO.xL.length<=20) (J3 N (m:Int) p l k)
 |[],_=>(aeg N m b e p f p.bu 0).mono λg=>⟨g,λ_ h=>by cases h⟩
 |c::l,k=>by
  rw[J3,SC];by_cases h:c.bO.xL.length<=20
  ·rw[dO h];refine(aaR N m b e p f l (k+1)).mono fun⟨i,j⟩=>⟨i,λy a=> ?_⟩;rcases ZY.1 a with rfl|a
   ·exact h
   ·exact j y a
  ·rw[Zx h];exact⟨true,rfl,λh=>by cases h⟩
def anu(N m:Nat)(g:m<=400)(i:1000<N)(p:bo)(j:∀d∈p.aM,jj rS d.cw/\SizeOf.sizeOf d.cw<N):Bt (Cn p) (GZ N p (m:Int)):=by
 unfold GZ;rw[vv,vv,vv,vv,vv];by_cases a:p.bG.length<=12
 ·by_cases b:p.dU.length<=12
  ·by_cases c:p.bu.length<=12
   ·by_cases e:p.aM.length<=12
    ·by_cases f:p.dM.length<=12
     ·rw[dO a,dO b,dO c,dO e,dO f];exact(aaR N m g i p j p.dU 0).mono fun⟨⟨k,l⟩,n⟩=>⟨a,b,c,e,f,n,l,k⟩
     ·rw[dO a,dO b,dO c,dO e,Zx f];exact⟨true,rfl,λh=>by cases h⟩
    ·rw[dO a,dO b,dO c,Zx e];exact⟨true,rfl,λh=>by cases h⟩
   ·rw[dO a,dO b,Zx c];exact⟨true,rfl,λh=>by cases h⟩
  ·rw[dO a,Zx b];exact⟨true,rfl,λh=>by cases h⟩
 ·rw[Zx a];exact⟨true,rfl,λh=>by cases h⟩
def ao1(n:Nat):I4 (n+3000)=some true:=by kernel_rfl
def agh{N:Nat}(h:3000<=N):I4 N=some true:=by
 obtain⟨n,rfl⟩:∃n,N=n+3000:=⟨N-3000,by omega⟩;exact ao1 n
structure abn(x:aR):Prop where
 Gp:x.iH.aQ.length<=20
 abG:x.iH.eF.length<=4200
def ad4(N:Nat)(m:I aR):∀(l:I aR)(k:Nat),∃b,ML N m l k=some b/\(b=true->m.length<=30/\∀x∈l,abn x)
 |[],k=>⟨_,rfl,λh=>⟨by rw[VX]at h;omega,λx i=>by cases i⟩⟩
 |x::l,k=>by
  rw[ML];obtain⟨b,j,c⟩:=ad4 N m l (k+1);by_cases d:(x.aC.size:Int)>100;{rw[dO d];exact⟨false,rfl,λh=>by cases h⟩}
  ·rw[Zx d,UQ];by_cases e:(x.iH.aQ.length:Int)>20
   ·rw[dO e];exact⟨false,rfl,λh=>by cases h⟩
   ·rw[Zx e,UQ,re];by_cases f:(x.iH.eF.length:Int)>4200
    ·rw[dO f];exact⟨false,rfl,λh=>by cases h⟩
    ·rw[Zx f,UQ];refine⟨b,j,λg=>⟨(c g).1,λy a=> ?_⟩⟩;rcases ZY.1 a with rfl|a
     ·exact⟨by omega,by omega⟩
     ·exact(c g).2 y a
def air(N:Nat)(m:I aR):∃b,V3 N m=some b/\(b=true->m.length<=30/\∀x∈m,abn x):=ad4 N m m 0
def aah(N:Nat)(m:I aJ)(n:Int):∀(l:I aJ)(k:Nat),∃b,Nk N m n l k=some b/\(b=true->(m.length:Int)<=n)
 |[],k=>⟨_,rfl,λh=>by rw[VX]at h;exact h⟩
 |x::l,k=>by
  rw[Nk];obtain⟨b,a,c⟩:=aah N m n l (k+1);cases decide ((x.aC.size:Int)>100)with
  |true=>exact⟨false,rfl,λh=>by cases h⟩
  |false=>exact⟨b,a,c⟩
def anI(N:Nat)(m:I aJ)(n:Int):∃b,Qt N m n=some b/\(b=true->(m.length:Int)<=n):=aah N m n m 0
def jj.ov{B:Nat}(a:B<=100000){e:ay}(h:jj B e):ov e:=λy d=>
 have b:100000<=maxLen:=by decide
 have H:=h y d
 ⟨Za (Za H.nr a) b,λx c=>⟨Za (Za (H.each x c).nr a) b,λl f=>Za (Za ((H.each x c).Hf l f) a) b⟩,Za (Za H.args a) b⟩
def jj.ev{B:Nat}(a:B<=100000){e:ay}(h:jj B e)(f:nU e=0):Ev e:=
 have b:100000<=4611686018427387904:=by decide
 ⟨λy c=>RH f y c,λy c=>
  have H:=h y c
  ⟨Za (Za H.nr a) b,λx d=>⟨Za (Za (H.each x d).nr a) b,λl g=>Za (Za ((H.each x d).Hf l g) a) b⟩⟩⟩
def aqE{N:Nat}{p:bo}(h:Cn p)(f:∀d∈p.aM,SizeOf.sizeOf d.cw<N):Bd N p:=
 ⟨Za h.s (by decide),Za h.w (by decide),Za h.q (by decide),Za h.d (by decide),Za h.o (by decide),
  ⟨λx b=>Za (h.P x b).1 (by decide),λx b y e=>Za ((h.P x b).2 y e) (by decide)⟩,
  ⟨λd a=>by have i:=(h.D d a).Gp;have j:=(h.D d a).red;omega,λd a y e=>Za ((h.D d a).arz y e) (by decide)⟩,
  λc g=>Za (h.W c g) (by decide),λd a=>⟨(h.D d a).body.ov (by decide),f d a⟩⟩
def sF(v:Int64):Bool:=decide (1<=v.toInt)&&decide (v.toInt<=4096)
def Lp(env:I aJ)(s:so):Bool:=match nb env s with
 |none=>false
 |some v=>sF v
def tP(c:iu)(env:I aJ):Bool×Int:=
 let q:=dB c.bO env
 bif q.2 !=0 then(false,q.2)else(bif q.1.toInt==0 then true else bif decide (q.1.toInt>0)then !c.E3 else false,0)
def zZ(env:I aJ):I iu->Int
 |[]=>0
 |c::l=>bif (tP c env).2 !=0 then(tP c env).2 else bif (tP c env).1 then zZ env l else 16
def A5(p:bo)(env:I aJ):Int:=bif (env.length:Int) !=(p.bG.length:Int)then 15 else bif p.bG.all (Lp env)then zZ env p.dU else 15
def apA(N:Nat)(a:2147483648<N)(c:iu)(env:I aJ)(h:c.bO.xL.length<=4611686018427387904):PW N c env=some (tP c env):=by
 unfold PW tP;rw[I0 N a _ _ h,re];dsimp only;cases (dB c.bO env).2 !=0 with
 |true=>rfl
 |false=>
  simp only[UQ];cases (dB c.bO env).1.toInt==0 with
  |true=>rfl
  |false=>cases decide ((dB c.bO env).1.toInt>0)<;>rfl
def aoC(N:Nat)(a:2147483648<N)(c:iu)(env:I aJ)(h:c.bO.xL.length<=4611686018427387904):OY N c env=some (tP c env):=by
 unfold OY tP;rw[Gu N a _ _ h,re];dsimp only;cases (dB c.bO env).2 !=0 with
 |true=>rfl
 |false=>
  simp only[UQ];cases (dB c.bO env).1.toInt==0 with
  |true=>rfl
  |false=>cases decide ((dB c.bO env).1.toInt>0)<;>rfl
def adQ(N:Nat)(a:2147483648<N)(env:I aJ):∀(l:I iu)(k:Nat),(∀c∈l,c.bO.xL.length<=4611686018427387904)->L2 N env l k=some (zZ env l)/\MG N env l k=some (zZ env l)
 |[],k,_=>⟨rfl,rfl⟩
 |c::l,k,h=>by
  obtain⟨b,d⟩:=adQ N a env l (k+1) λx e=>h x (Zg _ e);rw[L2,MG,apA N a c env (h c Zl),aoC N a c env (h c Zl),re,re,b,d,zZ];cases (tP c env).2 !=0 with
  |true=>exact⟨rfl,rfl⟩
  |false=>cases (tP c env).1<;>exact⟨rfl,rfl⟩
def ago(N:Nat)(s:so):∀(env:I aJ)(k:Nat),(nb env s=none->Ho N s env k=some (-1))/\(∀v,nb env s=some v->∃i b,Ho N s env k=some ((k+i:Nat):Int)/\env[i]?=some b/\b.dQ=v)
 |[],k=>⟨λ_=>rfl,λv h=>by cases h⟩
 |b::r,k=>by
  obtain⟨a,d⟩:=ago N s r (k+1);unfold nb Ho Sv;simp only[re];cases g:(bL b.aC==bL s)with
  |true=>exact⟨λh=>(by cases h),λv h=>by cases h;exact⟨0,b,rfl,rfl,rfl⟩⟩
  |false=>
   simp only[UQ];refine⟨a,λv h=> ?_⟩;obtain⟨i,c,q1,e,f⟩:=d v h;exact⟨i+1,c,by rw[q1];congr 2;omega,e,f⟩
def ad0(N:Nat)(s:so):∀(env:I aJ)(k:Nat),Nw N s env k=some (match nb env s with|none=>(0,false)|some v=>(v,true))
 |[],_=>rfl
 |b::r,k=>by
  rw[Nw,nb];cases bL b.aC==bL s with
  |true=>rfl
  |false=>exact ad0 N s r (k+1)
def agb(v:Int64):(bif decide (v.toInt<1)then some true else some (decide (v.toInt>4096)))=some (!sF v):=by
 unfold sF;by_cases a:v.toInt<1;{rw[dO a,Zx (show ¬1<=v.toInt by omega)];rfl}
 ·rw[Zx a,dO (show 1<=v.toInt by omega)];by_cases b:v.toInt>4096
  ·rw[dO b,Zx (show ¬v.toInt<=4096 by omega)];rfl
  ·rw[Zx b,dO (show v.toInt<=4096 by omega)];rfl
def RS(N:Nat)(a:2147483648<N)(env:I aJ)(p:bo)(d:∀c∈p.dU,c.bO.xL.length<=4611686018427387904):∀(l:I so)(k:Nat),NQ N env p l k=some (bif l.all (Lp env)then zZ env p.dU else 15)/\Ng N env p l k=some (bif l.all (Lp env)then zZ env p.dU else 15)
 |[],k=>adQ N a env p.dU 0 d
 |s::l,k=>by
  obtain⟨f,g⟩:=RS N a env p d l (k+1);rw[NQ,Ng,f,g,Z4];unfold Qj Tw Lp;rw[ad0 N s env 0,re];obtain⟨q1,h⟩:=ago N s env 0;cases e:nb env s with
  |none=>rw[q1 e];exact⟨rfl,rfl⟩
  |some v=>
   obtain⟨i,b,j,m,rfl⟩:=h v e;rw[j];simp only[re,ZJ];rw[Zx (show ¬(i:Int)<0 by omega),dO (show(0:Int)<=(i:Int) by omega),ZB,m];simp only[re,V1,UQ];rw[agb];cases sF b.dQ<;>exact⟨rfl,rfl⟩
def alo(N:Nat)(a:2147483648<N)(env:I aJ)(p:bo)(b:∀c∈p.dU,c.bO.xL.length<=4611686018427387904):KX N p env=some (A5 p env):=by
 unfold KX A5;rw[(RS N a env p b p.bG 0).1];cases (env.length:Int) !=(p.bG.length:Int)<;>rfl
def aop(N:Nat)(a:2147483648<N)(env:I aJ)(p:bo)(b:∀c∈p.dU,c.bO.xL.length<=4611686018427387904):LL N p env=some (A5 p env):=by
 unfold LL A5;rw[(RS N a env p b p.bG 0).2];cases (env.length:Int) !=(p.bG.length:Int)<;>rfl
def Z7(env:I aJ):I bD->I Int->I Int×Int
 |[],a=>(a,0)
 |f::l,a=>bif (dB f env).2 !=0 then([],(dB f env).2)else bif sF (dB f env).1 then Z7 env l (a++[(dB f env).1.toInt])else([],15)
def OJ(N:Nat)(b:2147483648<N)(env:I aJ):∀(l:I bD)(k:Nat)(a:I Int),(∀x∈l,ng 1000000000 x)->a.length+l.length<=1000000000->KB N env l k a=some (Z7 env l a)/\Ni N env l k a=some (Z7 env l a)
 |[],k,a,_,_=>⟨rfl,rfl⟩
 |f::l,k,a,h,d=>by
  simp only[Zi]at d;have c:f.xL.length<=4611686018427387904:=Za (h f Zl) (by decide);obtain⟨e,g⟩:=OJ N b env l (k+1) (a++[(dB f env).1.toInt]) (λx i=>h x (Zg _ i)) (by simp only[Zj,Zi,Zc];omega);rw[KB,Ni,I0 N b f env c,Gu N b f env c,re,re,agb,re,fq (by omega),V1];dsimp only;rw[e,g,Z7];cases (dB f env).2 !=0 with
  |true=>exact⟨rfl,rfl⟩
  |false=>cases sF (dB f env).1<;>exact⟨rfl,rfl⟩
def F0(env:I aJ):∀(l:I bD)(b:I Int),(∀x∈b,1<=x/\x<=4096)->∀x∈(Z7 env l b).1,1<=x/\x<=4096
 |[],b,h=>h
 |f::l,b,h=>by
  rw[Z7];cases (dB f env).2 !=0 with
  |true=>exact λx a=>by cases a
  |false=>
   rw[UQ];cases c:sF (dB f env).1 with
   |false=>exact λx a=>by cases a
   |true=>
    rw[V1];refine F0 env l _ λx a=> ?_;rcases ZE.1 a with a|a
    ·exact h x a
    ·rw[ZZ]at a;subst a;unfold sF at c;rw[Zo,VX,VX]at c;exact c
def cW:I Int->Int
 |[]=>1
 |x::l=>x*cW l
def pN:∀{l:I Int},(∀x∈l,1<=x/\x<=4096)->1<=cW l
 |[],_=>by decide
 |x::l,h=>by
  rw[cW];have a:=pN λy b=>h y (Zg _ b);have c:=(h x Zl).1;have:=ah c a (by decide) (by omega);omega
def acw(N:Nat)(a:Int)(g:a<=65536):∀(l:I Int)(k:Nat)(v:Int),(∀x∈l,1<=x/\x<=4096)->1<=v->v<=a->GL N a l k v=some (if v*cW l<=a then v*cW l else a+1)
 |[],k,v,_,c,d=>by
  rw[GL,cW,Int.mul_one,ZL d]
 |x::l,k,v,h,c,d=>by
  have e:=h x Zl;have i:=pN (l:=l) λy b=>h y (Zg _ b);have j:v*x<=65536*4096:=ah (by omega) e.2 (by omega) (by omega);have m:1*1<=v*x:=ah c e.1 (by decide) (by omega);rw[GL,cW,ik (by omega) (by omega),<-ab];by_cases f:v*x>a
  ·rw[dO f,V1,ik (by omega) (by omega),ZN];have:v*x*1<=v*x*cW l:=Ym i (by omega);omega
  ·rw[Zx f,UQ];dsimp only;exact acw N a g l (k+1) (v*x) (λy b=>h y (Zg _ b)) (by omega) (by omega)
def Rv(N:Nat):∀(l:I Int)(k:Nat)(v:Int),(∀x∈l,1<=x/\x<=4096)->1<=v->v<=65537->ES N l k v=some (if v*cW l<=65537 then v*cW l else 65537)
 |[],k,v,_,b,c=>by
  rw[ES,cW,Int.mul_one,ZL c]
 |x::l,k,v,h,b,c=>by
  have d:=h x Zl;have f:=pN (l:=l) λy a=>h y (Zg _ a);have g:v*x<=65537*4096:=ah (by omega) d.2 (by omega) (by omega);have i:1*1<=v*x:=ah b d.1 (by decide) (by omega);rw[ES,cW,ik (by omega) (by omega),<-ab];dsimp only;by_cases e:65537<v*x
  ·rw[ZL e,Rv N l (k+1) 65537 (λy a=>h y (Zg _ a)) (by decide) (by decide)];have j:v*x*1<=v*x*cW l:=Ym f (by omega);rw[ZN (show ¬v*x*cW l<=65537 by omega)];split
   ·congr 1;omega
   ·rfl
  ·rw[ZN e];exact Rv N l (k+1) (v*x) (λy a=>h y (Zg _ a)) (by omega) (by omega)
def atb(N:Nat)(a:Int)(h1:1<=a)(b:a<=65536)(l:I Int)(h:∀x∈l,1<=x/\x<=4096):Vw N l a=some (if cW l<=a then cW l else a+1):=by
 have:=acw N a b l 0 1 h (by decide) h1
 rwa [ao]at this
def AF(N:Nat)(l:I Int)(h:∀x∈l,1<=x/\x<=4096):Ag N l=some (if cW l<=65537 then cW l else 65537):=by
 have:=Rv N l 0 1 h (by decide) (by decide)
 rwa [ao]at this
def acq(a:Int)(h1:1<=a)(b:a<=65536)(n:Int):decide ((if n<=a then n else a+1)>a)=decide (n>a):=by
 by_cases h:n<=a;{rw[ZL h]};{rw[ZN h,dO (show a+1>a by omega),dO (show n>a by omega)]}
def alJ(a:Int)(b:a<=65536)(n:Int):decide ((if n<=65537 then n else 65537)>a)=decide (n>a):=by
 by_cases h:n<=65537;{rw[ZL h]};{rw[ZN h,dO (show(65537:Int)>a by omega),dO (show n>a by omega)]}
def ach(N:Nat)(d:bZ):∀(l:I dF)(k:Nat)(b:I bD),b.length+l.length<=1000000000->Gd N d l k b=some (b++l.map (·.eH),d.aH,true)
 |[],_,b,_=>by rw[Gd,a6,ZV]
 |a::l,k,b,h=>by
  simp only[Zi]at h;rw[Gd,fq (by omega),V1];dsimp only;rw[ach N d l (k+1) _ (by simp only[Zj,Zi,Zc];omega),ZS,ZP];rfl
def FY(q:aL×I bD×Bool):I bD×aL×Bool:=(q.2.1,q.1,q.2.2)
def acp(N:Nat)(s:so):∀(D:I bZ)(k:Nat),hX D->Pk N s D k=some (FY (ep [] D s))
 |[],_,_=>rfl
 |d::D,k,h=>by
  rw[Pk,acp N s D (k+1) ⟨λy a=>h.len y (Zg _ a),λy a=>h.me y (Zg _ a)⟩];unfold ep;rw[List.find?_nil,List.find?_cons];unfold lX;cases bL d.aC==bL s with
  |true=>
   simp only[V1];rw[ach N d _ _ _ (by have:=h.len d Zl;simp only[Zc];omega),Wo];rfl
  |false=>rfl
def ack(N:Nat)(s:so)(p:bo)(a:hX p.aM):∀(l:I fm)(k:Nat),FP N s p l k=some (FY (ep l p.aM s))
 |[],k=>by rw[FP,acp N s _ _ a]
 |x::l,k=>by
  rw[FP,ack N s p a l];unfold ep;rw[List.find?_cons];cases bL x.aC==bL s<;>rfl
def acj(N:Nat)(p:bo)(s:so)(a:hX p.aM):MD N p s=some (FY (ep p.bu p.aM s)):=ack N s p a p.bu 0
def aci{P:I fm}{D:I bZ}(c:mu P)(e:hX D)(s:so):(ep P D s).2.1.length<=1000000000/\∀y∈(ep P D s).2.1,ng 1000000000 y:=by
 unfold ep;cases g:P.find? (λx=>bL x.aC==bL s)with
 |some x=>
  have:=List.mem_of_find?_eq_some g;exact⟨c.len x this,c.me x this⟩
 |none=>
  dsimp only;cases h:D.find? (lX s)with
  |some d=>
   have f:=List.mem_of_find?_eq_some h;refine⟨?_,λy b=> ?_⟩;{have:=e.len d f;dsimp only;rw[Zq];omega};{obtain⟨a,i,rfl⟩:=W1.1 b;exact e.Gp f a i}
  |none=>exact⟨by simp,λy b=>by cases b⟩
def jm(p:bo)(env:I aJ)(s:so):I Int×aL×Int:=
 let q:=ep p.bu p.aM s
 bif q.2.2 then
  (let x:=Z7 env q.2.1 []
   bif x.2 !=0 then([],q.1,x.2)else bif decide (cW x.1>4096)then([],q.1,15)else(x.1,q.1,0))
 else([],q.1,9)
def acU(env:I aJ):∀(l:I bD)(a:I Int),((Z7 env l a).2 !=0)=true->(Z7 env l a).1=[]
 |[],a,h=>by cases h
 |f::l,a,h=>by
  rw[Z7]at h ⊢;cases b:(dB f env).2 !=0 with
  |true=>rfl
  |false=>
   rw[b,UQ]at h;rw[UQ];cases c:sF (dB f env).1 with
   |false=>rfl
   |true=>rw[c,V1]at h;rw[V1];exact acU env l _ h
def aeJ(N:Nat)(d:2147483648<N)(p:bo)(env:I aJ)(s:so)(a:mu p.bu)(b:hX p.aM):CM N p env s=some (jm p env s):=by
 unfold CM jm FX;rw[UH N p s a b,re];obtain⟨e,f⟩:=aci a b s;rw[(OJ N d env (ep p.bu p.aM s).2.1 0 [] f (by simpa using e)).1];dsimp only;cases (ep p.bu p.aM s).2.2 with
 |false=>rfl
 |true=>
  simp only[V1,re];cases c:(Z7 env (ep p.bu p.aM s).2.1 []).2 !=0 with
  |true=>rfl
  |false=>
   rw[UQ,UQ,atb N 4096 (by decide) (by decide) _ (F0 env _ [] λx c=>by cases c),re,acq 4096 (by decide) (by decide)];cases decide (cW (Z7 env (ep p.bu p.aM s).2.1 []).1>4096)<;>rfl
def acQ(N:Nat)(c:2147483648<N)(p:bo)(env:I aJ)(s:so)(d:mu p.bu)(b:hX p.aM):GI N p env s=some ((jm p env s).1,(jm p env s).2.2):=by
 unfold GI jm GP;rw[acj N p s b,re];obtain⟨f,g⟩:=aci d b s;have e:=(OJ N c env (ep p.bu p.aM s).2.1 0 [] g (by simpa using f)).2;unfold FY;dsimp only;rw[e];cases (ep p.bu p.aM s).2.2 with
 |false=>rfl
 |true=>
  simp only[V1,re];cases a:(Z7 env (ep p.bu p.aM s).2.1 []).2 !=0 with
  |true=>
   rw[Vr]at a;rw[show((Z7 env (ep p.bu p.aM s).2.1 []).2==0)=false by rw[Vb];exact a];simp only[UQ,re,V1];rw[acU env _ _ (Vr.2 a)]
  |false=>
   rw[bne_eq_false_iff_eq]at a;rw[a,AF N _ (F0 env _ [] λx a=>by cases a)];simp only[Ys,V1,UQ,re];rw[alJ 4096 (by decide)];cases decide (cW (Z7 env (ep p.bu p.aM s).2.1 []).1>4096)<;>rfl
def alG(N:Nat)(L:I Int):vh N L L=some true:=by
 have a:∀(l:I Int)(k:Nat),L.drop k=l->wa N L l k=some true:=by
  intro l
  induction l with
  |nil=>intro k _;rfl
  |cons x l b=>intro k h;rw[wa,ZB,aY h,re,bne_self_eq_false,UQ];exact b (k+1) (xf h)
 unfold vh;rw[agI,UQ];exact a L 0 rfl
def gr:I Int->Int->I Int×Int
 |[],n=>([],n)
 |x::l,n=>((gr l n).2.tmod x::(gr l n).1,(gr l n).2.tdiv x)
def lM(ext:I Int)(n:Int):I Int:=(gr ext n).1
def Bm:∀(l:I Int)(n:Int),(gr l n).1.length=l.length
 |[],_=>rfl
 |x::l,n=>by rw[gr];simp only[Zi];rw[Bm l n]
def VF(l:I Int)(n:Int):(lM l n).length=l.length:=Bm l n
structure nB(l:List Int):Prop where
 r:∀x∈l,1<=x/\x<=4096
 n:l.length<=16
 p:cW l<=65536
def DU:∀{l:I Int}{n:Int},(∀x∈l,1<=x/\x<=4096)->0<=n->n<=65537->(0<=(gr l n).2/\(gr l n).2<=65537)/\∀x∈(gr l n).1,0<=x/\x<4096
 |[],n,_,c,d=>⟨⟨c,d⟩,λx e=>by cases e⟩
 |x::l,n,h,c,d=>by
  obtain⟨⟨b,f⟩,g⟩:=DU (l:=l) (λy a=>h y (Zg _ a)) c d;have e:=h x Zl;rw[gr];refine⟨⟨Int.tdiv_nonneg b (by omega),?_⟩,λy a=> ?_⟩;{rw[a7 b];exact Int.le_trans (Int.ediv_le_self _ b) f}
  ·rcases ZY.1 a with rfl|a
   ·rw[Int.tmod_eq_emod_of_nonneg b];have:=Int.emod_nonneg (gr l n).2 (show x≠0 by omega);have:=Int.emod_lt_of_pos (gr l n).2 (show 0<x by omega);omega
   ·exact g y a
def akE{l:I Int}{n:Int}(h:∀x∈l,1<=x/\x<=4096)(h1:0<=n)(a:n<=65537):∀x∈lM l n,0<=x/\x<4096:=(DU h h1 a).2
def JC{α:Type}{l:I α}{j:Nat}{x:α}(h:l[j]?=some x):l.drop j=x::l.drop (j+1):=by
 obtain⟨a,rfl⟩:=Zk.1 h;exact List.drop_eq_getElem_cons a
def acM{α:Type}(a b:α)(j:Nat)(l:I α):(List.replicate (j+1) a++l).set j b=List.replicate j a++(b::l):=by
 rw[List.replicate_succ',ZP,List.set_append_right _ _ (by simp)];simp
def adI{α:Type}(a:α)(j:Nat)(l:I α):(List.replicate (j+1) a++l)[j]?=some a:=by
 rw[ZW (by simp)];simp [List.getElem?_replicate]
def Tr{z:Int}(h1:0<=z)(a:z<=65537):IntKind.i64.wrap z=z:=by
 rw[b6];omega
def adB(N:Nat)(ext:I Int)(n:Int)(h:∀x∈ext,1<=x/\x<=4096)(h1:0<=n)(a:n<=65537):∀(j f:Nat),j<=ext.length->j<f->j<=1000->
 C0 N ext f (gr (ext.drop j) n).2 ((j:Int)-1) (List.replicate j 0++(gr (ext.drop j) n).1)=some (lM ext n,true)
 |0,f,i,k,_=>by
  obtain⟨f,rfl⟩:∃b,f=b+1:=⟨f-1,by omega⟩;rw[C0,Zx (by decide),UQ,Yq,List.replicate_zero,Wo,show Nat.beq (gr ext n).1.length ext.length=true by rw[Bm];exact Nat.beq_refl _];rfl
 |j+1,f,i,k,r=>by
  obtain⟨f,rfl⟩:∃b,f=b+1:=⟨f-1,by omega⟩;obtain⟨x,c⟩:∃x,ext[j]?=some x:=⟨_,Zd (by omega)⟩;have t:=h x (ZX c);have g:=JC c;have u:=(DU (l:=ext.drop (j+1)) (n:=n) (λy d=>h y (Z2 d)) h1 a).1;rw[C0,show((j+1:Nat):Int)-1=(j:Int) by omega,dO (show(j:Int)>=0 by omega),V1,V1,ZB,c,re,Vr.2 (show x≠0 by omega),V1];have m:(List.replicate (j+1) (0:Int)++(gr (ext.drop (j+1)) n).1).length=ext.length:=by
   rw[Zj,Yd,Bm,ak];omega
  rw[m,Nat.beq_refl,V1,dO (show(j:Int)<(ext.length:Int) by omega),V1,adI,re,acM];have o:IntKind.i64.wrap ((gr (ext.drop (j+1)) n).2.tdiv x)=(gr (ext.drop j) n).2:=by
    have e:=(DU (l:=ext.drop j) (n:=n) (λy d=>h y (Z2 d)) h1 a).1;rw[g,gr]at e ⊢;exact Tr e.1 e.2
  have q:(gr (ext.drop (j+1)) n).2.tmod x::(gr (ext.drop (j+1)) n).1=(gr (ext.drop j) n).1:=by rw[g,gr]
  rw[o,q,ik (by omega) (by omega)];exact adB N ext n h h1 a j f (by omega) (by omega) (by omega)
def acD(N:Nat)(ext:I Int):∀(l:I Int)(k:Nat),(∀x∈l,1<=x/\x<=4096)->Nv N ext l k false=BC N false ext 0 1
 |[],k,_=>rfl
 |x::l,k,h=>by
  have b:=h x Zl;rw[Nv,Zx (show ¬x<0 by omega),UQ,UQ,re];dsimp only;rw[show(x==0)=false by rw[Vb];omega];exact acD N ext l (k+1) λy a=>h y (Zg _ a)
def ac4(N:Nat):∀(l:I Int)(k:Nat)(v:Int),(∀x∈l,1<=x/\x<=4096)->1<=v->v*cW l<=65536->BC N false l k v=some 0
 |[],k,v,_,_,_=>rfl
 |x::l,k,v,h,d,b=>by
  have c:=h x Zl;have e:=pN (l:=l) λy a=>h y (Zg _ a);rw[cW,<-ab]at b;have f:1*1<=v*x:=ah d c.1 (by decide) (by omega);have g:v*x*1<=v*x*cW l:=Ym e (by omega);have i:v*1<=v*x:=Ym c.1 (by omega);have j:x<=(65536:Int).tdiv v:=by
   rw[a7 (by decide)];refine(Int.le_ediv_iff_mul_le (by omega)).2 ?_;rw[Int.mul_comm];omega
  have m:(65536:Int).tdiv v<=65536:=by
   rw[a7 (by decide)];exact Int.ediv_le_self _ (by decide)
  rw[BC,UQ,Vr.2 (show v≠0 by omega),V1,re,Tr (by omega) (by omega),Zx (show ¬x>(65536:Int).tdiv v by omega),UQ,UQ,ik (by omega) (by omega)];exact ac4 N l (k+1) (v*x) (λy a=>h y (Zg _ a)) (by omega) b
def ac2(N:Nat):∀(l:I Int)(k:Nat)(v:Int),(∀x∈l,1<=x/\x<=4096)->1<=v->v*cW l<=65536->BP N l k v=some (v*cW l)
 |[],k,v,_,_,_=>by rw[BP,cW,Int.mul_one]
 |x::l,k,v,h,c,b=>by
  have d:=h x Zl;have e:=pN (l:=l) λy a=>h y (Zg _ a);rw[cW,<-ab]at b ⊢;have f:1*1<=v*x:=ah c d.1 (by decide) (by omega);have g:v*x*1<=v*x*cW l:=Ym e (by omega);rw[BP,ik (by omega) (by omega)];exact ac2 N l (k+1) (v*x) (λy a=>h y (Zg _ a)) (by omega) b
def af1(N:Nat)(ext:I Int):∀(l:I Int)(k:Nat),(∀x∈l,1<=x/\x<=4096)->Mq N ext l k=BP N ext 0 1
 |[],k,_=>rfl
 |x::l,k,h=>by
  have b:=h x Zl;rw[Mq,show(x==0)=false by rw[Vb];omega,UQ];exact af1 N ext l (k+1) λy a=>h y (Zg _ a)
def abv(N:Nat)(l:I Int)(h:nB l):Jk N l=some (cW l):=by
 have a:=h.n;unfold Jk QE;rw[Zx (show ¬(l.length:Int)>16 by omega),UQ,acD N l l 0 h.r,ac4 N l 0 1 h.r (by decide) (by rw[ao];exact h.p),re,show((0:Int) !=0)=false from rfl,UQ,af1 N l l 0 h.r,ac2 N l 0 1 h.r (by decide) (by rw[ao];exact h.p),ao]
def amJ(N:Nat)(a:2147483648<N)(l:I Int)(h:nB l)(n:Int)(h1:0<=n)(b:n<cW l):Hv N l n=some (lM l n,true):=by
 have c:=h.n;have d:=h.p;unfold Hv;rw[Zx (show ¬n<0 by omega),UQ,abv N l h,re,Zx (show ¬n>=cW l by omega),re,UQ,fq (by omega),V1];have:=adB N l n h.r h1 (by omega) l.length N (Zr _) (by omega) (by omega);rw[List.drop_length,gr]at this;rw[ik (by omega) (by omega)]
 simpa using this
def oP(l:I Int)(k n:Nat):I (I Int):=(List.range' k n).map λ(i:Nat)=>lM l (i:Int)
def Ck(l:I Int)(k n:Nat):oP l k (n+1)=lM l (k:Int)::oP l (k+1) n:=by
 unfold oP;rw[List.range'_succ,ZS]
def aa3(N:Nat)(a:2147483648<N)(l:I Int)(h:nB l):∀(n k:Nat),(k:Int)+n<=cW l->Dw N l n k=some (oP l k n)
 |0,k,_=>rfl
 |n+1,k,b=>by
  rw[Dw,amJ N a l h (k:Int) (by omega) (by omega),re,V1,aa3 N a l h n (k+1) (by omega),re,Ck]
def agu(N:Nat)(a:2147483648<N)(l:I Int)(h:nB l):I8 N l=some (oP l 0 (cW l).toNat):=by
 have b:=h.p;have c:=pN h.r;unfold I8;rw[abv N l h,re,dO (show(0:Int)<=cW l by omega),fq (show(cW l).toNat<=9223372036854775807 by omega),Bool.and_self,V1];exact aa3 N a l h _ 0 (by omega)
def acK(N:Nat)(l:I Int)(h:nB l):DT N l=some l:=by
 have a:=h.n;unfold DT;rw[fq (by omega),V1]
def jd(names:I so)(a:I Int):I aJ:=List.zipWith (λs v=>(⟨s,Int64.ofInt v⟩:aJ)) names a
def K8(names:I so)(a:I Int)(h:names.length=a.length):(jd names a).length=names.length:=by
 unfold jd;rw[List.length_zipWith];omega
def abt(N:Nat)(env:I aJ)(b:I Int)(e:∀x∈b,0<=x/\x<4096)(f:env.length<=1000000000):∀(l:I dF)(k:Nat)(a:I aJ),l.length+k=b.length->a.length+l.length<=1000000000->Jw N env b l k a=some (a++jd (l.map (·.aC)) (b.drop k)++env)
 |[],k,a,_,c=>by
  rw[Jw,fq (by simp only[Zc]at c;omega),V1];unfold jd;simp
 |x::l,k,a,g,c=>by
  simp only[Zi]at g c;obtain⟨v,d⟩:∃v,b[k]?=some v:=⟨_,Zd (by omega)⟩;have h:=e v (ZX d);rw[Jw,ZB,d,re,ik (by omega) (by omega),Ys,V1,fq (by omega),V1];dsimp only;rw[abt N env b e f l (k+1) _ (by omega) (by simp only[Zj,Zi,Zc];omega),JC d];unfold jd;simp
def abp(N:Nat)(l:I dF)(a:I Int)(env:I aJ)(d:l.length=a.length)(h1:l.length<=1000000)(b:∀x∈a,0<=x/\x<4096)(c:env.length<=1000000000):NH N l a env=some (jd (l.map (·.aC)) a++env):=by
 have:=abt N env a b c l 0 [] (by omega) (by simp only[Zc];omega);rw[Yq,Wo]at this;exact this
def abI(N:Nat)(names:I so)(ext:I Int)(env:I aJ)(n:Int)(i:names.length=ext.length)(m:names.length<=1000000)(o:env.length<=1000000000)(h:∀x∈ext,1<=x/\x<=4096)(h1:0<=n)(b:n<=65537):∀(j f:Nat),j<=ext.length->j<f->
 vK N names ext env f (gr (ext.drop j) n).2 ((j:Int)-1) (List.replicate j ⟨bs [],0⟩++jd (names.drop j) (gr (ext.drop j) n).1)=some (jd names (lM ext n)++env)
 |0,f,q,r=>by
  obtain⟨f,rfl⟩:∃c,f=c+1:=⟨f-1,by omega⟩;rw[vK,Zx (by decide),UQ,Yq,Yq,List.replicate_zero,Wo,Zj,K8 _ _ (by rw[Bm];exact i),Nat.beq_refl,V1,fq (by omega),V1,Nat.beq_refl];rfl
 |j+1,f,q,r=>by
  obtain⟨f,rfl⟩:∃c,f=c+1:=⟨f-1,by omega⟩;obtain⟨x,d⟩:∃x,ext[j]?=some x:=⟨_,Zd (by omega)⟩;obtain⟨s,k⟩:∃s,names[j]?=some s:=⟨_,Zd (by omega)⟩;have z:=h x (ZX d);have e:=JC d;have t:=JC k;have A:=DU (l:=ext.drop (j+1)) (n:=n) (λy g=>h y (Z2 g)) h1 b;have a:=DU (l:=ext.drop j) (n:=n) (λy g=>h y (Z2 g)) h1 b;rw[e,gr]at a;have B:=a.2 _ Zl;rw[vK,show((j+1:Nat):Int)-1=(j:Int) by omega,dO (show(j:Int)>=0 by omega),V1,V1,ZB,k,re,d,re,Vr.2 (show x≠0 by omega),V1,ik (by omega) (by omega),Ys,V1];have u:(List.replicate (j+1) (⟨bs [],0⟩:aJ)++jd (names.drop (j+1)) (gr (ext.drop (j+1)) n).1).length=names.length:=by
   rw[Zj,Yd,K8 _ _ (by rw[Bm,ak,ak];omega),ak];omega
  rw[u,Nat.beq_refl,V1,dO (show(j:Int)<(names.length:Int) by omega),V1,adI,re,acM];have v:IntKind.i64.wrap ((gr (ext.drop (j+1)) n).2.tdiv x)=(gr (ext.drop j) n).2:=by
    rw[e,gr];exact Tr a.1.1 a.1.2
  have w:(⟨s,Int64.ofInt ((gr (ext.drop (j+1)) n).2.tmod x)⟩:aJ)::jd (names.drop (j+1)) (gr (ext.drop (j+1)) n).1=jd (names.drop j) (gr (ext.drop j) n).1:=by rw[e,t,gr];rfl
  rw[v,w,ik (by omega) (by omega)];exact abI N names ext env n i m o h h1 b j f (by omega) (by omega)
def abm(N:Nat)(f:2147483648<N)(names:I so)(ext:I Int)(env:I aJ)(n:Int)(a:names.length=ext.length)(b:names.length<=1000000)(c:env.length<=1000000000)(h:∀x∈ext,1<=x/\x<=4096)(h1:0<=n)(d:n<=65537):C8 N names ext n env=some (jd names (lM ext n)++env):=by
 unfold C8;have:=abI N names ext env n a b c h h1 d ext.length N (Zr _) (by omega);rw[List.drop_length,gr,<-a,List.drop_length]at this;rw[fq (by omega),V1,ik (by omega) (by omega)];have e:jd ([]:I so) []=[]:=rfl;rw[e,ZV]at this;exact this
def Sc:∀{ext:I Int}{n:Int}{e:Int},ext[ext.length-1]?=some e->(lM ext n)[ext.length-1]?=some (n.tmod e)
 |[],n,e,h=>by simp at h
 |[x],n,e,h=>by
  simp only[Zi,Zc,ZJ,Nat.sub_self,List.getElem?_cons_zero,W2]at h;subst h;rfl
 |x::y::l,n,e,h=>by
  have a:(y::l)[(y::l).length-1]?=some e:=by
   simp only[Zi,Nat.add_sub_cancel]at h ⊢
   rwa [Yt]at h
  have:=Sc (n:=n) a;simp only[Zi,Nat.add_sub_cancel]at this ⊢;show(((gr (y::l) n).2.tmod x::(gr (y::l) n).1):I Int)[l.length+1]?=_;rw[Yt];exact this
abbrev mF(l:I so):Prop:=l.Pairwise λa b=>lt a b=true
def as9{a b:so}(h:lt a b=true):lt b a=false:=by
 cases e:lt b a with
 |false=>rfl
 |true=>have:=agJ h e;rw[Ws]at this;cases this
def agq:∀{a b:I so},mF a->mF b->(∀s,s∈a↔s∈b)->a=b
 |[],[],_,_,_=>rfl
 |[],y::b,_,_,h=>by have:=(h y).2 Zl;cases this
 |x::a,[],_,_,h=>by have:=(h x).1 Zl;cases this
 |x::a,y::b,f,g,h=>by
  rw[mF,List.pairwise_cons]at f g;have e:x=y:=by
    rcases ZY.1 ((h x).1 Zl)with e|c
    ·exact e
    ·rcases ZY.1 ((h y).2 Zl)with e|j
     ·exact e.symm
     ·have q1:=g.1 x c;have i:=as9 (f.1 y j);rw[q1]at i;cases i
  subst e;rw[agq f.2 g.2 λs=> ?_];constructor
  ·intro d;rcases ZY.1 ((h s).1 (Zg _ d))with rfl|c
   ·have:=f.1 s d;rw[Ws]at this;cases this
   ·exact c
  ·intro d;rcases ZY.1 ((h s).2 (Zg _ d))with rfl|c
   ·have:=g.1 s d;rw[Ws]at this;cases this
   ·exact c
def agp(d:Array (I UInt8))(f:∀i j,i<j->j<d.size->d[i]! <=d[j]!):∀m,m<=d.size->(Lib.compactUpTo d m).Pairwise (·<·)/\(∀x∈Lib.compactUpTo d m,∃j,j<m/\d[j]! =x)/\∀j,j<m->d[j]! ∈Lib.compactUpTo d m
 |0,_=>by
  have q:Lib.compactUpTo d 0=[]:=rfl;rw[q];exact⟨List.Pairwise.nil,(λx a=>by cases a),(λj c=>by omega)⟩
 |m+1,z=>by
  obtain⟨n,g,k⟩:=agp d f m (by omega);rw[Lib.compactUpTo_succ];cases b:Lib.keeps d m with
  |true=>
   rw[ZL rfl];refine⟨List.pairwise_append.2 ⟨n,List.pairwise_singleton _ _,λx a y o=> ?_⟩,λx a=> ?_,λj c=> ?_⟩
   ·rw[ZZ]at o;subst o;obtain⟨j,c,rfl⟩:=g x a;refine Classical.byContradiction λr=> ?_;have l:d[m]! <=d[j]! :=List.not_lt.mp r;have t:d[j]! <=d[m-1]! :=by
      by_cases e:j=m-1;{rw[e];exact List.le_refl _};{exact f j (m-1) (by omega) (by omega)}
    have u:d[m-1]! <=d[m]! :=f (m-1) m (by omega) (by omega);have v:d[m]! =d[m-1]! :=List.le_antisymm (List.le_trans l t) u;unfold Lib.keeps at b;rw[VX]at b;rcases b with b|b
    ·omega
    ·exact b v
   ·rcases ZE.1 a with a|a
    ·obtain⟨j,c,e⟩:=g x a;exact⟨j,by omega,e⟩
    ·rw[ZZ]at a;exact⟨m,by omega,a.symm⟩
   ·by_cases e:j=m
    ·subst e;exact Zw _ (ZZ.2 rfl)
    ·exact aa _ (k j (by omega))
  |false=>
   rw[ZN (by simp),ZV];refine⟨n,λx a=> ?_,λj c=> ?_⟩;{obtain⟨j,c,e⟩:=g x a;exact⟨j,by omega,e⟩}
   ·by_cases e:j=m
    ·subst e;unfold Lib.keeps at b;rw[VT]at b;have A:j≠0:=λh=>b (.inl h);have w:d[j]! =d[j-1]! :=Classical.byContradiction λh=>b (.inr h);rw[w];exact k (j-1) (by omega)
    ·exact k j (by omega)
def asq(d:I so):(jn d).Pairwise λx y=>x<=y:=by
 have:=List.pairwise_mergeSort (le:=λx y:I UInt8=>decide (x<=y)) (λa b c e f=>by rw[VX]at*;exact List.le_trans e f) (λa b=>by rw[af,VX,VX];exact List.le_total a b) (d.map bL);exact this.imp λh=>by rwa [VX]at h
def akl(ss:I so):mF (jJ ss)/\∀s,s∈jJ ss↔s∈ss:=by
 have g:=asq ss;obtain⟨h,k,l⟩:=agp (jn ss).toArray (λi j m d=>by
  have n:j<(jn ss).length:=by simpa using d
  have:=List.pairwise_iff_getElem.1 g i j (by omega) n m;rw[getElem!_pos _ i (by simp;omega),getElem!_pos _ j d]
  simpa using this) (jn ss).length (by simp)
 have e:∀x,x∈Lib.compact (jn ss)↔x∈jn ss:=λx=>by
  constructor;{intro c;obtain⟨j,d,rfl⟩:=k x c;rw[getElem!_pos _ j (by simpa using d)];simp}
  ·intro c;obtain⟨j,d,rfl⟩:=a8.1 c;have:=l j d;rw[getElem!_pos _ j (by simpa using d)]at this;unfold Lib.compact
   simpa using this
 unfold jJ;constructor;{rw[mF,List.pairwise_map];refine List.Pairwise.imp ?_ h;intro a b f;rw[P1];exact f}
 ·intro s;rw[W1];constructor
  ·rintro⟨x,c,rfl⟩;rw[e]at c;unfold jn at c;rw[List.mem_mergeSort,W1]at c;obtain⟨y,o,rfl⟩:=c;exact o
  ·intro q;refine⟨bL s,(e _).2 ?_,rfl⟩;unfold jn;rw[List.mem_mergeSort,W1];exact⟨s,q,rfl⟩
def abj{L:I so}{s:so}{k:Nat}(f:mF L)(h1:∀x∈L.take k,lt x s=true)(g:∀x∈L.drop k,lt s x=true):
 mF (L.take k++[s]++L.drop k)/\(∀x,x∈L.take k++[s]++L.drop k↔x∈L\/x=s)/\(L.take k++[s]++L.drop k).length<=L.length+1:=by
 have d:=f;rw[<-Yc k L,mF,List.pairwise_append]at d;refine⟨?_,λx=> ?_,?_⟩
 ·rw[mF,ZP,List.pairwise_append];refine⟨d.1,?_,λa e b c=> ?_⟩
  ·rw[List.singleton_append,List.pairwise_cons];exact⟨g,d.2.1⟩
  ·rcases ZE.1 c with c|c
   ·rw[ZZ]at c;subst c;exact h1 a e
   ·exact d.2.2 a e b c
 ·rw[ZE,ZE,ZZ];constructor
  ·rintro((h|h)|h)
   ·exact .inl (List.mem_of_mem_take h)
   ·exact .inr h
   ·exact .inl (Z2 h)
  ·rintro(h|h)
   ·rw[<-Yc k L,ZE]at h;rcases h with h|h
    ·exact .inl (.inl h)
    ·exact .inr h
   ·exact .inl (.inr h)
 ·simp only[Zj,ae,ak,Zi,Zc];omega
def aeA(N:Nat)(L:I so)(s:so)(c:mF L)(n:L.length<=1000000000):∀(l:I so)(k:Nat),L.drop k=l->k<=L.length->(∀x∈L.take k,lt x s=true)->
 ∃R,Et N L s l k=some R/\mF R/\(∀x,x∈R↔x∈L\/x=s)/\R.length<=L.length+1
 |[],k,b,f,d=>by
  have q:=abj (s:=s) c d (by rw[b];intro x a;cases a);have o:(L.take k).length<=1000000000:=by rw[ae];omega
  have r:(L.drop k).length<=1000000000:=by rw[ak];omega
  rw[Et,dO (show(0:Int)<=(k:Int) by omega),V1,ZB,dO f,V1,Yq,fq (by omega),V1,fq (by omega),V1,fq (by simp only[Zj,Zi,Zc];omega),V1];exact⟨_,rfl,q⟩
 |y::l,k,b,f,d=>by
  have t:k<L.length:=by
   refine Classical.byContradiction λh=> ?_;rw[List.drop_of_length_le (by omega)]at b;cases b
  rw[Et];cases g:Op.bytesLess (bL y) (bL s)with
  |true=>
   rw[V1];refine aeA N L s c n l (k+1) ?_ t λx a=> ?_
   ·rw[<-List.drop_drop,b];rfl
   ·have e:L[k]?=some y:=aY b;rw[List.take_add_one,e]at a;rcases ZE.1 a with a|a
    ·exact d x a
    ·simp only[Option.toList_some,ZZ]at a;subst a;exact g
  |false=>
   rw[UQ];cases i:(bL y==bL s)with
   |true=>
    rw[V1];have e:y=s:=atJ.1 i;have u:y∈L:=by
      have:y∈L.drop k:=by rw[b];exact Zl
      exact Z2 this
    refine⟨L,rfl,c,λx=>⟨λh=>.inl h,?_⟩,an _⟩;rintro(h|rfl);{exact h};{rw[<-e];exact u}
   |false=>
    have j:lt s y=true:=by
     cases e:lt s y with
     |true=>rfl
     |false=>exact absurd (ang g e) (alL.1 i)
    have m:=c;rw[<-Yc k L,mF,List.pairwise_append,b,List.pairwise_cons]at m;have q:=abj (s:=s) c d (by
     rw[b];intro x a;rcases ZY.1 a with rfl|a
     ·exact j
     ·exact agJ j (m.2.1.1 x a))
    have o:(L.take k).length<=1000000000:=by rw[ae];omega
    have r:(L.drop k).length<=1000000000:=by rw[ak];omega
    rw[UQ,ZB,dO f,V1,Yq,fq (by omega),V1,fq (by omega),V1,fq (by simp only[Zj,Zi,Zc];omega),V1];exact⟨_,rfl,q⟩
def afk(N:Nat)(L:I so)(s:so)(b:mF L)(c:L.length<=1000000000):∃R,Fo N L s=some R/\mF R/\(∀x,x∈R↔x∈L\/x=s)/\R.length<=L.length+1:=by
 unfold Fo;refine aeA N L s b c L 0 rfl (by omega) λx a=> ?_;rw[List.take_zero]at a;cases a
def m6:I c7->I so
 |[]=>[]
 |x::l=>bif bL x.dc==bL (bs [])then m6 l else x.dc::m6 l
def Oe(e:ay):I so:=(bif e.aD==3 then[e.aC]else[])++m6 e.xIdx
def nV:I ay->I so
 |[]=>[]
 |e::l=>Oe e++nV l
def ab3:∀l:I c7,(m6 l).length<=l.length
 |[]=>Zr _
 |x::l=>by
  have:=ab3 l;rw[m6];cases bL x.dc==bL (bs [])with
  |true=>simp only[V1,Zi];omega
  |false=>simp only[UQ,Zi];omega
def abo(B:Nat):∀l:I ay,(∀x∈l,x.xIdx.length<=B)->(nV l).length<=l.length*(B+1)
 |[],_=>by simp [nV]
 |e::l,h=>by
  have b:=abo B l λx a=>h x (Zg _ a);have c:=h e Zl;have d:=ab3 e.xIdx;rw[nV];unfold Oe;simp only[Zj,Zi,Nat.succ_mul];have f:(bif e.aD==3 then[e.aC]else[]).length<=1:=by cases e.aD==3<;>simp
  omega
def LI(N:Nat)(c:Nat->I so->U (I so)):∀(l:I c7)(k:Nat)(a:I so),a.length+(m6 l).length<=1000000000->uC N c l k a.length a=c (a++m6 l).length (a++m6 l)
 |[],k,a,_=>by rw[uC,m6,ZV]
 |x::l,k,a,h=>by
  rw[uC];rw[m6]at h ⊢;cases b:(bL x.dc==bL (bs []))with
  |true=>
   rw[b,V1]at h;rw[V1,V1];exact LI N c l (k+1) a h
  |false=>
   rw[b,UQ,Zi]at h;rw[UQ,UQ,Nat.beq_refl,V1,fq (by omega),V1];have:=LI N c l (k+1) (a++[x.dc]) (by simp only[Zj,Zi,Zc];omega);rw[show a++x.dc::m6 l=(a++[x.dc])++m6 l by simp,<-this,Zj];rfl
def RO(N:Nat):∀(l:I ay)(a:I so),a.length+(nV l).length<=1000000000->pf N l a.length a=some (jJ (a++nV l))
 |[],a,h=>by
  rw[pf,nV,ZV];unfold Tt;rw[Nat.beq_refl,show Nat.blt a.length 4611686018427387904=true from WS (by omega)];rfl
 |e::l,a,h=>by
  rw[pf];rw[nV]at h ⊢;unfold Oe at h ⊢;simp only[Zj]at h;cases d:(e.aD==3)with
  |true=>
   rw[d]at h;simp only[V1,Zi,Zc]at h;rw[V1,V1,Nat.beq_refl,V1,fq (by omega),V1];unfold DY;have q:=LI N (λb c=>pf N l b c) e.xIdx 0 (a++[e.aC]) (by simp only[Zj,Zi,Zc];omega);rw[show(a++[e.aC]).length=a.length+1 by simp]at q;rw[q,RO N l _ (by simp only[Zj,Zi,Zc];omega)];simp
  |false=>
   rw[d]at h;simp only[UQ,Zc]at h;rw[UQ,UQ];unfold DY;have q:=LI N (λb c=>pf N l b c) e.xIdx 0 a (by omega);rw[q,RO N l _ (by simp only[Zj];omega)];simp
def acN(a names R:I so):Prop:=mF R/\(∀x,x∈R↔x∈a\/x∈names)/\R.length<=a.length+names.length
def KU(N:Nat)(c:I so->U (I so)):∀(l:I c7)(k:Nat)(a:I so),mF a->a.length+(m6 l).length<=1000000000->∃R,I7 N c l k a=c R/\acN a (m6 l) R
 |[],k,a,b,_=>⟨a,rfl,b,λx=>by simp [m6],by simp⟩
 |x::l,k,a,b,h=>by
  rw[I7];rw[m6]at h ⊢;cases d:(bL x.dc==bL (bs []))with
  |true=>
   rw[d,V1]at h;rw[V1,V1];exact KU N c l (k+1) a b h
  |false=>
   rw[d,UQ,Zi]at h;rw[UQ,UQ];obtain⟨R,q1,e,f,n⟩:=afk N a x.dc b (by omega);rw[q1,re];obtain⟨g,i,j,m,o⟩:=KU N c l (k+1) R e (by omega);refine⟨g,i,j,λy=> ?_,by rw[Zi];omega⟩;rw[m,f,ZY,or_assoc]
def Rh(N:Nat):∀(l:I ay)(k:Nat)(a:I so),mF a->a.length+(nV l).length<=1000000000->∃R,xH N l k a=some R/\acN a (nV l) R
 |[],k,a,b,_=>⟨a,rfl,b,λx=>by simp [nV],by simp⟩
 |e::l,k,a,b,h=>by
  rw[xH];rw[nV]at h ⊢;unfold Oe at h ⊢;simp only[Zj]at h;cases o:(e.aD==3)with
  |true=>
   rw[o]at h;simp only[V1,Zi,Zc]at h;rw[V1,V1];obtain⟨R,q1,q,r,v⟩:=afk N a e.aC b (by omega);rw[q1,re];unfold Eo;obtain⟨c,d,f,g,t⟩:=KU N (λi=>xH N l (k+1) i) e.xIdx 0 R q (by omega);rw[d];obtain⟨S,j,m,n,u⟩:=Rh N l (k+1) c f (by omega);refine⟨S,j,m,λy=> ?_,by simp only[Zj,Zi,Zc];omega⟩;rw[n,g,r];simp only[ZE,ZZ,or_assoc]
  |false=>
   rw[o]at h;simp only[UQ,Zc]at h;rw[UQ,UQ];unfold Eo;obtain⟨c,d,f,g,t⟩:=KU N (λi=>xH N l (k+1) i) e.xIdx 0 a b (by omega);rw[d];obtain⟨S,j,m,n,u⟩:=Rh N l (k+1) c f (by omega);refine⟨S,j,m,λy=> ?_,by simp only[Zj,Zc];omega⟩;rw[n,g];simp only[ZE,Yp,false_or,or_assoc]
def abi(N:Nat)(rec:ay->U (I ay)):∀(l:I ay)(k:Nat)(a:I ay),(∀x∈l,rec x=some (dR x))->a.length+(k8 l).length<=1000000->Eg N rec l k a=some (a++k8 l)
 |[],k,a,_,_=>by rw[Eg,k8,ZV]
 |x::l,k,a,h,b=>by
  rw[vq,Zj]at b;rw[Eg,h x Zl,re,fq (by omega),V1];dsimp only;rw[abi N rec l (k+1) _ (λy c=>h y (Zg _ c)) (by rw[Zj];omega),vq,ZP]
def abW{x:ay}:∀{l:I ay},x∈l->(dR x).length<=(k8 l).length
 |[],h=>by cases h
 |y::l,h=>by
  rw[vq,Zj];rcases ZY.1 h with rfl|h
  ·omega
  ·have:=abW h;omega
def abR(N:Nat):∀(d:Nat)(e:ay),SizeOf.sizeOf e<d->(dR e).length<=1000000->vX N d e=some (dR e)
 |0,e,h,_=>by omega
 |d+1,e,h,b=>by
  rw[vX];have c:(dR e).length=(k8 e.bS).length+1:=by unfold dR;simp
  have:=abi N (vX N d) e.bS 0 [e] (λx a=>abR N d x (by have:=vi a;omega) (by have:=abW a;omega)) (by simp only[Zi,Zc];omega);rw[this];rfl
def anK{e:ay}(h:nU e=0):(dR e).length<=2000:=by
 unfold nU at h;cases a:decide (40<j7 40 e)with
 |true=>rw[a]at h;cases h
 |false=>
  rw[a,UQ]at h;cases b:decide (2000<(dR e).length)with
  |true=>rw[b]at h;cases h
  |false=>rw[VT]at b;omega
noncomputable def Q5(e:ay):I so:=jJ (nV (dR e))
def aqD(N:Nat)(e:ay)(a:SizeOf.sizeOf e<N)(b:nU e=0)(c:jj 400 e):Gi N e=some (Q5 e)/\JZ N e=some (Q5 e):=by
 have d:=anK b;have m:=abo 400 (dR e) λx f=>(c x f).idx;have n:(nV (dR e)).length<=1000000:=by
  have:(dR e).length*(400+1)<=2000*401:=Nat.mul_le_mul d (Zr _);omega
 constructor;{unfold Gi BN;rw[re];have:=RO N (dR e) [] (by simp only[Zc];omega);rw[Wo]at this;exact this};{unfold JZ U4;have g:=abR N N e a (by omega);rw[g,re];obtain⟨R,h,i,j,o⟩:=Rh N (dR e) 0 [] List.Pairwise.nil (by simp only[Zc];omega);rw[h];obtain⟨k,l⟩:=akl (nV (dR e));unfold Q5;rw[agq i k λs=>by rw[j,l];simp]}
def oU(f:Int):Int:=bif f==1||f==5 then 4 else bif f==2 then 6 else bif f==3 then 9 else 10
def sN(f:Int)(t:aL)(a b:aA):Except Int aA:=bif decide (1<=f)&&decide (f<=5)then(bif dE t a&&dE t b then(bif (mn (oU f) t a b).2 !=0 then .error (mn (oU f) t a b).2 else .ok (mn (oU f) t a b).1)else .error 1)else .error 1
def AgD(r:Except Int aA)(q:aA×Int):Prop:=match r with
 | .ok x=>q=(x,0)
 | .error z=>q.2=z/\z≠0
def aqy(N:Nat)(f:Int):M8 N f=some (bif decide (1<=f)&&decide (f<=5)then(oU f,true)else(0,false)):=by
 unfold M8 PA oU;by_cases h:1<=f/\f<=5
 ·rw[dO h.1,dO h.2];have:f=1\/f=2\/f=3\/f=4\/f=5:=by omega
  rcases this with h|h|h|h|h<;>rw[h]<;>rfl
 ·have e:(decide (1<=f)&&decide (f<=5))=false:=by
   by_cases a:1<=f;{rw[Zx (show ¬f<=5 by omega),Bool.and_false]};{rw[Zx a];rfl}
  rw[e,show(f==1)=false by rw[Vb];omega,show(f==2)=false by rw[Vb];omega,show(f==3)=false by rw[Vb];omega,show(f==4)=false by rw[Vb];omega,show(f==5)=false by rw[Vb];omega];rfl
def afv(N:Nat)(d:9223372036854775808<N)(f:Int)(t:aL)(a b:aA)(c:dA t=true):∃q,Hr N f t [a,b]=some q/\AgD (sN f t a b) q:=by
 unfold Hr sN;rw[aqy,re];cases g:(decide (1<=f)&&decide (f<=5))with
 |false=>exact⟨_,rfl,rfl,by decide⟩
 |true=>
  rw[V1,V1,V1,rH,re,c,V1];show ∃q,Option.bind (nT N t a) _=some q/\_;rw[qS N (by omega) t a c,re];cases h:dE t a with
  |false=>exact⟨_,rfl,rfl,by decide⟩
  |true=>
   rw[V1];show ∃q,Option.bind (nT N t b) _=some q/\_;rw[qS N (by omega) t b c,re];cases i:dE t b with
   |false=>exact⟨_,rfl,rfl,by decide⟩
   |true=>
    rw[V1];show ∃q,Option.bind (yM N (oU f) t a b) _=some q/\_;rw[Rk N d,re];cases e:((mn (oU f) t a b).2 !=0)with
    |true=>exact⟨_,rfl,rfl,by simpa using e⟩
    |false=>exact⟨_,rfl,rfl⟩
def aik(N:Nat)(f:Int)(h:1<=f/\f<=5):Hi N f=some (oU f):=by
 unfold Hi oU;have:f=1\/f=2\/f=3\/f=4\/f=5:=by omega
 rcases this with h|h|h|h|h<;>rw[h]<;>rfl
def acA(N:Nat)(i:9223372036854775808<N)(f:Int)(t:aL)(a b:aA)(d:dA t=true):∃q,Dt N f t [a,b]=some q/\AgD (sN f t a b) q:=by
 unfold Dt sN;by_cases g:1<=f/\f<=5
 ·rw[dO g.1,dO g.2,Zx (show ¬f<1 by omega),Zx (show ¬f>5 by omega),UQ,re,UQ,tb,re,d,V1];show ∃q,Option.bind (nR N t a) _=some q/\_;rw[su N (by omega) t a d,re];cases c:dE t a with
  |false=>exact⟨_,rfl,rfl,by decide⟩
  |true=>
   rw[V1];show ∃q,Option.bind (nR N t b) _=some q/\_;rw[su N (by omega) t b d,re];cases j:dE t b with
   |false=>exact⟨_,rfl,rfl,by decide⟩
   |true=>
    rw[V1];show ∃q,Option.bind (Hi N f) _=some q/\_;rw[aik N f g,re];show ∃q,Option.bind (DM N (oU f) t a b) _=some q/\_;rw[TF N i,re];cases h:((mn (oU f) t a b).2 !=0)with
    |true=>exact⟨_,rfl,rfl,by simpa using h⟩
    |false=>
     rw[bne_eq_false_iff_eq]at h;refine⟨((mn (oU f) t a b).1,(mn (oU f) t a b).2),rfl,?_⟩;rw[h];rfl
 ·have e:(decide (1<=f)&&decide (f<=5))=false:=by
   by_cases c:1<=f;{rw[Zx (show ¬f<=5 by omega),Bool.and_false]};{rw[Zx c];rfl}
  rw[e];by_cases c:f<1;{rw[dO c];exact⟨_,rfl,rfl,by decide⟩};{rw[Zx c,dO (show f>5 by omega)];exact⟨_,rfl,rfl,by decide⟩}
def ab8(N:Nat)(v:I Int):∀(l:I Int)(k:Nat),NJ N v l k=wa N v l k
 |[],_=>rfl
 |x::l,k=>by rw[NJ,wa,ab8 N v l (k+1)]
def akf(N:Nat)(a b:I Int):M0 N a b=vh N a b:=by
 unfold M0 vh;rw[ab8]
def abQ(N:Nat)(v:I Int):∀(l:I Int)(k:Nat),l.length+k<=v.length->∃b,wa N v l k=some b
 |[],_,_=>⟨_,rfl⟩
 |x::l,k,h=>by
  simp only[Zi]at h;rw[wa,ZB,Zd (show k<v.length by omega),re];cases x !=v[k]with
  |true=>exact⟨_,rfl⟩
  |false=>exact abQ N v l (k+1) (by omega)
def arO(N:Nat)(a b:I Int):∃q,vh N a b=some q:=by
 unfold vh;cases h:((a.length:Int) !=(b.length:Int))with
 |true=>exact⟨_,rfl⟩
 |false=>
  rw[bne_eq_false_iff_eq]at h;exact abQ N b a 0 (by omega)
def as5(N:Nat)(a:2147483648<N)(mem:I aR)(s:so)(t:aL)(d:I Int):∃x,Jb N mem s t d=some x/\Oz N mem s t d=some x/\(x=0->∃y,jW mem s=some y/\mq y=true):=by
 unfold Jb Oz;rw[adT,aea,re,re];cases j:jW mem s with
 |none=>exact⟨9,rfl,rfl,λh=>by cases h⟩
 |some y=>
  simp only[V1];obtain⟨k,c,e⟩:=aax N a y;obtain⟨l,q1,f⟩:=aek N a y;rw[c,q1,re,re,e,f];cases g:mq y with
  |false=>exact⟨1,rfl,rfl,λh=>by cases h⟩
  |true=>
   simp only[Wh,UQ];show ∃x,(bif jg y.aH t then _ else _)=some x/\(bif jg y.aH t then _ else _)=some x/\_;cases jg y.aH t with
   |false=>exact⟨10,rfl,rfl,λh=>by cases h⟩
   |true=>
    obtain⟨b,i⟩:=arO N y.aQ d;rw[akf,i];cases b with
    |true=>exact⟨0,rfl,rfl,λ_=>⟨y,rfl,g⟩⟩
    |false=>exact⟨15,rfl,rfl,λh=>by cases h⟩
def alE(p:bo)(env:I aJ)(s:so):(jm p env s).2.1=(ep p.bu p.aM s).1:=by
 unfold jm;dsimp only;cases (ep p.bu p.aM s).2.2 with
 |false=>rfl
 |true=>
  rw[V1];cases (Z7 env (ep p.bu p.aM s).2.1 []).2 !=0 with
  |true=>rfl
  |false=>cases decide (cW (Z7 env (ep p.bu p.aM s).2.1 []).1>4096)<;>rfl
def abM(N:Nat)(a:2147483648<N)(p:bo)(env:I aJ)(mem:I aR)(c:mu p.bu)(b:hX p.aM):∀(l:I so)(k:Nat),∃x,Pf N p env mem l k=some x/\Pe N p env mem l k=some x
 |[],k=>⟨0,rfl,rfl⟩
 |s::l,k=>by
  rw[Pf,Pe,aeJ N a p env s c b,acQ N a p env s c b,acj N p s b,re,re,re];unfold FY;dsimp only;rw[<-alE p env s];cases e:((jm p env s).2.2 !=0)with
  |true=>exact⟨_,rfl,rfl⟩
  |false=>
   rw[UQ,UQ];obtain⟨x,q1,d,f⟩:=as5 N a mem s (jm p env s).2.1 (jm p env s).1;rw[q1,d,re,re];cases x !=0 with
   |true=>exact⟨x,rfl,rfl⟩
   |false=>exact abM N a p env mem c b l (k+1)
def ar4(N:Nat)(a:2147483648<N)(p:bo)(env:I aJ)(mem:I aR)(b:mu p.bu)(c:hX p.aM)(d:bZ)(e:SizeOf.sizeOf d.cw<N)(f:nU d.cw=0)(g:jj 400 d.cw):∃x,NZ N p env mem d.cw=some x/\NK N p env mem d=some x:=by
 unfold NZ NK;obtain⟨h,i⟩:=aqD N d.cw e f g;rw[h,i,re,re];exact abM N a p env mem b c _ 0
def aiA{l:I so}{s:so}:dw l s=true↔s∈l:=by
 unfold dw;rw[List.any_eq_true];constructor;{rintro⟨w,a,e⟩;rw[Ve]at e;rw[<-UE e];exact a};{intro h;exact⟨s,h,by simp⟩}
def adK{α:Type}{f:α->Int}:∀{l:I α},gY f l=0->∀x∈l,f x=0
 |x::l,h,y,a=>by
  rw[gY]at h;cases e:f x !=0 with
  |true=>rw[e]at h;simp only[V1]at h;rw[h]at e;cases e
  |false=>
   rw[e]at h;simp only[UQ]at h;rcases ZY.1 a with rfl|a
   ·exact ku e
   ·exact adK h y a
def NC(S:I so):I so->I fm->Prop
 |_,[]=>True
 |T,x::l=>xI S T x=0/\NC S (T++[x.aC]) l
def T8:I so->I bZ->Prop
 |_,[]=>True
 |T,d::l=>jI T d.aC=0/\T8 (T++[d.aC]) l
structure aa1(p:bo):Prop where
 names:tB [] p.bG=0
 wh:∀c∈p.dU,jv p.bG c.bO=0
 agz:NC p.bG [] p.bu
 defs:T8 (p.bG++p.bu.map (·.aC)) p.aM
 outs:∀s∈p.dM,s∈p.bu.map (·.aC)++p.aM.map (·.aC)
section
variable {N:Nat} {p:bo}
def ad2(c:hX p.aM):∀(l:I so)(k:Nat)(at_:Int){a:Int},rD N p l k at_=some (a,0)->∀s∈l,s∈p.bu.map (·.aC)++p.aM.map (·.aC)
 |s::l,k,at_,a,h,y,b=>by
  rw[rD,FK N p s c,re,V7]at h;cases e:dw (p.bu.map (·.aC)++p.aM.map (·.aC)) s with
  |false=>rw[e]at h;cases h
  |true=>
   rw[e]at h;simp only[V1]at h;obtain⟨_,h⟩:=xw h;rw[Db,re]at h;cases d:dw ((p.dM.take ((k:Int)).toNat).drop 0) s with
   |true=>rw[d]at h;cases h
   |false=>
    rw[d]at h;rcases ZY.1 b with rfl|b
    ·exact aiA.1 e
    ·exact ad2 c l (k+1) (aE (at_+1)) h y b
def ap1(a:16<N){k:Nat}{d:bZ}{T:I so}(b:p.aM[k]?=some d)(h:wV N p (k:Int) T=some 0):jI T d.aC=0:=by
 unfold wV at h;obtain⟨_,h⟩:=xw h;rw[ZB,b,re,CW N a,re]at h;cases e:jI T d.aC !=0 with
 |false=>exact ku e
 |true=>rw[e]at h;simp only[V1]at h;rw[Zs h]at e;cases e
def abL(f:16<N):∀(l:I bZ)(k:Nat)(at_:Int)(T:I so){a:Int},p.aM.drop k=l->qy N p l k T at_=some (a,0)->T8 T l/\∃c a',rD N p p.dM 0 c=some (a',0)
 |[],k,at_,T,a,_,h=>⟨trivial,at_,a,h⟩
 |d::l,k,at_,T,a,g,h=>by
  rw[qy]at h;obtain⟨x,e,h⟩:=bz h;cases b:x !=0 with
  |true=>rw[b]at h;simp only[V1]at h;rw[(Prod.mk.inj (Zs h)).2]at b;cases b
  |false=>
   rw[b]at h;obtain⟨_,h⟩:=xw h;have i:=ku b;rw[i]at e;obtain⟨j,m⟩:=abL f l (k+1) _ _ (xf g) h;exact⟨⟨ap1 f (aY g) e,j⟩,m⟩
def SD(f:16<N):∀(l:I fm)(k:Nat)(at_:Int)(T:I so){a:Int},mu l->ud N p l k (p.bG++T) at_=some (a,0)->NC p.bG T l/\∃d a',qy N p p.aM 0 (p.bG++(T++l.map (·.aC))) d=some (a',0)
 |[],k,at_,T,a,_,h=>⟨trivial,at_,a,by rw[a6,ZV];exact h⟩
 |x::l,k,at_,T,a,e,h=>by
  rw[ud,aae N f x p.bG T (λy b=>(e.me x Zl y b).ok),re]at h;cases c:xI p.bG T x !=0 with
  |true=>rw[c]at h;simp only[V1]at h;rw[(Prod.mk.inj (Zs h)).2]at c;cases c
  |false=>
   rw[c]at h;obtain⟨_,h⟩:=xw h;dsimp only at h;rw[ZP]at h;obtain⟨i,g⟩:=SD f l (k+1) _ (T++[x.aC]) ⟨λy b=>e.len y (Zg _ b),λy b=>e.me y (Zg _ b)⟩ h;rw[ZP]at g;exact⟨⟨ku c,i⟩,g⟩
def arf(f:16<N)(B:Bd N p){a:Int}(h:wm N p=some (a,0)):aa1 p:=by
 have i:=B.s;unfold wm Fz at h;rw[We,re]at h;cases e:Ax p with
 |false=>rw[e]at h;cases h
 |true=>
  rw[e]at h;simp only[Wh,UQ]at h;rw[JY f p.bG 0 rfl,re,List.take_zero]at h;cases b:tB [] p.bG !=0 with
  |true=>rw[b]at h;simp only[V1]at h;rw[(Prod.mk.inj (Zs h)).2]at b;cases b
  |false=>
   rw[b]at h;simp only[UQ]at h;rw[KS f i p.dU 0 B.W]at h;cases d:gY (λc:iu=>jv p.bG c.bO) p.dU !=0 with
   |true=>rw[d]at h;simp only[V1]at h;rw[(Prod.mk.inj (Zs h)).2]at d;cases d
   |false=>
    rw[d]at h;simp only[UQ]at h;obtain⟨j,k,o,g⟩:=SD f p.bu 0 2 [] B.P (by rw[ZV];exact h);rw[Wo]at g;obtain⟨l,m,q,n⟩:=abL f p.aM 0 k _ rfl g;exact⟨ku b,adK (ku d),j,l,ad2 B.D p.dM 0 m n⟩
end
structure DQ(N:Nat)(p:bo)(k:Nat)(T:List ByteArray)(d:bZ):Prop where
 name:jI T d.aC=0
 type:dA d.aH=true
 l1:d.aQ.length<=6
 l2:d.cl.length<=6
 amm:sZ p.bG [] (d.aQ++d.cl)=0
 fold:vO d=0
 tp:∃t:aL,wI N (⟨p.bG,[],p.bu,((p.aM.take k).drop 0),[]⟩:bo) (Ww d) d.cw=some (t,0)/\((t.bA==d.aH.bA)&&((t.bU==d.aH.bU)&&((t.ck==d.aH.ck)&&((t.cr==d.aH.cr)&&((t.cC==d.aH.cC)&&true)))))=true
structure VQ(N:Nat)(p:bo):Prop where
 names:tB [] p.bG=0
 wh:∀c∈p.dU,jv p.bG c.bO=0
 agz:NC p.bG [] p.bu
 defs:∀k d,p.aM[k]?=some d->DQ N p k (p.bG++p.bu.map (·.aC)++(p.aM.take k).map (·.aC)) d
 outs:∀k s,p.dM[k]?=some s->dw (p.bu.map (·.aC)++p.aM.map (·.aC)) s=true/\dw (p.dM.take k) s=false
def afW{c m:Nat}{α:Type}{x:U α}{z:α}(h:(bif Nat.ble c m then x else none)=some z):x=some z:=by
 cases e:Nat.ble c m with
 |false=>rw[e]at h;cases h
 |true=>rw[e]at h;exact h
def abJ{b:Bool}{α:Type}{x:U α}{z:α}(h:(bif b then x else none)=some z):b=true/\x=some z:=by
 cases b with
 |false=>cases h
 |true=>exact⟨rfl,h⟩
def Oq{a:Int}{x:U Int}(h:(bif a !=0 then some a else x)=some 0):a=0/\x=some 0:=by
 cases e:a !=0 with
 |true=>rw[e]at h;simp only[V1]at h;rw[Zs h]at e;cases e
 |false=>rw[e]at h;exact⟨ku e,h⟩
section
variable {N:Nat} {p:bo}
def arH(c:16<N){k:Nat}{d:bZ}{T:I so}(f:p.aM[k]?=some d)(o:p.bG.length<=1000)(g:∀x∈d.aQ++d.cl,lk x.eH)(h:wV N p (k:Int) T=some 0):DQ N p k T d:=by
 unfold wV at h;obtain⟨_,h⟩:=abJ h;rw[ZB,f,re,CW N c,re]at h;obtain⟨i,h⟩:=Oq h;rw[tb,re]at h;cases b:dA d.aH with
 |false=>rw[b]at h;cases h
 |true=>
  rw[b,V1,zR,zR,kJ,re]at h;cases a: !decide (d.aQ.length<=6)|| !decide (d.cl.length<=6)with
  |true=>rw[a]at h;cases h
  |false=>
   rw[a,UQ]at h;simp only[Yf,Bool.not_eq_false',VX]at a;have h:=afW (afW h);rw[at3 N c p.bG _ g (by rw[Zj];omega),re]at h;obtain⟨j,h⟩:=Oq h;rw[at2,re]at h;obtain⟨l,h⟩:=Oq h;obtain⟨_,h⟩:=abJ h;rw[at0 N d (by omega),re]at h;obtain⟨⟨t,x⟩,m,h⟩:=bz h;obtain⟨e,h⟩:=Oq h;dsimp only at e h;subst e;refine⟨i,b,a.1,a.2,j,l,t,m,?_⟩;cases n:((t.bA==d.aH.bA)&&((t.bU==d.aH.bU)&&((t.ck==d.aH.ck)&&((t.cr==d.aH.cr)&&((t.cC==d.aH.cC)&&true)))))with
   |true=>rfl
   |false=>rw[n]at h;cases h
def aeB(f:hX p.aM):∀(l:I so)(k:Nat)(at_:Int){a:Int},p.dM.drop k=l->rD N p l k at_=some (a,0)->∀i s,k<=i->p.dM[i]?=some s->dw (p.bu.map (·.aC)++p.aM.map (·.aC)) s=true/\dw (p.dM.take i) s=false
 |[],k,at_,a,b,h,i,s,g,j=>by
  have:=(Zk.1 j).1;have:=List.drop_eq_nil_iff.1 b;omega
 |s::l,k,at_,a,b,h,i,y,g,c=>by
  rw[rD,FK N p s f,re,V7]at h;cases e:dw (p.bu.map (·.aC)++p.aM.map (·.aC)) s with
  |false=>rw[e]at h;cases h
  |true=>
   rw[e]at h;simp only[V1]at h;obtain⟨_,h⟩:=xw h;rw[Db,re]at h;cases d:dw ((p.dM.take ((k:Int)).toNat).drop 0) s with
   |true=>rw[d]at h;cases h
   |false=>
    rw[d]at h;rcases Nat.lt_or_ge k i with m|n
    ·exact aeB f l (k+1) (aE (at_+1)) (xf b) h i y m c
    ·have:i=k:=by omega
     subst this;rw[aY b]at c;cases c
     exact⟨e,d⟩
def afu(m:16<N)(n:hX p.aM)(o:p.bG.length<=1000):∀(l:I bZ)(k:Nat)(at_:Int){a:Int},p.aM.drop k=l->qy N p l k (p.bG++p.bu.map (·.aC)++(p.aM.take k).map (·.aC)) at_=some (a,0)->
 (∀i d,k<=i->p.aM[i]?=some d->DQ N p i (p.bG++p.bu.map (·.aC)++(p.aM.take i).map (·.aC)) d)/\∃f a',rD N p p.dM 0 f=some (a',0)
 |[],k,at_,a,b,h=>⟨λi d q r=>by
    have:=(Zk.1 r).1;have:=List.drop_eq_nil_iff.1 b;omega,at_,a,h⟩
 |d::l,k,at_,a,b,h=>by
  rw[qy]at h;obtain⟨x,e,h⟩:=bz h;cases c:x !=0 with
  |true=>rw[c]at h;simp only[V1]at h;rw[(Prod.mk.inj (Zs h)).2]at c;cases c
  |false=>
   rw[c]at h;obtain⟨_,h⟩:=xw h;have g:=ku c;rw[g]at e;have t:p.bG++p.bu.map (·.aC)++(p.aM.take k).map (·.aC)++[d.aC]=p.bG++p.bu.map (·.aC)++(p.aM.take (k+1)).map (·.aC):=by
     rw[Wr b,ZD,ZP (p.bG++p.bu.map (·.aC))];rfl
   dsimp only at h;rw[t]at h;obtain⟨u,v⟩:=afu m n o l (k+1) _ (xf b) h;refine⟨λi w q j=> ?_,v⟩;rcases Nat.lt_or_ge k i with y|z
   ·exact u i w y j
   ·have:i=k:=by omega
    subst this;rw[aY b]at j;cases j
    exact arH m (aY b) o (λx g=>(n.me d (Pm (aY b)) x g).ok) e
def aiR(c:16<N):∀(l:I fm)(k:Nat)(at_:Int)(T:I so){a:Int},mu l->ud N p l k (p.bG++T) at_=some (a,0)->∃b a',qy N p p.aM 0 (p.bG++(T++l.map (·.aC))) b=some (a',0):=λl k at_ T a d h=>(SD c l k at_ T d h).2
def adA{α:Type}{f:α->Int}:∀{l:I α},(∀x∈l,f x=0)->gY f l=0
 |[],_=>rfl
 |x::l,h=>by
  rw[gY,h x Zl];exact adA λy a=>h y (Zg _ a)
def ahB(b:16<N)(B:Bd N p){a:Int}(h:wm N p=some (a,0)):VQ N p:=by
 have c:=B.s;have V:=arf b B h;unfold wm Fz at h;rw[We,re]at h;cases e:Ax p with
 |false=>rw[e]at h;cases h
 |true=>
  rw[e]at h;simp only[Wh,UQ]at h;rw[JY b p.bG 0 rfl,re,List.take_zero,V.names]at h;simp only[bne_self_eq_false,UQ]at h;rw[KS b c p.dU 0 B.W,adA V.wh]at h;simp only[bne_self_eq_false,UQ]at h;obtain⟨g,m,f⟩:=aiR b p.bu 0 2 [] B.P (by rw[ZV];exact h);rw[Wo]at f;obtain⟨i,j,n,l⟩:=afu b B.D c p.aM 0 g rfl (by rw[List.take_zero,a6,ZV];exact f);exact⟨V.names,V.wh,V.agz,λk d=>i k d (WJ _),λk s=>aeB B.D p.dM 0 j rfl l k s (WJ _)⟩
end
structure Df(N:Nat)(d:bZ):Prop where
 ty:dA d.aH=true
 ev:Ev d.cw
 cond:fi d.cw=false
 size:3*SizeOf.sizeOf d.cw<N
 l1:d.aQ.length<=6
 l2:d.cl.length<=6
 plain:(d.dG==0||d.dG==5)=true->d.cl=[]
 scan:d.dG=5->d.aQ≠ []
def xm(f:I Int->Except Int (aA×aL))(d:bZ):I (I Int)->U aA->Except Int aA
 |[],b=>.ok (b.getD cd)
 |q::l,b=>match f q with
  | .error z=>.error z
  | .ok x=>match b with
    |none=>xm f d l (some x.1)
    |some a=>match sN d.dG d.aH a x.1 with
     | .error z=>.error z
     | .ok v=>xm f d l (some v)
def rU(d:bZ):I so:=d.cl.map (·.aC)
def qX(d:bZ):I so:=d.aQ.map (·.aC)
noncomputable def zy(mem:I aR)(env:I aJ)(d:bZ)(q:I Int):Except Int (aA×aL):=fz mem (jd (rU d) q++env) d.cw
noncomputable def yD(mem:I aR)(env:I aJ)(d:bZ)(a:I Int):Except Int aA:=xm (zy mem env d) d (oP a 0 (cW a).toNat) none
def Qp{l:I Int}(h:nB l):∀(m k:Nat),(k:Int)+m<=cW l->∀q∈oP l k m,q.length=l.length/\∀x∈q,0<=x/\x<4096
 |0,k,_,q,a=>by cases a
 |m+1,k,b,q,a=>by
  rw[Ck]at a;rcases ZY.1 a with rfl|a
  ·have:=h.p;exact⟨VF _ _,akE h.r (by omega) (by omega)⟩
  ·exact Qp h m (k+1) (by omega) q a
def adl(N:Nat)(l:9223372036854775808<N)(mem:I aR)(u:mem.length<=4611686018427387904)(env:I aJ)(F:env.length<=1000000)(d:bZ)(H:Df N d):∀(f:I (I Int))(c:U aA)(e:I (so×bk)),(∀q∈f,q.length=d.cl.length/\∀x∈q,0<=x/\x<4096)->CK mem e->
 ∃v i g,xv N d env mem f (c.getD cd).xN (c.getD cd).xD c.isNone e=some (v,i,g)/\CK mem g/\mB (xm (zy mem env d) d f c) i v (λa b=>b=a)
 |[],c,e,_,m=>⟨_,_,_,rfl,m,rfl,rfl⟩
 |q::f,c,e,w,m=>by
  have A:=w q Zl;have P:=H.l2;have Q:=H.size;rw[xv,abp N d.cl q env A.1.symm (by omega) A.2 (by omega),re];unfold yt Bb;rw[re];obtain⟨t,i,g,G,n,j⟩:=(mch N l mem u (jd (rU d) q++env) _ d.cw (Zr _) H.ev).v H.cond N e (by omega) m;have J:nf N N d.cw (jd (d.cl.map (·.aC)) q++env) mem e=some (t,i,g):=G;rw[J,re,xm];unfold zy;cases B:fz mem (jd (rU d) q++env) d.cw with
  |error z=>
   rw[B]at j;obtain⟨rfl,h⟩:=j;dsimp only;rw[Vr.2 h,V1];exact⟨_,_,_,rfl,n,rfl,h⟩
  |ok x=>
   rw[B]at j;obtain⟨rfl,K,R,S⟩:=j;dsimp only;rw[show((0:Int) !=0)=false from rfl,UQ,K];have C:=λc=>adl N l mem u env F d H f c g (λy L=>w y (Zg _ L)) n;cases c with
   |none=>exact C (some x.1)
   |some a=>
    simp only[Option.isNone_some,UQ,Option.getD_some];obtain⟨r,M,k⟩:=afv N l d.dG d.aH a x.1 H.ty;rw[M,re];cases E:sN d.dG d.aH a x.1 with
    |error z=>
     rw[E]at k;obtain⟨o,h⟩:=k;rw[o,Vr.2 h,V1];exact⟨_,_,_,rfl,n,rfl,h⟩
    |ok v=>
     rw[E]at k;have o:r=(v,0):=k;subst o;exact C (some v)
def aiP(N:Nat)(l:9223372036854775808<N)(mem:I aR)(m:mem.length<=4611686018427387904)(env:I aJ)(q:env.length<=1000000)(d:bZ)(H:Df N d)(c:I Int)(f:nB c)(i:c.length=d.cl.length)(g:I (so×bk))(n:CK mem g):
 ∃v j k,Bj N d c env mem g=some (v,j,k)/\CK mem k/\mB (yD mem env d c) j v (λa b=>b=a):=by
 have G:=H.size;have J:=f.p;have K:=pN f.r;unfold Bj yD;have u:(bif (d.dG==0)then some true else some (d.dG==5))=some (d.dG==0||d.dG==5):=by cases d.dG==0<;>rfl
 rw[u,re];cases w:(d.dG==0||d.dG==5)with
 |true=>
  have y:c=[]:=by
   have:=H.plain w;rw[this]at i;exact W7 i
  subst y;rw[V1];unfold yt Bb;rw[re];obtain⟨t,j,k,A,B,h⟩:=(mch N l mem m env _ d.cw (Zr _) H.ev).v H.cond N g (by omega) n;rw[A,re];refine⟨_,_,_,rfl,B,?_⟩;have e:oP [] 0 (cW []).toNat=[[]]:=rfl;rw[e,xm];have C:zy mem env d []=fz mem env d.cw:=by
   unfold zy jd;rw[List.zipWith_nil_right,Wo]
  rw[C];cases o:fz mem env d.cw with
  |error z=>rw[o]at h;exact h
  |ok x=>
   rw[o]at h;obtain⟨E,F,L,M⟩:=h;exact⟨E,F⟩
 |false=>
  rw[UQ,acK N c f,re,agu N (by omega) c f,re];exact adl N l mem m env q d H _ none g (by rw[<-i];exact Qp f _ 0 (by omega)) n
def AgF(r:Except Int aA)(g:gi):Prop:=match r with
 | .ok v=>g.xV=v/\g.xE=0
 | .error z=>g.xE=z/\z≠0
def abD(N:Nat)(n:9223372036854775808<N)(mem:I aR)(env:I aJ)(E:env.length<=1000000)(d:bZ)(H:Df N d)(red:I Int)(c:nB red)(u:red.length=d.cl.length):∀(m k f:Nat)(a:U aA)(b:gi),(k:Int)+m=cW red->m<f->(k=0->a=none)->(0<k->a=some b.xV/\b.xE=0)->
 ∃g,AB N red (rU d) env mem d f (k:Int) b=some g/\AgF (xm (zy mem env d) d (oP red k m) a) g
 |0,k,f,a,b,F,G,w,o=>by
  obtain⟨f,rfl⟩:∃q,f=q+1:=⟨f-1,by omega⟩;have J:=c.p;have R:=pN c.r;rw[AB,AF N red c.r,ZL (by omega),re,Zx (show ¬(k:Int)<cW red by omega),UQ];obtain⟨rfl,e⟩:=o (by omega);exact⟨b,rfl,rfl,e⟩
 |m+1,k,f,a,b,F,G,w,o=>by
  obtain⟨f,rfl⟩:∃q,f=q+1:=⟨f-1,by omega⟩;have J:=c.p;have S:=H.size;have T:=H.l2;have K:(rU d).length=red.length:=by unfold rU;rw[Zq,u]
  rw[AB,AF N red c.r,ZL (by omega),re,dO (show(k:Int)<cW red by omega),V1,abm N (by omega) (rU d) red env (k:Int) K (by omega) (by omega) c.r (by omega) (by omega),re];unfold TN;obtain⟨g,L,j⟩:=(rfe N n mem (jd (rU d) (lM red (k:Int))++env) _ d.cw (Zr _) H.ev).v H.cond N (by omega);rw[L,re,Ck,xm];unfold zy;cases y:fz mem (jd (rU d) (lM red (k:Int))++env) d.cw with
  |error z=>
   rw[y]at j;obtain⟨rfl,i⟩:=j;dsimp only;rw[Vr.2 i,V1];exact⟨_,rfl,rfl,i⟩
  |ok x=>
   rw[y]at j;have M:g=⟨x.1,x.2,0⟩:=j;subst M;dsimp only;rw[show((0:Int) !=0)=false from rfl,UQ,ik (by omega) (by omega),show(k:Int)+1=((k+1:Nat):Int) by omega];have A:=λa b P=>abD N n mem env E d H red c u m (k+1) f a b (by omega) (by omega) (λh=>by omega) (λ_=>P);by_cases B:k=0
   ·rw[w B];subst B;rw[show(((0:Nat):Int)==0)=true from rfl,V1];exact A (some x.1) ⟨x.1,x.2,0⟩ ⟨rfl,rfl⟩
   ·obtain⟨rfl,e⟩:=o (by omega);rw[show((k:Int)==0)=false by rw[Vb];omega,UQ];obtain⟨r,Q,l⟩:=acA N n d.dG d.aH b.xV x.1 H.ty;rw[Q,re];dsimp only;cases C:sN d.dG d.aH b.xV x.1 with
    |error z=>
     rw[C]at l;obtain⟨t,i⟩:=l;rw[t,Vr.2 i,V1];exact⟨_,rfl,rfl,i⟩
    |ok v=>
     rw[C]at l;have t:r=(v,0):=l;subst t;exact A (some v) ⟨v,b.xT,b.xE⟩ ⟨rfl,e⟩
def amD(N:Nat)(c:9223372036854775808<N)(mem:I aR)(env:I aJ)(e:env.length<=1000000)(d:bZ)(H:Df N d)(a:I Int)(b:nB a)(f:a.length=d.cl.length):
 ∃g,Kh N mem env d (rU d) a=some g/\AgF (yD mem env d a) g:=by
 have i:=b.p;have j:=pN b.r;unfold Kh yD;exact abD N c mem env e d H a b f (cW a).toNat 0 N none _ (by omega) (by omega) (λ_=>rfl) (λh=>by omega)
def Hl(q:I Int):Int:=(q[q.length-1]?).getD 0
noncomputable def Ha(mem:I aR)(env:I aJ)(d:bZ)(a:I Int)(q:I Int):Except Int aA:=yD mem (jd (qX d) q++env) d a
def xY(f:I Int->Except Int aA)(d:bZ):I (I Int)->I aA->Except Int (I aA)
 |[],a=>.ok a
 |q::l,a=>match f q with
  | .error z=>.error z
  | .ok v=>bif d.dG==5&&decide (Hl q>0)then(match a[a.length-1]? with
   |none=>.error 1
   |some w=>match sN 1 d.aH w v with
    | .error z=>.error z
    | .ok u=>xY f d l (a++[u]))else xY f d l (a++[v])
def Wi(t:aL)(ext:I Int)(r:Except Int (I aA)):bk×Int:=match r with
 | .ok a=>(⟨t,ext,a⟩,0)
 | .error z=>(iV,z)
def afg{ext:I Int}(h:ext≠ []):∃e,ext[ext.length-1]?=some e:=by
 have:0<ext.length:=List.length_pos_iff.2 h;exact⟨_,Zd (by omega)⟩
def aaJ{a:I aA}(h:0<a.length):∃w,a[a.length-1]?=some w:=⟨_,Zd (by omega)⟩
def abB(N:Nat)(o:9223372036854775808<N)(mem:I aR)(y:mem.length<=4611686018427387904)(env:I aJ)(Q:env.length<=100000)(d:bZ)(H:Df N d)(D:I Int×aL×Int)(b:nB D.1)(f:D.1.length=d.aQ.length)(R:I Int×Int)(A:nB R.1)(B:R.1.length=d.cl.length)(C:I (so×bk)):∀(m k:Nat)(acc:I aA)(a:I (so×bk)),(k:Int)+m=cW D.1->acc.length=k->CK mem a->
 tW N d D env R (mem,C) (oP D.1 k m) acc a=some (Wi d.aH D.1 (xY (Ha mem env d R.1) d (oP D.1 k m) acc))
 |0,k,acc,a,_,_,_=>rfl
 |m+1,k,acc,a,hk,g,S=>by
  have hp:=b.p;have MI:=H.l1;have c:=Qp b (m+1) k (by omega) (lM D.1 (k:Int)) (by rw[Ck];exact Zl);rw[Ck,tW,abp N d.aQ _ env (by rw[c.1,f]) (by omega) c.2 (by omega),re];obtain⟨v,E,F,T,W,i⟩:=aiP N o mem y (jd (qX d) (lM D.1 (k:Int))++env) (by rw[Zj,K8 _ _ (by unfold qX;rw[Zq,c.1,f])];unfold qX;rw[Zq];omega) d H R.1 A B a S;have nQ:Bj N d R.1 (jd (d.aQ.map (·.aC)) (lM D.1 (k:Int))++env) mem a=some (v,E,F):=T;rw[nQ,re,xY];have q:=λG(hh:G.length=k+1)=>abB N o mem y env Q d H D b f R A B C m (k+1) G F (by omega) hh W;unfold Ha;cases J:yD mem (jd (qX d) (lM D.1 (k:Int))++env) d R.1 with
  |error z=>
   rw[J]at i;obtain⟨rfl,j⟩:=i;dsimp only;rw[show(E==0)=false by rw[Vb];exact j,UQ,re,UQ];unfold xk;rw[Vr.2 j];rfl
  |ok x=>
   rw[J]at i;obtain⟨rfl,rfl⟩:=i;dsimp only;rw[show((0:Int)==0)=true from rfl,V1];cases h5:(d.dG==5)with
   |false=>
    rw[UQ,re,UQ,Bool.false_and,UQ];unfold xk;rw[show((0:Int) !=0)=false from rfl,UQ,fq (by omega),V1];exact q _ (by simp [g])
   |true=>
    have K:D.1≠ []:=λh=>H.scan (by simpa using h5) (W7 (by rw[<-f,h];rfl));have BU:0<D.1.length:=List.length_pos_iff.2 K;obtain⟨e,nI⟩:=afg K;have L:=Sc (n:=(k:Int)) nI;have As:Hl (lM D.1 (k:Int))=(k:Int).tmod e:=by unfold Hl;rw[c.1,L];rfl
    rw[V1,c.1,ik (by have:=b.n;omega) (by have:=b.n;omega),dO (show(0:Int)<=(D.1.length:Int)-1 by omega),V1,show((D.1.length:Int)-1).toNat=D.1.length-1 by omega,L,re,re,As,YJ];cases M:decide ((k:Int).tmod e>0)with
    |false=>
     rw[UQ,UQ];unfold xk;rw[show((0:Int) !=0)=false from rfl,UQ,fq (by omega),V1];exact q _ (by simp [g])
    |true=>
     have gF:0<acc.length:=by
      rw[g];refine Classical.byContradiction λh=> ?_;have:k=0:=by omega
      subst this;rw[VX]at M;simp at M
     obtain⟨w,hw⟩:=aaJ gF;rw[V1,V1,ik (by omega) (by omega),dO (show(0:Int)<=(acc.length:Int)-1 by omega),V1,show((acc.length:Int)-1).toNat=acc.length-1 by omega,hw,re];obtain⟨r,r1,l⟩:=afv N o 1 d.aH w v H.ty;rw[r1,re];unfold xk;dsimp only;cases P:sN 1 d.aH w v with
     |error z=>
      rw[P]at l;obtain⟨t,j⟩:=l;rw[t,Vr.2 j];rfl
     |ok u=>
      rw[P]at l;have t:r=(u,0):=l;subst t;rw[show((0:Int) !=0)=false from rfl,UQ,fq (by omega),V1];exact q _ (by simp [g])
def abr(N:Nat)(o:9223372036854775808<N)(mem:I aR)(env:I aJ)(S:env.length<=100000)(d:bZ)(H:Df N d)(D:I Int×Int)(a:nB D.1)(q:D.1.length=d.aQ.length)(R:I Int×Int)(C:nB R.1)(E:R.1.length=d.cl.length)(F G:I bD):∀(m k f:Nat)(acc:I aA),(k:Int)+m=cW D.1->m<f->acc.length=k->
 xg N D (qX d,F) env mem d (rU d,G) R f (k:Int) acc=some (Wi d.aH D.1 (xY (Ha mem env d R.1) d (oP D.1 k m) acc))
 |0,k,f,acc,T,W,c=>by
  obtain⟨f,rfl⟩:∃t,f=t+1:=⟨f-1,by omega⟩;have hp:=a.p;rw[xg,AF N D.1 a.r,ZL (by omega),re,Zx (show ¬(k:Int)<cW D.1 by omega),UQ];rfl
 |m+1,k,f,acc,T,W,c=>by
  obtain⟨f,rfl⟩:∃t,f=t+1:=⟨f-1,by omega⟩;have hp:=a.p;have MI:=H.l1;have J:(qX d).length=D.1.length:=by unfold qX;rw[Zq,q]
  rw[xg,AF N D.1 a.r,ZL (by omega),re,dO (show(k:Int)<cW D.1 by omega),V1];dsimp only;rw[abm N (by omega) (qX d) D.1 env (k:Int) J (by omega) (by omega) a.r (by omega) (by omega),re];obtain⟨g,g1,i⟩:=amD N o mem (jd (qX d) (lM D.1 (k:Int))++env) (by rw[Zj,K8 _ _ (by rw[J,VF])];omega) d H R.1 C E;rw[g1,re,Ck,xY];have v:=λK(hh:K.length=k+1)=>abr N o mem env S d H D a q R C E F G m (k+1) f K (by omega) (by omega) hh;have y:aE ((k:Int)+1)=((k+1:Nat):Int):=by rw[ik (by omega) (by omega)];omega
  unfold Ha;cases L:yD mem (jd (qX d) (lM D.1 (k:Int))++env) d R.1 with
  |error z=>
   rw[L]at i;obtain⟨b,j⟩:=i;rw[b,show(z==0)=false by rw[Vb];exact j,UQ];have e0:(bif d.dG==5then some false else some false)=some false:=by cases d.dG==5<;>rfl
   rw[e0,re,UQ];unfold Aq;rw[b,Vr.2 j];rfl
  |ok x=>
   rw[L]at i;obtain⟨rfl,b⟩:=i;dsimp only;rw[b,show((0:Int)==0)=true from rfl,V1];cases h5:(d.dG==5)with
   |false=>
    rw[UQ,re,UQ,Bool.false_and,UQ];unfold Aq;rw[b,show((0:Int) !=0)=false from rfl,UQ,fq (by omega),V1,y];exact v _ (by simp [c])
   |true=>
    have M:D.1≠ []:=λh=>H.scan (by simpa using h5) (W7 (by rw[<-q,h];rfl));have BU:0<D.1.length:=List.length_pos_iff.2 M;obtain⟨e,A⟩:=afg M;have her:=a.r e (ZX A);have uZ:=Sc (n:=(k:Int)) A;have As:Hl (lM D.1 (k:Int))=(k:Int).tmod e:=by unfold Hl;rw[VF,uZ];rfl
    rw[V1,ik (by have:=a.n;omega) (by have:=a.n;omega),dO (show(0:Int)<=(D.1.length:Int)-1 by omega),V1,show((D.1.length:Int)-1).toNat=D.1.length-1 by omega,A,re,Vr.2 (show e≠0 by omega),V1,re,As,YJ];cases P:decide ((k:Int).tmod e>0)with
    |false=>
     rw[UQ,UQ];unfold Aq;rw[b,show((0:Int) !=0)=false from rfl,UQ,fq (by omega),V1,y];exact v _ (by simp [c])
    |true=>
     have gF:0<acc.length:=by
      rw[c];refine Classical.byContradiction λh=> ?_;have:k=0:=by omega
      subst this;rw[VX]at P;simp at P
     obtain⟨w,hw⟩:=aaJ gF;rw[V1,V1,ik (by omega) (by omega),dO (show(0:Int)<=(k:Int)-1 by omega),V1,show((k:Int)-1).toNat=acc.length-1 by omega,hw,re];obtain⟨r,r1,l⟩:=acA N o 1 d.aH w g.xV H.ty;rw[r1,re];unfold Aq;dsimp only;cases Q:sN 1 d.aH w g.xV with
     |error z=>
      rw[Q]at l;obtain⟨B,j⟩:=l;rw[B,Vr.2 j];rfl
     |ok u=>
      rw[Q]at l;have B:r=(u,0):=l;subst B;rw[show((0:Int) !=0)=false from rfl,UQ,fq (by omega),V1,y];exact v _ (by simp [c])
def RW(env:I aJ):∀(l:I bD)(a:I Int),(Z7 env l a).2=0->(Z7 env l a).1.length=a.length+l.length
 |[],a,_=>rfl
 |f::l,a,h=>by
  rw[Z7]at h ⊢;cases b:(dB f env).2 !=0 with
  |true=>rw[b,V1]at h;simp only at h;rw[h]at b;cases b
  |false=>
   rw[b,UQ]at h;rw[UQ];cases c:sF (dB f env).1 with
   |false=>rw[c,UQ]at h;cases h
   |true=>
    rw[c,V1]at h;rw[V1,RW env l _ h];simp only[Zj,Zi,Zc];omega
def anz{p:bo}{i:Nat}{d:bZ}(g:p.aM[i]?=some d)(G:xo p i d):ep p.bu p.aM d.aC=(d.aH,d.aQ.map (·.eH),true):=by
 unfold ep;have a:=Hp (·.aC) d.aC p.bu;rw[G.par]at a;have c:=Hp (·.aC) d.aC (p.aM.take i);rw[G.ajl]at c;have h:p.bu.find? (λx=>bL x.aC==bL d.aC)=none:=by
  cases b:p.bu.find? (λx=>bL x.aC==bL d.aC)with
  |none=>rfl
  |some y=>rw[b]at a;cases a
 rw[h];have e:p.aM=p.aM.take i++(d::p.aM.drop (i+1)):=by rw[<-JC g,Yc]
 have j:p.aM.find? (lX d.aC)=some d:=by
  rw[e,List.find?_append];have:(p.aM.take i).find? (lX d.aC)=none:=by
    cases b:(p.aM.take i).find? (lX d.aC)with
    |none=>rfl
    |some y=>
     have f:false=((p.aM.take i).find? (lX d.aC)).isSome:=c;rw[b]at f;cases f
  rw[this,Option.none_or,List.find?_cons_of_pos];unfold lX;exact Ys _
 rw[j]
def asC{N:Nat}(m:9223372036854775808<N){p:bo}(B:Bd N p)(V:VQ N p){i:Nat}{d:bZ}(e:p.aM[i]?=some d)(G:xo p i d)(f:jj 400 d.cw)(j:3*SizeOf.sizeOf d.cw<N):Df N d:=by
 have Q:=V.defs i d e;have n:=ZX e;have a:=Q.fold;refine⟨Q.type,f.ev (by decide) G.body,?_,j,Q.l1,Q.l2,λh=> ?_,λh=> ?_⟩
 ·obtain⟨t,c,o⟩:=Q.tp;unfold wI at c;rw[at6 N (by omega) d.cw (by omega) (f.ov (by decide)),re,G.body,show((0:Int) !=0)=false from rfl,UQ,LZ,re]at c;cases k:fi d.cw with
  |false=>rfl
  |true=>rw[k,V1]at c;cases c
 ·unfold vO at a;cases g:(d.dG==0)with
  |true=>
   rw[g,V1]at a;cases b:(d.cl.length==0)with
   |true=>rw[Ve]at b;exact W7 b
   |false=>rw[b]at a;cases a
  |false=>
   rw[g,ai,Ve]at h;rw[h]at a;cases b:(d.cl.length==0)with
   |true=>rw[Ve]at b;exact W7 b
   |false=>rw[b]at a;cases a
 ·unfold vO at a;rw[h]at a;intro l;rw[l]at a;simp at a
def abP(N:Nat):∀(l:I dF)(k:Nat)(b:I bD),b.length+l.length<=1000000000->EN N l k b=some (b++l.map (·.eH))
 |[],k,b,_=>by rw[EN,a6,ZV]
 |a::l,k,b,h=>by
  simp only[Zi]at h;rw[EN,fq (by omega),V1];dsimp only;rw[abP N l (k+1) _ (by simp only[Zj,Zi,Zc];omega),ZS,ZP];rfl
def Ry(N:Nat):∀(l:I dF)(k:Nat)(a:I so)(b:I bD),a.length+l.length<=1000000000->b.length+l.length<=1000000000->HL N l k a b=some (a++l.map (·.aC),b++l.map (·.eH))
 |[],k,a,b,_,_=>by rw[HL,a6,ZV,a6,ZV]
 |x::l,k,a,b,c,d=>by
  simp only[Zi]at c d;rw[HL,fq (by omega),V1,fq (by omega),V1];dsimp only;rw[Ry N l (k+1) _ _ (by simp only[Zj,Zi,Zc];omega) (by simp only[Zj,Zi,Zc];omega),ZS,ZS,ZP,ZP];rfl
def ab0:∀a b:I Int,cW (a++b)=cW a*cW b
 |[],b=>by rw[Wo,cW,ao]
 |x::a,b=>by rw[List.cons_append,cW,cW,ab0 a b,ab]
def afI(N:Nat)(a:Int)(n:a<=65536)(L:I Int)(o:L.length<=1000000):∀(l:I Int)(k f:Nat)(v:Int),L.drop k=l->k<=L.length->l.length<f->(∀x∈l,1<=x/\x<=4096)->1<=v->v<=a->wL N L.length L a f v (k:Int)=some (if v*cW l<=a then v*cW l else a+1)
 |[],k,f,v,b,q,e,_,g,i=>by
  obtain⟨f,rfl⟩:∃c,f=c+1:=⟨f-1,by omega⟩;have:L.length<=k:=List.drop_eq_nil_iff.1 b;rw[wL,Zx (show ¬(k:Int)<(L.length:Int) by omega),UQ,cW,Int.mul_one,ZL i]
 |x::l,k,f,v,b,q,e,h,g,i=>by
  obtain⟨f,rfl⟩:∃c,f=c+1:=⟨f-1,by omega⟩;have j:=h x Zl;have r:=pN (l:=l) λy d=>h y (Zg _ d);have u:v*x<=65536*4096:=ah (by omega) j.2 (by omega) (by omega);have w:1*1<=v*x:=ah g j.1 (by decide) (by omega);have t:k<L.length:=by
   refine Classical.byContradiction λh=> ?_;rw[List.drop_of_length_le (by omega)]at b;cases b
  simp only[Zi]at e;rw[wL,dO (show(k:Int)<(L.length:Int) by omega),V1,dO (show(0:Int)<=(k:Int) by omega),V1,ZB,aY b,re,cW,ik (z:=v*x) (by omega) (by omega),<-ab];by_cases m:v*x>a;{rw[dO m,V1,ik (by omega) (by omega),ZN];have:v*x*1<=v*x*cW l:=Ym r (by omega);omega};{rw[Zx m,UQ,ik (by omega) (by omega),show(k:Int)+1=((k+1:Nat):Int) by omega];exact afI N a n L o l (k+1) f (v*x) (by rw[<-List.drop_drop,b];rfl) t (by omega) (λy d=>h y (Zg _ d)) (by omega) (by omega)}
def aob(N:Nat)(b:2147483648<N)(L:I Int)(a:L.length<=1000000)(h:∀x∈L,1<=x/\x<=4096):IV N L.length 65536 L=some (if cW L<=65536 then cW L else 65537):=by
 unfold IV;rw[Nat.beq_refl,V1];have:=afI N 65536 (by decide) L a L 0 N 1 rfl (by omega) (by omega) h (by decide) (by decide);rw[ao]at this;exact this
def aqT{p:bo}{env:I aJ}{s:so}(h:(jm p env s).2.2=0):(jm p env s).1=(Z7 env (ep p.bu p.aM s).2.1 []).1/\(Z7 env (ep p.bu p.aM s).2.1 []).2=0/\cW (jm p env s).1<=4096:=by
 unfold jm at h ⊢;dsimp only at h ⊢;cases b:(ep p.bu p.aM s).2.2 with
 |false=>rw[b]at h;cases h
 |true=>
  rw[b,V1]at h;rw[V1];cases a:(Z7 env (ep p.bu p.aM s).2.1 []).2 !=0 with
  |true=>rw[a,V1]at h;simp only at h;rw[h]at a;cases a
  |false=>
   rw[a,UQ]at h;rw[UQ];cases c:decide (cW (Z7 env (ep p.bu p.aM s).2.1 []).1>4096)with
   |true=>rw[c]at h;cases h
   |false=>
    rw[VT]at c;exact⟨rfl,by simpa using a,by simp only[UQ];omega⟩
noncomputable def Ja(p:bo)(env:I aJ)(mem:I aR)(d:bZ)(a:Int):bk×Int:=bif (jm p env d.aC).2.2 !=0 then(iV,(jm p env d.aC).2.2)else bif (Z7 env (d.cl.map (·.eH)) []).2 !=0 then(iV,(Z7 env (d.cl.map (·.eH)) []).2)else bif decide (cW (jm p env d.aC).1*cW (Z7 env (d.cl.map (·.eH)) []).1>65536)then(iV,2)else bif a !=0 then(iV,a)else Wi d.aH (jm p env d.aC).1 (xY (Ha mem env d (Z7 env (d.cl.map (·.eH)) []).1) d (oP (jm p env d.aC).1 0 (cW (jm p env d.aC).1).toNat) [])
def akG(N:Nat)(u:9223372036854775808<N)(p:bo)(env:I aJ)(v:env.length<=100000)(mem:I aR)(F:mem.length<=4611686018427387904)(B:Bd N p){i:Nat}{d:bZ}(h:p.aM[i]?=some d)(G:xo p i d)(H:Df N d)(J:jj 400 d.cw):∃c,ux N p env mem (i:Int)=some (Ja p env mem d c)/\F9 N p env mem (i:Int)=some (Ja p env mem d c):=by
 have hs:=H.size;have hi:i<p.aM.length:=(Zk.1 h).1;have K:=ZX h;have MI:=H.l1;have yo:=H.l2;obtain⟨c,L,M⟩:=ar4 N (by omega) p env mem B.P B.D d (by omega) G.body J;refine⟨c,?_⟩;unfold ux F9 Ja;have j:∀y∈d.cl.map (·.eH),ng 1000000000 y:=λy Q=>by
  obtain⟨a,S,rfl⟩:=W1.1 Q;exact B.D.me d K a (Zw _ S)
 have w:=OJ N (by omega) env (d.cl.map (·.eH)) 0 [] j (by simp only[Zc,Zq];omega);rw[Zx (show ¬(i:Int)<0 by omega),UQ,Zx (show ¬(i:Int)>=(p.aM.length:Int) by omega),re,UQ,dO (show(0:Int)<=(i:Int) by omega),V1,V1,ZB,h,re,re,aeJ N (by omega) p env d.aC B.P B.D,acQ N (by omega) p env d.aC B.P B.D,re,re];dsimp only;cases k:((jm p env d.aC).2.2 !=0)with
 |true=>exact⟨rfl,rfl⟩
 |false=>
  rw[bne_eq_false_iff_eq]at k;obtain⟨l,z,A⟩:=aqT k;rw[anz h G]at l z;have e:∀x∈(jm p env d.aC).1,1<=x/\x<=4096:=by rw[l];exact F0 env _ [] λx b=>by cases b
  have m:(jm p env d.aC).1.length=d.aQ.length:=by rw[l,RW env _ [] z];simp
  have f:nB (jm p env d.aC).1:=⟨e,by omega,by omega⟩;have n:=pN e;unfold V9 OZ FX GP;rw[UQ,UQ,UQ,abP N d.cl 0 [] (by simp only[Zc];omega),Ry N d.aQ 0 [] [] (by simp only[Zc];omega) (by simp only[Zc];omega),Ry N d.cl 0 [] [] (by simp only[Zc];omega) (by simp only[Zc];omega)];simp only[Wo,re];rw[w.1,w.2,re,re];cases o:((Z7 env (d.cl.map (·.eH)) []).2 !=0)with
  |true=>exact⟨rfl,rfl⟩
  |false=>
   rw[bne_eq_false_iff_eq]at o;have g:∀x∈(Z7 env (d.cl.map (·.eH)) []).1,1<=x/\x<=4096:=F0 env _ [] λx b=>by cases b
   have q:(Z7 env (d.cl.map (·.eH)) []).1.length=d.cl.length:=by rw[RW env _ [] o];simp
   have r:=pN g;generalize T:Z7 env (d.cl.map (·.eH)) []=R at g q r o ⊢;generalize W:jm p env d.aC=D at e m f n A k ⊢;unfold UF;rw[UQ,UQ,UQ,fq (show D.1.length*8<=140737488355328 by omega),V1,re,fq (show(D.1.length+R.1.length)*8<=140737488355328 by omega),V1];have C:=aob N (by omega) (D.1++R.1) (by rw[Zj];omega) (λx b=>by
    rcases ZE.1 b with b|b
    ·exact e x b
    ·exact g x b)
   rw[Zj,ab0]at C;rw[C,re,AF N D.1 e,AF N R.1 g,re,re,ZL (show cW D.1<=65537 by omega)];have lg:1*cW R.1<=cW D.1*cW R.1:=Int.mul_le_mul_of_nonneg_right n (by omega);have e1:decide ((if cW D.1*cW R.1<=65536 then cW D.1*cW R.1 else 65537)>65536)=decide (cW D.1*cW R.1>65536):=acq 65536 (by decide) (by decide) _;have e2:decide (aE (cW D.1*(if cW R.1<=65537 then cW R.1 else 65537))>65536)=decide (cW D.1*cW R.1>65536):=by
     by_cases t:cW R.1<=65537;{have iP:cW D.1*cW R.1<=4096*65537:=ah A t (by omega) (by decide);rw[ZL t,ik (by omega) (by omega)]};{have iP:1*65537<=cW D.1*65537:=Int.mul_le_mul_of_nonneg_right n (by decide);rw[ZN t,ik (by omega) (by omega),dO (show cW D.1*65537>65536 by omega),dO (show cW D.1*cW R.1>65536 by omega)]}
   rw[e1,e2];cases hp:decide (cW D.1*cW R.1>65536)with
   |true=>exact⟨rfl,rfl⟩
   |false=>
    rw[VT]at hp;have E:nB R.1:=⟨g,by omega,by omega⟩;rw[UQ,UQ,UQ,L,M,re,re];cases c !=0 with
    |true=>exact⟨rfl,rfl⟩
    |false=>
     rw[UQ,UQ,UQ];unfold EO;rw[re,acK N D.1 f,re,agu N (by omega) D.1 f,re];exact⟨abB N u mem F env v d H D f m R E q [] _ 0 [] [] (by omega) rfl (CK.nil mem),abr N u mem env v d H (D.1,D.2.2) f m R E q _ _ _ 0 N [] (by show(((0:Nat):Int)+((cW D.1).toNat:Int))=cW D.1;omega) (by omega) rfl⟩
def Qr(N:Nat)(c:Int64->U Int)(m:dZ)(a:∀v,∃n,c v=some n):∀(l:I aJ)(k:Nat)(v:Int64),∃n,OL N c v m l k=some n
 |[],k,v=>a v
 |b::l,k,v=>by
  rw[OL];cases bL b.aC==bL m.aC with
  |false=>exact Qr N c m a l (k+1) v
  |true=>
   rw[V1,re];cases decide (b.dQ.toInt> -1000)with
   |true=>exact a _
   |false=>exact Qr N c m a l (k+1) v
def abA(N:Nat)(env:I aJ):∀(l:I dZ)(k:Nat)(v:Int64),∃n,Fe N env l k v=some n
 |[],k,v=>⟨_,rfl⟩
 |m::l,k,v=>by
  rw[Fe];have a:=Qr N (λb=>Fe N env l (k+1) b) m (λv=>abA N env l (k+1) v) env 0 v;cases decide (m.eQ.toInt>100)with
  |true=>exact⟨_,rfl⟩
  |false=>
   rw[UQ,re];cases decide (m.eQ.toInt< -100)with
   |true=>exact⟨_,rfl⟩
   |false=>exact a
def amv(N:Nat)(f:bD)(env:I aJ):∃n,Nq N f env=some n:=by
 unfold Nq;cases decide (f.xK.toInt>3000)with
 |true=>exact⟨_,rfl⟩
 |false=>
  rw[UQ,re];cases decide (f.xK.toInt< -3000)with
  |true=>exact⟨_,rfl⟩
  |false=>exact abA N env f.xL 0 f.xK
def Vf(N:Nat)(env:I aJ):∀(l:I dF)(k:Nat)(v:Int),∃n,MW N env l k v=some n
 |[],k,v=>⟨_,rfl⟩
 |a::l,k,v=>by
  rw[MW];obtain⟨n,b⟩:=amv N a.eH env;rw[b,re];exact Vf N env l (k+1) _
def ab9(N:Nat)(env:I aJ):∀(l:I bZ)(k:Nat),∃b,PT N env l k=some b
 |[],k=>⟨_,rfl⟩
 |d::l,k=>by
  rw[PT];unfold Pl;obtain⟨a,c⟩:=Vf N env d.aQ 0 1;obtain⟨b,e⟩:=Vf N env d.cl 0 1;rw[c,e,re,re];cases decide (aE (a*b)>3000)with
  |true=>exact⟨_,rfl⟩
  |false=>exact ab9 N env l (k+1)
def ad9(N:Nat)(env:I aJ)(p:bo)(v:Int64):∀(l:I aJ)(k:Nat),∃b,L9 N env p v l k=some b
 |[],k=>ab9 N env p.aM 0
 |x::l,k=>by
  rw[L9];cases decide (x.dQ.toInt>v.toInt)with
  |true=>exact⟨_,rfl⟩
  |false=>exact ad9 N env p v l (k+1)
def al4(N:Nat)(c:1000<N)(p:bo)(env:I aJ)(v:Int64)(e:∀d∈p.aM,jj rS d.cw/\SizeOf.sizeOf d.cw<N):∃b,LB N p env v=some b/\(b=true->Cn p/\(env.length:Int)<=20):=by
 unfold LB;obtain⟨b1,f,g⟩:=anu N 400 (by decide) c p e;have a:GZ N p 400=some b1:=f;obtain⟨i,j,k⟩:=anI N env 20;obtain⟨l,m⟩:=ad9 N env p v env 0;rw[a,j,m,re];cases b1 with
 |true=>exact⟨false,rfl,λh=>by cases h⟩
 |false=>
  rw[UQ];cases decide ((p.aM.length:Int)>12)with
  |true=>exact⟨false,rfl,λh=>by cases h⟩
  |false=>
   cases i with
   |false=>exact⟨false,rfl,λh=>by cases h⟩
   |true=>exact⟨l,rfl,λ_=>⟨g rfl,k rfl⟩⟩
def aic(N:Nat)(L:I aA):Iw N L L=some true:=by
 have a:∀(l:I aA)(k:Nat),L.drop k=l->Ps N L l k=some true:=by
  intro l
  induction l with
  |nil=>intro k _;rfl
  |cons x l b=>intro k h;rw[Ps,ZB,aY h,re,Ys,Ys];exact b (k+1) (xf h)
 unfold Iw;rw[agI,UQ];exact a L 0 rfl
def aix(N:Nat)(t:bk):M9 N t t=some true:=by
 unfold M9;rw[alG,aic];simp
def akZ(N:Nat)(b:2147483648<N)(p:bo)(env:I aJ)(B:Bd N p)(f:∀c∈p.dU,c.bO.xL.length<=4611686018427387904):∃x,Ea N p env=some x/\M7 N p env=some x/\(x=0->A5 p env=0/\VQ N p/\∀i d,p.aM[i]?=some d->xo p i d):=by
 obtain⟨a,x,j,g,k⟩:=alB b B;unfold Ea M7;rw[j,g,alo N b env p f,aop N b env p f,re,re];cases e:(x !=0)with
 |true=>exact⟨x,rfl,rfl,λh=>by rw[h]at e;cases e⟩
 |false=>
  have l:x=0:=by simpa using e
  subst l;exact⟨A5 p env,rfl,rfl,λh=>⟨h,ahB (by omega) B g,k rfl⟩⟩
structure Lw(N:Nat)(p:bo)(env:List aJ):Prop where
 hN:9223372036854775808<N
 sh:Cn p
 env:env.length<=20
 size:∀d∈p.aM,3*SizeOf.sizeOf d.cw<N
def Lw.bd{N:Nat}{p:bo}{env:I aJ}(W:Lw N p env):Bd N p:=aqE W.sh λd h=>by have:=W.size d h;omega
def Lw.wh{N:Nat}{p:bo}{env:I aJ}(W:Lw N p env):∀c∈p.dU,c.bO.xL.length<=4611686018427387904:=λc a=>Za (W.sh.W c a) (by decide)
def al3{N:Nat}{p:bo}{env:I aJ}(W:Lw N p env)(a:VQ N p)(G:∀i d,p.aM[i]?=some d->xo p i d)(mem:I aR)(f:mem.length<=4611686018427387904){i:Nat}{d:bZ}(b:p.aM[i]?=some d):∃e,ux N p env mem (i:Int)=some (Ja p env mem d e)/\F9 N p env mem (i:Int)=some (Ja p env mem d e):=by
 have c:=ZX b;have g:=W.env;exact akG N W.hN p env (by omega) mem f W.bd b (G i d b) (asC W.hN W.bd a b (G i d b) (W.sh.D d c).body (W.size d c)) (W.sh.D d c).body
def arw{N:Nat}{p:bo}{env:I aJ}(W:Lw N p env)(mem:I aR)(f:mem.length<=4611686018427387904)(z:Int):∃q,MB N p env mem z=some q/\JP N p env mem z=some q/\(q.2=0->0<=z/\z<(p.aM.length:Int)):=by
 have o:=W.hN;unfold MB JP;obtain⟨x,b,g,j⟩:=akZ N (by omega) p env W.bd W.wh;rw[b,g,re,re];cases e:(x !=0)with
 |true=>exact⟨_,rfl,rfl,λh=>by have k:x=0:=h;rw[k]at e;cases e⟩
 |false=>
  rw[UQ,UQ];obtain⟨_,a,G⟩:=j (by simpa using e);by_cases c:z<0;{rw[dO c];unfold ux;rw[dO c];exact⟨_,rfl,rfl,λh=>by cases h⟩}
  ·by_cases b:z>=(p.aM.length:Int)
   ·rw[Zx c,dO b];unfold ux;rw[Zx c,dO b];exact⟨_,rfl,rfl,λh=>by cases h⟩
   ·obtain⟨i,rfl⟩:∃i:Nat,z=(i:Int):=⟨z.toNat,by omega⟩;obtain⟨d,l⟩:∃d,p.aM[i]?=some d:=⟨_,Zd (by omega)⟩;obtain⟨r,m,n⟩:=al3 W a G mem f l;rw[Zx c,Zx b,m,n];exact⟨_,rfl,rfl,λ_=>⟨by omega,by omega⟩⟩
def Rr{N:Nat}{p:bo}{env:I aJ}(W:Lw N p env):∀(m j f:Nat)(mem:I aR),m+j=p.aM.length+2->m<f->mem.length+m<=1000000->Az N p env f ((j:Int)-1) mem=some true
 |0,j,f,mem,b,c,e=>by
  obtain⟨f,rfl⟩:∃a,f=a+1:=⟨f-1,by omega⟩;have o:=W.hN;rw[Az,Zx (show ¬(j:Int)-1<=(p.aM.length:Int) by omega),UQ,agh (by omega)];rfl
 |m+1,j,f,mem,b,c,e=>by
  obtain⟨f,rfl⟩:∃a,f=a+1:=⟨f-1,by omega⟩;have g:=W.sh.d;rw[Az,dO (show(j:Int)-1<=(p.aM.length:Int) by omega),V1];obtain⟨q,q1,h,i⟩:=arw W mem (by omega) ((j:Int)-1);rw[q1,h,re,re,aix,re,V1,re,bne_self_eq_false,UQ,ik (by omega) (by omega),show(j:Int)-1+1=((j+1:Nat):Int)-1 by omega];cases k:(q.2==0)with
  |false=>exact Rr W m (j+1) f mem (by omega) (by omega) (by omega)
  |true=>
   obtain⟨l,r⟩:=i (by simpa using k);obtain⟨d,n⟩:∃d,p.aM[((j:Int)-1).toNat]?=some d:=⟨_,Zd (by omega)⟩;rw[V1,dO l,V1,n,re,fq (by omega),V1];exact Rr W m (j+1) f _ (by omega) (by omega) (by simp only[Zj,Zi,Zc];omega)
def ap9(N:Nat)(p:bo)(env:I aJ)(mem:I aR)(b:9223372036854775808<N)(a:∀d∈p.aM,jj rS d.cw/\3*SizeOf.sizeOf d.cw<N):Vc N p env mem=some true:=by
 unfold Vc;obtain⟨c,e,f⟩:=al4 N (by omega) p env 8 λd h=>⟨(a d h).1,by have:=(a d h).2;omega⟩;obtain⟨g,i,j⟩:=air N mem;have L:=agh (N:=N) (by omega);rw[e,i,L,re];cases c with
 |false=>rfl
 |true=>
  cases g with
  |false=>rfl
  |true=>
   have l:=(j rfl).1;obtain⟨Sh,m⟩:=f rfl;have W:Lw N p env:=⟨b,Sh,by omega,λd h=>(a d h).2⟩;have k:=Sh.d;rw[V1,re,re,Wh,UQ,fq (by omega),V1];exact Rr W (p.aM.length+2) 0 N mem (by omega) (by omega) (by omega)
def rk(k:IntKind)(n:Int):Prop:=k.min<=n/\n<=k.max
def I5{n:Int}(h:rk .i64 n):∃m:Int64,n=m.toInt:=by
 refine⟨Int64.ofInt n,?_⟩;have a:aE n=n:=by
  unfold aE;rw[b6];have b: -9223372036854775808<=n:=h.1;have c:n<=9223372036854775807:=h.2;omega
 rw[Int64.toInt_ofInt,<-Bh];exact a.symm
def af4{p:I D}:∀{l:I (I D)},p∈l->SizeOf.sizeOf p<=SizeOf.sizeOf l.flatten
 |[],h=>by cases h
 |q::l,h=>by
  have c:∀a b:I D,SizeOf.sizeOf a<=SizeOf.sizeOf (a++b)/\SizeOf.sizeOf b<=SizeOf.sizeOf (a++b):=by
   intro a b
   induction a with
   |nil=>cases b<;>simp only[Wo,List.nil.sizeOf_spec,List.cons.sizeOf_spec]<;>omega
   |cons x a d=>simp only[List.cons_append,List.cons.sizeOf_spec];omega
  rw[List.flatten_cons];rcases ZY.1 h with rfl|h
  ·exact(c _ _).1
  ·exact Za (af4 h) (c _ _).2
structure IA(x:aA):Prop where
 h0:True
 h1:True
def aeK{xs:I D}(h:eX prog 45 xs):∃x:aA,xs=CI x/\IA x:=by
 obtain⟨parts,rfl,b,a⟩:=h.oy underlying45
 match parts,b with
 |[g,i],_=>
 obtain⟨j,rfl,c⟩:=(a 0 _ _ rfl rfl).oS underlying2;obtain⟨d,rfl⟩:=I5 c;obtain⟨k,rfl,e⟩:=(a 1 _ _ rfl rfl).oS underlying2;obtain⟨f,rfl⟩:=I5 e;exact⟨⟨d,f⟩,rfl,⟨trivial,trivial⟩⟩
structure Jg(x:aL):Prop where
 h0:rk .i64 x.bA
 h1:rk .i64 x.bU
 h2:rk .i64 x.ck
 h3:rk .i64 x.cr
 h4:rk .i64 x.cC
def Lu{xs:I D}(h:eX prog 34 xs):∃x:aL,xs=Li x/\Jg x:=by
 obtain⟨parts,rfl,b,a⟩:=h.oy underlying34
 match parts,b with
 |[n,o,q,r,t],_=>
 obtain⟨c,rfl,d⟩:=(a 0 _ _ rfl rfl).oS underlying3;obtain⟨e,rfl,f⟩:=(a 1 _ _ rfl rfl).oS underlying3;obtain⟨g,rfl,i⟩:=(a 2 _ _ rfl rfl).oS underlying3;obtain⟨j,rfl,k⟩:=(a 3 _ _ rfl rfl).oS underlying3;obtain⟨l,rfl,m⟩:=(a 4 _ _ rfl rfl).oS underlying3;exact⟨⟨c,e,g,j,l⟩,rfl,⟨d,f,i,k,m⟩⟩
structure J8(x:dZ):Prop where
 h0:x.aC.size<=maxLen
 h1:True
def anD{xs:I D}(h:eX prog 78 xs):∃x:dZ,xs=H4 x/\J8 x:=by
 obtain⟨parts,rfl,b,a⟩:=h.oy underlying78
 match parts,b with
 |[g,i],_=>
 obtain⟨c,rfl,d⟩:=(a 0 _ _ rfl rfl).uT underlying9;obtain⟨j,rfl,e⟩:=(a 1 _ _ rfl rfl).oS underlying2;obtain⟨f,rfl⟩:=I5 e;exact⟨⟨c,f⟩,rfl,⟨d,trivial⟩⟩
def aiQ{xs:I D}(h:eX prog 46 xs):∃l:I dZ,xs=[.sl (hJ l)]/\(l.length<=140737488355328/\∀a∈l,J8 a):=by
 obtain⟨l,rfl,b,c⟩:=h.pv underlying46;obtain⟨r,rfl,d⟩:=oB (f:=H4) (Q:=λa=>J8 a) l (λx e=>anD (c x e));exact⟨r,by rw[zh],by simpa using b,d⟩
structure uO(x:bD):Prop where
 h0:True
 h1:x.xL.length<=140737488355328/\∀a∈x.xL,J8 a
def GX{xs:I D}(h:eX prog 48 xs):∃x:bD,xs=D7 x/\uO x:=by
 obtain⟨parts,rfl,b,a⟩:=h.oy underlying48
 match parts,b with
 |[g,i],_=>
 obtain⟨j,rfl,c⟩:=(a 0 _ _ rfl rfl).oS underlying2;obtain⟨d,rfl⟩:=I5 c;obtain⟨e,rfl,f⟩:=aiQ (a 1 _ _ rfl rfl);exact⟨⟨d,e⟩,rfl,⟨trivial,f⟩⟩
def aat{xs:I D}(h:eX prog 81 xs):∃l:I bD,xs=[.sl (fA l)]/\(l.length<=140737488355328/\∀a∈l,uO a):=by
 obtain⟨l,rfl,b,c⟩:=h.pv underlying81;obtain⟨r,rfl,d⟩:=oB (f:=D7) (Q:=λa=>uO a) l (λx e=>GX (c x e));exact⟨r,by rw[xW],by simpa using b,d⟩
structure Mp(x:c7):Prop where
 h0:uO x.bO
 h1:x.dc.size<=maxLen
 h2:x.cP.length<=140737488355328/\∀a∈x.cP,uO a
def akC{xs:I D}(h:eX prog 83 xs):∃x:c7,xs=GS x/\Mp x:=by
 obtain⟨parts,rfl,b,a⟩:=h.oy underlying83
 match parts,b with
 |[j,k,l],_=>
 obtain⟨c,rfl,d⟩:=GX (a 0 _ _ rfl rfl);obtain⟨e,rfl,f⟩:=(a 1 _ _ rfl rfl).uT underlying9;obtain⟨g,rfl,i⟩:=aat (a 2 _ _ rfl rfl);exact⟨⟨c,e,g⟩,rfl,⟨d,f,i⟩⟩
def ahf{xs:I D}(h:eX prog 49 xs):∃l:I c7,xs=[.sl (fc l)]/\(l.length<=140737488355328/\∀a∈l,Mp a):=by
 obtain⟨l,rfl,b,c⟩:=h.pv underlying49;obtain⟨r,rfl,d⟩:=oB (f:=GS) (Q:=λa=>Mp a) l (λx e=>akC (c x e));exact⟨r,by rw[x6],by simpa using b,d⟩
inductive Aa:ay->Prop
 |mk (x:ay) (h0:rk .i64 x.aD) (h1:x.aC.size<=maxLen) (h2:IA x.dQ) (h3:Jg x.aH) (h4:uO x.bO) (h5:x.xIdx.length<=140737488355328/\∀a∈x.xIdx,Mp a) (h6:x.bS.length<=140737488355328) (g6:∀a∈x.bS,Aa a):Aa x
def abd:∀(n:Nat)(xs:I D),SizeOf.sizeOf xs<n->eX prog 52 xs->∃x:ay,xs=fu x/\Aa x
 |0,_,h,_=>absurd h (Z5 _)
 |n+1,xs,c,h=>by
  obtain⟨parts,rfl,d,a⟩:=h.oy underlying52
  match parts,d with
  |[w,y,z,A,B,C,E],_=>
  obtain⟨e,rfl,g⟩:=(a 0 _ _ rfl rfl).oS underlying3;obtain⟨i,rfl,j⟩:=(a 1 _ _ rfl rfl).uT underlying9;obtain⟨k,rfl,l⟩:=aeK (a 2 _ _ rfl rfl);obtain⟨m,rfl,o⟩:=Lu (a 3 _ _ rfl rfl);obtain⟨q,rfl,r⟩:=GX (a 4 _ _ rfl rfl);obtain⟨t,rfl,u⟩:=ahf (a 5 _ _ rfl rfl);obtain⟨l_,rfl,b,hs_⟩:=(a 6 _ _ rfl rfl).pv underlying50;obtain⟨r_,rfl,hr_⟩:=oB (f:=fu) (Q:=Aa) l_ (λx a=>abd n x (by have F:=List.sizeOf_lt_of_mem a;have v:SizeOf.sizeOf [D.sl l_]<n+1:=Nat.lt_of_le_of_lt (af4 (by simp)) c;simp only[List.cons.sizeOf_spec,D.sl.sizeOf_spec,List.nil.sizeOf_spec]at v;omega) (hs_ x a));refine⟨⟨e,i,k,m,q,t,r_⟩,?_,.mk _ g j l o r u (by simpa using b) hr_⟩;show _=fu _;unfold fu;rw[qm];rfl
def ar5{xs:I D}(h:eX prog 52 xs):∃x:ay,xs=fu x/\Aa x:=abd _ xs (Yu _) h
def aap{xs:I D}(h:eX prog 22 xs):∃l:I so,xs=[.sl (cD l)]/\(l.length<=140737488355328/\∀a∈l,a.size<=maxLen):=by
 obtain⟨l,rfl,b,c⟩:=h.pv underlying22;obtain⟨r,rfl,d⟩:=oB (f:=iY) (Q:=λa=>a.size<=maxLen) l (λx e=>by
  obtain⟨g,rfl,i⟩:=(c x e).uT underlying9;exact⟨g,rfl,i⟩)
 exact⟨r,by rw[mS],by simpa using b,d⟩
structure Kw(x:iu):Prop where
 h0:uO x.bO
 h1:True
def al5{xs:I D}(h:eX prog 88 xs):∃x:iu,xs=Gz x/\Kw x:=by
 obtain⟨parts,rfl,b,a⟩:=h.oy underlying88
 match parts,b with
 |[f,g],_=>
 obtain⟨c,rfl,d⟩:=GX (a 0 _ _ rfl rfl);obtain⟨e,rfl⟩:=(a 1 _ _ rfl rfl).an8 underlying4;exact⟨⟨c,e⟩,rfl,⟨d,trivial⟩⟩
def anP{xs:I D}(h:eX prog 23 xs):∃l:I iu,xs=[.sl (nZ l)]/\(l.length<=140737488355328/\∀a∈l,Kw a):=by
 obtain⟨l,rfl,b,c⟩:=h.pv underlying23;obtain⟨r,rfl,d⟩:=oB (f:=Gz) (Q:=λa=>Kw a) l (λx e=>al5 (c x e));exact⟨r,by rw[zw],by simpa using b,d⟩
structure JF(x:fm):Prop where
 h0:x.aC.size<=maxLen
 h1:Jg x.aH
 h2:x.aQ.length<=140737488355328/\∀a∈x.aQ,uO a
def asR{xs:I D}(h:eX prog 85 xs):∃x:fm,xs=IG x/\JF x:=by
 obtain⟨parts,rfl,b,a⟩:=h.oy underlying85
 match parts,b with
 |[j,k,l],_=>
 obtain⟨c,rfl,d⟩:=(a 0 _ _ rfl rfl).uT underlying9;obtain⟨e,rfl,f⟩:=Lu (a 1 _ _ rfl rfl);obtain⟨g,rfl,i⟩:=aat (a 2 _ _ rfl rfl);exact⟨⟨c,e,g⟩,rfl,⟨d,f,i⟩⟩
def aos{xs:I D}(h:eX prog 24 xs):∃l:I fm,xs=[.sl (lL l)]/\(l.length<=140737488355328/\∀a∈l,JF a):=by
 obtain⟨l,rfl,b,c⟩:=h.pv underlying24;obtain⟨r,rfl,d⟩:=oB (f:=IG) (Q:=λa=>JF a) l (λx e=>asR (c x e));exact⟨r,by rw[zK],by simpa using b,d⟩
structure F5(x:dF):Prop where
 h0:x.aC.size<=maxLen
 h1:uO x.eH
def akj{xs:I D}(h:eX prog 80 xs):∃x:dF,xs=Fc x/\F5 x:=by
 obtain⟨parts,rfl,b,a⟩:=h.oy underlying80
 match parts,b with
 |[g,i],_=>
 obtain⟨c,rfl,d⟩:=(a 0 _ _ rfl rfl).uT underlying9;obtain⟨e,rfl,f⟩:=GX (a 1 _ _ rfl rfl);exact⟨⟨c,e⟩,rfl,⟨d,f⟩⟩
def aeU{xs:I D}(h:eX prog 43 xs):∃l:I dF,xs=[.sl (dAxiss l)]/\(l.length<=140737488355328/\∀a∈l,F5 a):=by
 obtain⟨l,rfl,b,c⟩:=h.pv underlying43;obtain⟨r,rfl,d⟩:=oB (f:=Fc) (Q:=λa=>F5 a) l (λx e=>akj (c x e));exact⟨r,by rw[Ac],by simpa using b,d⟩
structure JO(x:bZ):Prop where
 h0:x.aC.size<=maxLen
 h1:Jg x.aH
 h2:x.aQ.length<=140737488355328/\∀a∈x.aQ,F5 a
 h3:x.cl.length<=140737488355328/\∀a∈x.cl,F5 a
 h4:rk .i64 x.dG
 h5:Aa x.cw
def anL{xs:I D}(h:eX prog 54 xs):∃x:bZ,xs=FQ x/\JO x:=by
 obtain⟨parts,rfl,b,a⟩:=h.oy underlying54
 match parts,b with
 |[q,r,t,u,v,w],_=>
 obtain⟨c,rfl,d⟩:=(a 0 _ _ rfl rfl).uT underlying9;obtain⟨e,rfl,f⟩:=Lu (a 1 _ _ rfl rfl);obtain⟨g,rfl,i⟩:=aeU (a 2 _ _ rfl rfl);obtain⟨j,rfl,k⟩:=aeU (a 3 _ _ rfl rfl);obtain⟨l,rfl,m⟩:=(a 4 _ _ rfl rfl).oS underlying3;obtain⟨n,rfl,o⟩:=ar5 (a 5 _ _ rfl rfl);exact⟨⟨c,e,g,j,l,n⟩,rfl,⟨d,f,i,k,m,o⟩⟩
def aso{xs:I D}(h:eX prog 25 xs):∃l:I bZ,xs=[.sl (iy l)]/\(l.length<=140737488355328/\∀a∈l,JO a):=by
 obtain⟨l,rfl,b,c⟩:=h.pv underlying25;obtain⟨r,rfl,d⟩:=oB (f:=FQ) (Q:=λa=>JO a) l (λx e=>anL (c x e));exact⟨r,by rw[uF],by simpa using b,d⟩
structure ae2(x:bo):Prop where
 h0:x.bG.length<=140737488355328/\∀a∈x.bG,a.size<=maxLen
 h1:x.dU.length<=140737488355328/\∀a∈x.dU,Kw a
 h2:x.bu.length<=140737488355328/\∀a∈x.bu,JF a
 h3:x.aM.length<=140737488355328/\∀a∈x.aM,JO a
 h4:x.dM.length<=140737488355328/\∀a∈x.dM,a.size<=maxLen
def asl{xs:I D}(h:eX prog 27 xs):∃x:bo,xs=ahU x/\ae2 x:=by
 obtain⟨parts,rfl,b,a⟩:=h.oy underlying27
 match parts,b with
 |[n,o,q,r,t],_=>
 obtain⟨c,rfl,d⟩:=aap (a 0 _ _ rfl rfl);obtain⟨e,rfl,f⟩:=anP (a 1 _ _ rfl rfl);obtain⟨g,rfl,i⟩:=aos (a 2 _ _ rfl rfl);obtain⟨j,rfl,k⟩:=aso (a 3 _ _ rfl rfl);obtain⟨l,rfl,m⟩:=aap (a 4 _ _ rfl rfl);exact⟨⟨c,e,g,j,l⟩,rfl,⟨d,f,i,k,m⟩⟩
structure PV(x:aJ):Prop where
 h0:x.aC.size<=maxLen
 h1:True
def amy{xs:I D}(h:eX prog 75 xs):∃x:aJ,xs=jD x/\PV x:=by
 obtain⟨parts,rfl,b,a⟩:=h.oy underlying75
 match parts,b with
 |[g,i],_=>
 obtain⟨c,rfl,d⟩:=(a 0 _ _ rfl rfl).uT underlying9;obtain⟨j,rfl,e⟩:=(a 1 _ _ rfl rfl).oS underlying2;obtain⟨f,rfl⟩:=I5 e;exact⟨⟨c,f⟩,rfl,⟨d,trivial⟩⟩
def apr{xs:I D}(h:eX prog 28 xs):∃l:I aJ,xs=[.sl (aT l)]/\(l.length<=140737488355328/\∀a∈l,PV a):=by
 obtain⟨l,rfl,b,c⟩:=h.pv underlying28;obtain⟨r,rfl,d⟩:=oB (f:=jD) (Q:=λa=>PV a) l (λx e=>amy (c x e));exact⟨r,by rw[th],by simpa using b,d⟩
def aiG{xs:I D}(h:eX prog 35 xs):∃l:I Int,xs=[.sl (bE l)]/\(l.length<=140737488355328/\∀a∈l,rk .i64 a):=by
 obtain⟨l,rfl,b,c⟩:=h.pv underlying35;obtain⟨r,rfl,d⟩:=oB (f:=fj) (Q:=λa=>rk .i64 a) l (λx e=>by
  obtain⟨g,rfl,i⟩:=(c x e).oS underlying3;exact⟨g,rfl,i⟩)
 exact⟨r,by rw[py],by simpa using b,d⟩
def aqS{xs:I D}(h:eX prog 36 xs):∃l:I aA,xs=[.sl (eB l)]/\(l.length<=140737488355328/\∀a∈l,IA a):=by
 obtain⟨l,rfl,b,c⟩:=h.pv underlying36;obtain⟨r,rfl,d⟩:=oB (f:=CI) (Q:=λa=>IA a) l (λx e=>aeK (c x e));exact⟨r,by rw[uY],by simpa using b,d⟩
structure aad(x:bk):Prop where
 h0:Jg x.aH
 h1:x.aQ.length<=140737488355328/\∀a∈x.aQ,rk .i64 a
 h2:x.eF.length<=140737488355328/\∀a∈x.eF,IA a
def aie{xs:I D}(h:eX prog 38 xs):∃x:bk,xs=cz x/\aad x:=by
 obtain⟨parts,rfl,b,a⟩:=h.oy underlying38
 match parts,b with
 |[j,k,l],_=>
 obtain⟨c,rfl,d⟩:=Lu (a 0 _ _ rfl rfl);obtain⟨e,rfl,f⟩:=aiG (a 1 _ _ rfl rfl);obtain⟨g,rfl,i⟩:=aqS (a 2 _ _ rfl rfl);exact⟨⟨c,e,g⟩,rfl,⟨d,f,i⟩⟩
structure NG(x:aR):Prop where
 h0:x.aC.size<=maxLen
 h1:aad x.iH
def asp{xs:I D}(h:eX prog 56 xs):∃x:aR,xs=GB x/\NG x:=by
 obtain⟨parts,rfl,b,a⟩:=h.oy underlying56
 match parts,b with
 |[g,i],_=>
 obtain⟨c,rfl,d⟩:=(a 0 _ _ rfl rfl).uT underlying9;obtain⟨e,rfl,f⟩:=aie (a 1 _ _ rfl rfl);exact⟨⟨c,e⟩,rfl,⟨d,f⟩⟩
def anv{xs:I D}(h:eX prog 29 xs):∃l:I aR,xs=[.sl (bp l)]/\(l.length<=140737488355328/\∀a∈l,NG a):=by
 obtain⟨l,rfl,b,c⟩:=h.pv underlying29;obtain⟨r,rfl,d⟩:=oB (f:=GB) (Q:=λa=>NG a) l (λx e=>asp (c x e));exact⟨r,by rw[AJ],by simpa using b,d⟩
def ajU:I TypeId:=[2,3,4,9,22,23,24,25,27,28,29,34,35,36,38,43,45,46,48,49,50,52,54,56,75,78,80,81,83,85,88]
def QQ:VR prog ajU=true:=by kernel_rfl
def agS{e:ay}(h:Aa e):jj rS e:=by
 induction h with
 |mk x m n o q f c g r i=>
  intro y b;rcases ZY.1 b with rfl|b
  ·exact⟨f.h1.1,c.1,λz d=>⟨(c.2 z d).h0.h1.1,(c.2 z d).h2.1,λl j=>((c.2 z d).h2.2 l j).h1.1⟩,g⟩
  ·obtain⟨a,k,b⟩:=Mb b;exact i a k y b
noncomputable def Rs(d:bZ):Nat:=3*SizeOf.sizeOf d.cw+2
def abk:∀{l:I bZ}{d:bZ},d∈l->Rs d<=(l.map Rs).sum
 |x::l,d,h=>by
  rw[ZS,List.sum_cons];rcases ZY.1 h with rfl|h
  ·omega
  ·have:=abk h;omega
noncomputable def aaL(p:bo):Nat:=(p.aM.map Rs).sum
def an7(p:bo)(b:I aJ)(m:I aR)(h:ae2 p)(_:b.length<=140737488355328/\∀a∈b,PV a)(_:m.length<=140737488355328/\∀a∈m,NG a):gZ prog 3 [c9 p,.d (.sl (aT b)),.d (.sl (bp m))] (·= .d (.v (.bool true))):=by
 refine akJ true (ap9 (9223372036854775900+aaL p) p b m (by omega) (λd c=>⟨agS (h.h3.2 d c).h5,?_⟩));have e:3*SizeOf.sizeOf d.cw+2<=aaL p:=abk c;omega
end Go.Proofs.YtnnapanbbbcalaaGreatDoor
