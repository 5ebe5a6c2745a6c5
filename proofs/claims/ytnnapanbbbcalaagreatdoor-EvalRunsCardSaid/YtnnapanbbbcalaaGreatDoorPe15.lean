/-
  Part 15 of the proof: EvH, Wts, EvI, EvJ, EvK, EvL, EvM, CnB, EvQ, EvN, EvO, EvP, EvR, EvS, OpenT, EvRunsAbs.
-/
import Derived.Test.YtnnapanbbbcalaaGreatDoorPe14
set_option linter.defProp false
namespace Go.Proofs.YtnnapanbbbcalaaGreatDoor
open Tryz
open Go.RowKit
set_option maxRecDepth 100000
set_option linter.unusedSimpArgs false
set_option linter.unusedVariables false
def PX(r:Except Int (aB×aM))(g:gi):Prop:=match r with
 | .ok x=>g=⟨x.1,x.2,0⟩
 | .error z=>g=⟨cf,dZ,z⟩/\z≠0
def adx(r:Except Int Bool)(p:Bool×Int):Prop:=match r with
 | .ok x=>p=(x,0)
 | .error z=>p=(false,z)/\z≠0
def ane(N:Nat)(h:2147483648<N)(mem:I aL)(env:I aJ)(e:az)(i:E4 e):∃g,JA N mem env e=some g/\PX (rp mem env e) g:=by
 obtain⟨g,j,a,k⟩:=ah9 N h mem env e i;refine⟨g,j,?_⟩;obtain⟨v,t,l⟩:=g;cases b:rp mem env e with
 |error z=>
  rw[b]at a;obtain⟨rfl,c⟩:=a;obtain⟨rfl,rfl⟩:=k c;exact⟨rfl,c⟩
 |ok x=>
  rw[b]at a;obtain⟨q1,d,f⟩:=a;simp only at q1 d f;subst q1;subst d;subst f;rfl
structure adq(N:Nat)(mem:List aL)(env:List aJ)(e:az):Prop where
 v:fq e=false->∀d:Nat,SizeOf.sizeOf e<=d->∃g,qG N d mem env e=some g/\PX (fA mem env e) g
 h:fq e=true->∀d:Nat,SizeOf.sizeOf e<=d->∃p,wY N d mem env e=some p/\adx (kx mem env e) p
def VX{t:aM}{r:aB×Int}:∃g,(bif r.2 !=0then some (⟨cf,dZ,r.2⟩:gi)else some (⟨r.1,t,0⟩:gi))=some g/\PX (qc t r) g:=by
 unfold qc;cases h:(r.2 !=0)with
 |true=>exact⟨_,rfl,rfl,by simpa using h⟩
 |false=>exact⟨_,rfl,rfl⟩
def rfe(N:Nat)(P:9223372036854775808<N)(mem:I aL)(env:I aJ):∀(n:Nat)(e:az),SizeOf.sizeOf e<=n->Ev e->adq N mem env e:=by
 intro n
 induction n with
 |zero=>intro e hs _;have:0<SizeOf.sizeOf e:=by cases e;simp;omega
        omega
 |succ n ih=>
  intro e hs Q;have E:=Q.n;have iV:0<SizeOf.sizeOf e:=by cases e;simp;omega
  have m:∀x∈e.bS,adq N mem env x/\SizeOf.sizeOf x+1<=SizeOf.sizeOf e:=λx hx=>by
   have:=vq hx;exact⟨ih x (by omega) (Q.arg hx),by omega⟩
  constructor
  ·intro R d hd;obtain⟨d,rfl⟩:∃S,d=S+1:=⟨d-1,by omega⟩;rw[qG];cases ae1 E R with
   |leaf u=>
    rw[dO u,Tq,acd u];obtain⟨g,t,k⟩:=ane N (by omega) mem env e (Q.f e Zq);rw[t,re];exact⟨_,rfl,k⟩
   |cast a j o=>
    have u:¬e.aD<=3:=by omega
    obtain⟨A,L⟩:=m a (by rw[j];simp);have y:fq a=false:=by rw[E.want 0 a (by rw[j];rfl),o];rfl
    rw[Zx u,T6,Lj u j,j,o];simp only[List.getElem?_cons_zero,re,Int.reduceBEq,T6,Tq];obtain⟨g,t,k⟩:=A.v y d (by omega);rw[t,re];cases F:fA mem env a with
    |error z=>
     rw[F]at k;obtain⟨rfl,l⟩:=k;simp only;rw[Ue.2 l,Tq];exact⟨_,rfl,rfl,l⟩
    |ok p=>
     rw[F]at k;cases k
     simp only;rw[show((0:Int) !=0)=false from rfl,T6,amk N P,re];exact VX
   |neg a j o=>
    have u:¬e.aD<=3:=by omega
    obtain⟨A,L⟩:=m a (by rw[j];simp);have y:fq a=false:=by rw[E.want 0 a (by rw[j];rfl),o];rfl
    rw[Zx u,T6,Lj u j,j,o];simp only[List.getElem?_cons_zero,re,Int.reduceBEq,T6,Tq,Int.reduceBNe];obtain⟨g,t,k⟩:=A.v y d (by omega);rw[t,re];unfold H7;cases F:fA mem env a with
    |error z=>
     rw[F]at k;obtain⟨rfl,l⟩:=k;simp only;rw[Ue.2 l,Tq];exact⟨_,rfl,rfl,l⟩
    |ok p=>
     rw[F]at k;cases k
     simp only;rw[show((0:Int) !=0)=false from rfl,T6,T6];show ∃g,(bif ji p.2 p.2 then _ else _)=_/\_;rw[(asD).2 rfl,Tq,o,TG N P,re];exact VX
   |bin a b j o=>
    have u:¬e.aD<=3:=by omega
    obtain⟨A,L⟩:=m a (by rw[j];simp);obtain⟨B,T⟩:=m b (by rw[j];simp);have w:∀i,jT e.aD i=false:=λi=>by
     unfold jT;rw[show(e.aD==11)=false by rw[Tv];omega,show(e.aD==16)=false by rw[Tv];omega,show(e.aD==17)=false by rw[Tv];omega,show(e.aD==18)=false by rw[Tv];omega];rfl
    have y:fq a=false:=by rw[E.want 0 a (by rw[j];rfl),w]
    have K:fq b=false:=by rw[E.want 1 b (by rw[j];rfl),w]
    rw[Zx u,T6,show(e.aD==11)=false by rw[Tv];omega,T6,show(e.aD==12)=false by rw[Tv];omega,agB u j,j];simp only[List.getElem?_cons_zero,Z2,re];obtain⟨g,t,k⟩:=A.v y d (by omega);rw[t,re];cases F:fA mem env a with
    |error z=>
     rw[F]at k;obtain⟨rfl,l⟩:=k;simp only;rw[Ue.2 l,Tq];exact⟨_,rfl,rfl,l⟩
    |ok p=>
     rw[F]at k;cases k
     simp only;rw[show((0:Int) !=0)=false from rfl,T6,T6,show(e.aD !=8)=true by rw[Ue];omega,Tq];obtain⟨g,q1,r⟩:=B.v K d (by omega);rw[q1,re];unfold H7;cases M:fA mem env b with
     |error z=>
      rw[M]at r;obtain⟨rfl,l⟩:=r;simp only;rw[Ue.2 l,Tq];exact⟨_,rfl,rfl,l⟩
     |ok q=>
      rw[M]at r;cases r
      simp only;rw[show((0:Int) !=0)=false from rfl,T6];show ∃g,(bif ji p.2 q.2 then _ else _)=_/\PX (bif ji p.2 q.2 then qc p.2 (ml e.aD p.2 p.1 q.1)else .error 10) g;cases ji p.2 q.2 with
      |false=>exact⟨_,rfl,rfl,by decide⟩
      |true=>
       rw[Tq,Tq,TG N P,re];exact VX
   |ite c a b j o=>
    have u:¬e.aD<=3:=by omega
    obtain⟨C,hsc⟩:=m c (by rw[j];simp);obtain⟨A,L⟩:=m a (by rw[j];simp);obtain⟨B,T⟩:=m b (by rw[j];simp);have cc:fq c=true:=by rw[E.want 0 c (by rw[j];rfl),o];rfl
    have y:fq a=false:=by rw[E.want 1 a (by rw[j];rfl),o];rfl
    have K:fq b=false:=by rw[E.want 2 b (by rw[j];rfl),o];rfl
    rw[Zx u,T6,show(e.aD==11)=true by rw[o];rfl,Tq,aan u j,j];simp only[List.getElem?_cons_zero,Z2,re];obtain⟨p,t,k⟩:=C.h cc d (by omega);rw[t,re];cases G:kx mem env c with
    |error z=>
     rw[G]at k;obtain⟨rfl,l⟩:=k;simp only;rw[Ue.2 l,Tq];exact⟨_,rfl,rfl,l⟩
    |ok s=>
     rw[G]at k;cases k
     simp only;rw[show((0:Int) !=0)=false from rfl,T6];cases s with
     |true=>
      obtain⟨g,q1,r⟩:=A.v y d (by omega);rw[Tq,q1,re];exact⟨_,rfl,r⟩
     |false=>
      obtain⟨g,q1,r⟩:=B.v K d (by omega);rw[T6,q1,re];exact⟨_,rfl,r⟩
  ·intro R d hd;obtain⟨d,rfl⟩:∃S,d=S+1:=⟨d-1,by omega⟩;rw[wY];cases kc E R with
   |not a j o=>
    obtain⟨A,L⟩:=m a (by rw[j];simp);have y:fq a=true:=by rw[E.want 0 a (by rw[j];rfl),o];rfl
    rw[j,o,adK j,dO (by decide),Tq];simp only[List.getElem?_cons_zero,re];obtain⟨p,t,k⟩:=A.h y d (by omega);rw[t,re];cases G:kx mem env a with
    |error z=>
     rw[G]at k;obtain⟨rfl,l⟩:=k;simp only;rw[Ue.2 l,Tq,re,Tq,show(z==0)=false by rw[Tv];exact l,T6,re];exact⟨_,rfl,rfl,l⟩
    |ok s=>
     rw[G]at k;cases k
     exact⟨_,rfl,rfl⟩
   |cmp a b j o=>
    obtain⟨A,L⟩:=m a (by rw[j];simp);obtain⟨B,T⟩:=m b (by rw[j];simp);have w:∀i,jT e.aD i=false:=λi=>by
     unfold jT;rw[show(e.aD==11)=false by rw[Tv];omega,show(e.aD==16)=false by rw[Tv];omega,show(e.aD==17)=false by rw[Tv];omega,show(e.aD==18)=false by rw[Tv];omega];rfl
    have y:fq a=false:=by rw[E.want 0 a (by rw[j];rfl),w]
    have K:fq b=false:=by rw[E.want 1 b (by rw[j];rfl),w]
    rw[Zx (show ¬e.aD>=16 by omega),T6,Ms j,dO (show e.aD<16 by omega),Tq,j];simp only[List.getElem?_cons_zero,Z2,re];obtain⟨g,t,k⟩:=A.v y d (by omega);rw[t,re];cases F:fA mem env a with
    |error z=>
     rw[F]at k;obtain⟨rfl,l⟩:=k;simp only;rw[Ue.2 l,Tq];exact⟨_,rfl,rfl,l⟩
    |ok p=>
     rw[F]at k;cases k
     simp only;rw[show((0:Int) !=0)=false from rfl,T6];obtain⟨g,q1,r⟩:=B.v K d (by omega);rw[q1,re];cases M:fA mem env b with
     |error z=>
      rw[M]at r;obtain⟨rfl,l⟩:=r;simp only;rw[Ue.2 l,Tq];exact⟨_,rfl,rfl,l⟩
     |ok q=>
      rw[M]at r;cases r
      simp only;rw[show((0:Int) !=0)=false from rfl,T6];show ∃g,(bif ji p.2 q.2 then _ else _)=_/\adx (bif ji p.2 q.2 then .ok (ye e.aD (lr p.2 p.1 q.1))else .error 10) g;cases ji p.2 q.2 with
      |false=>exact⟨_,rfl,rfl,by decide⟩
      |true=>
       rw[Tq,Tq,Sr N (by omega),re];generalize lr p.2 p.1 q.1=c;refine⟨(ye e.aD c,0),?_,rfl⟩;have nv:e.aD=13\/e.aD=14\/e.aD=15:=by omega
       unfold ye;rcases nv with h|h|h<;>rw[h]
       ·by_cases H:c<0
        ·rw[dO H];rfl
        ·rw[Zx H];by_cases J:c=0
         ·subst J;rfl
         ·rw[show(c==0)=false by rw[Tv];exact J];rfl
       ·by_cases H:c<0
        ·rw[dO H,dO (show c<=0 by omega)];rfl
        ·rw[Zx H];by_cases J:c=0
         ·subst J;rfl
         ·rw[show(c==0)=false by rw[Tv];exact J,Zx (show ¬c<=0 by omega)];rfl
       ·by_cases H:c<0
        ·rw[dO H,show(c==0)=false by rw[Tv];omega];rfl
        ·rw[Zx H];by_cases J:c=0
         ·subst J;rfl
         ·rw[show(c==0)=false by rw[Tv];exact J];rfl
   |log a b j o=>
    obtain⟨A,L⟩:=m a (by rw[j];simp);obtain⟨B,T⟩:=m b (by rw[j];simp);have w:∀i,jT e.aD i=true:=λi=>by
     unfold jT;rcases o with h|h<;>rw[h]<;>simp
    have y:fq a=true:=by rw[E.want 0 a (by rw[j];rfl),w]
    have K:fq b=true:=by rw[E.want 1 b (by rw[j];rfl),w]
    rw[dO (show e.aD>=16 by omega),Tq,Ms j,Zx (show ¬e.aD<16 by omega),T6,j];simp only[List.getElem?_cons_zero,Z2,re];obtain⟨p,t,k⟩:=A.h y d (by omega);rw[t,re];cases G:kx mem env a with
    |error z=>
     rw[G]at k;obtain⟨rfl,l⟩:=k;simp only;rw[Ue.2 l,Tq,re,Tq,show(z==0)=false by rw[Tv];exact l,T6,re];exact⟨_,rfl,rfl,l⟩
    |ok s=>
     rw[G]at k;cases k
     simp only;rw[show((0:Int) !=0)=false from rfl,T6,show(e.aD==18)=false by rw[Tv];omega,re,T6];obtain⟨q,q1,r⟩:=B.h K d (by omega);rw[q1,re];cases hg:kx mem env b with
     |error z=>
      rw[hg]at r;obtain⟨rfl,l⟩:=r;simp only;rw[Ue.2 l,Tq];exact⟨_,rfl,rfl,l⟩
     |ok W=>
      rw[hg]at r;cases r
      simp only;rw[show((0:Int) !=0)=false from rfl,T6];unfold ky;simp only;refine⟨(bif e.aD==16 then s&&W else s||W,0),?_,rfl⟩;rcases o with h|h<;>rw[h]<;>cases s<;>cases W<;>rfl
def WL(n:Nat):((n:Int) !=(n:Int))=false:=by rw[HI,Z7];rfl
structure A3(B:Nat)(x:c8):Prop where
 nT:x.bN.xL.length<=B
 at_:x.cQ.length<=B
 Eg:∀l∈x.cQ,l.xL.length<=B
structure No(B:Nat)(e:az):Prop where
 nT:e.bN.xL.length<=B
 idx:e.xIdx.length<=B
 each:∀x∈e.xIdx,A3 B x
 args:e.bS.length<=B
def ja(B:Nat)(e:az):Prop:=∀y∈dQ e,No B y
def ja.arg{B:Nat}{e x:az}(h:ja B e)(a:x∈e.bS):ja B x:=λy b=>h y (I5 a b)
def A3.mono{A B:Nat}(h:A<=B){x:c8}(k:A3 A x):A3 B x:=⟨Zc k.nT h,Zc k.at_ h,λl a=>Zc (k.Eg l a) h⟩
def No.mono{A B:Nat}(h:A<=B){e:az}(k:No A e):No B e:=⟨Zc k.nT h,Zc k.idx h,λx a=>(k.each x a).mono h,Zc k.args h⟩
abbrev rQ:Nat:=140737488355328
def As{a b:Nat}(h:a+b<=9223372036854775807):aF ((a:Int)+(b:Int))=((a+b:Nat):Int):=by
 rw[<-Int.natCast_add];exact P3 h
def Wt(m n:Nat)(Q:Prop)(r:U Int):Prop:=∃v:Nat,r=some (v:Int)/\n<=v/\v<=m+500000000000000/\(v<=m->Q)
def Va(N:Nat)(m:Nat)(g:m<=100000)(rec:az->Int->U Int)(c:az->Prop)(d:∀(x:az)(q:Nat),q<=m->c x->Wt q 1 (ja q x) (rec x (q:Int))):∀(l:I az)(k v:Nat),v<=m+500000000000000->(∀x∈l,c x)->
 Wt m v (v+l.length<=m/\∀x∈l,ja m x) (zU N (m:Int) rec l k (v:Int))/\DZ N (m:Int) rec l k (v:Int)=zU N (m:Int) rec l k (v:Int)
 |[],k,v,i,_=>⟨⟨v,rfl,Zv _,by omega,λh=>⟨h,λ_ h=>by cases h⟩⟩,rfl⟩
 |x::l,k,v,i,e=>by
  rw[zU,DZ,xU];by_cases h:v<=m
  ·rw[dO h,Tq,Tq,show aF ((m:Int)-(v:Int))=((m-v:Nat):Int) by rw[show(m:Int)-(v:Int)=((m-v:Nat):Int) by omega];exact P3 (by omega)];obtain⟨n,j,G,H,o⟩:=d x (m-v) (Nat.sub_le _ _) (e x Zq);rw[j,re,re];dsimp only;rw[As (by omega)];by_cases f:v+n<=m
   ·obtain⟨⟨u,r,J,t,w⟩,A⟩:=Va N m g rec c d l (k+1) (v+n) (by omega) λy b=>e y (Zg _ b);refine⟨⟨u,r,by omega,t,λB=> ?_⟩,A⟩;obtain⟨K,C⟩:=w B;refine⟨by simp only[Zl];omega,λy b=> ?_⟩;rcases Za.1 b with rfl|b
    ·exact λz E=>(o (by omega) z E).mono (by omega)
    ·exact C y b
   ·have a:∀(l:I az)(k:Nat),zU N (m:Int) rec l k ((v+n:Nat):Int)=some ((v+n:Nat):Int)/\DZ N (m:Int) rec l k ((v+n:Nat):Int)=some ((v+n:Nat):Int):=by
     intro l k;cases l with
     |nil=>exact⟨rfl,rfl⟩
     |cons y l=>rw[zU,DZ,xU,Zx f];exact⟨rfl,rfl⟩
    rw[(a l (k+1)).1,(a l (k+1)).2];exact⟨⟨v+n,rfl,by omega,by omega,λh=>absurd h f⟩,rfl⟩
  ·rw[Zx h];exact⟨⟨v,rfl,Zv _,by omega,λF=>absurd F h⟩,rfl⟩
def adk(N:Nat)(m:Nat)(r:m<=100000)(c:Int->U Int)(lo:Nat)(Q:Prop)(e:∀v:Nat,v<=m+500000000000000->lo<=v->Wt m v Q (c (v:Int))):∀(l:I bE)(k v:Nat),v<=m+500000000000000->lo<=v->(∀x∈l,x.xL.length<=rQ)->
 Wt m v (Q/\∀x∈l,x.xL.length<=m) (MZ N c (m:Int) l k (v:Int))
 |[],k,v,f,g,_=>by
  obtain⟨u,i,b,j,n⟩:=e v f g;exact⟨u,i,b,j,λh=>⟨n h,λ_ h=>by cases h⟩⟩
 |x::l,k,v,f,g,o=>by
  rw[MZ,xU];by_cases h:v<=m
  ·have z:x.xL.length<=140737488355328:=o x Zq;rw[dO h,Tq];dsimp only;rw[As (by omega)];obtain⟨u,t,A,w,q⟩:=adk N m r c lo Q e l (k+1) (v+x.xL.length) (by omega) (by omega) λy a=>o y (Zg _ a);refine⟨u,t,by omega,w,λd=>⟨(q d).1,λy a=> ?_⟩⟩;rcases Za.1 a with rfl|a
   ·omega
   ·exact(q d).2 y a
  ·rw[Zx h,T6];obtain⟨u,i,b,j,n⟩:=e v f g;exact⟨u,i,b,j,λd=>absurd (Zc b d) h⟩
def abJ(N:Nat)(m:Nat)(f:m<=100000)(rec:az->Int->U Int)(a:az->Prop)(i:∀(x:az)(q:Nat),q<=m->a x->Wt q 1 (ja q x) (rec x (q:Int)))(e:az)(j:∀x∈e.bS,a x):∀(l:I c8)(k v:Nat),v<=m+500000000000000->(∀x∈l,A3 rQ x)->
 Wt m v ((e.bS.length<=m/\∀x∈e.bS,ja m x)/\∀x∈l,A3 m x) (Dc N (m:Int) rec e l k (v:Int))
 |[],k,v,b,_=>by
  rw[Dc];obtain⟨u,g,c,n,o⟩:=(Va N m f rec a i e.bS 0 v b j).1;exact⟨u,g,c,n,λh=>⟨⟨by have:=(o h).1;omega,(o h).2⟩,λ_ h=>by cases h⟩⟩
 |x::l,k,v,b,w=>by
  rw[Dc,xU];by_cases h:v<=m
  ·have r:=w x Zq;have g:x.bN.xL.length<=140737488355328:=r.nT;have c:x.cQ.length<=140737488355328:=r.at_;rw[dO h,Tq,As (by omega),As (by omega)];obtain⟨u,z,J,A,B⟩:=adk N m f (λC=>Dc N (m:Int) rec e l (k+1) C) 0 _ (λv b _=>abJ N m f rec a i e j l (k+1) v b λy d=>w y (Zg _ d)) x.cQ 0 (v+x.bN.xL.length+x.cQ.length) (by omega) (Wv _) r.Eg;refine⟨u,z,by omega,A,λt=> ?_⟩;obtain⟨⟨E,F⟩,G⟩:=B t;refine⟨E,λy d=> ?_⟩;rcases Za.1 d with rfl|d
   ·exact⟨by omega,by omega,G⟩
   ·exact F y d
  ·rw[Zx h,T6];obtain⟨⟨u,g,c,n,o⟩,H⟩:=Va N m f rec a i e.bS 0 v b j;rw[H];exact⟨u,g,c,n,λt=>absurd (Zc c t) h⟩
def ack(N:Nat):∀(d:Nat)(e:az)(m:Nat),m<=100000->SizeOf.sizeOf e<d->ja rQ e->Wt m 1 (ja m e) (xg N d e (m:Int))
 |0,_,_,_,h,_=>absurd h (ZG _)
 |d+1,e,m,g,h,f=>by
  have c:=f e Zq;have t:e.bN.xL.length<=140737488355328:=c.nT;have v:e.xIdx.length<=140737488355328:=c.idx;rw[xg,show(1:Int)=((1:Nat):Int)from rfl,As (by omega),As (by omega)];obtain⟨u,i,w,j,k⟩:=abJ N m g (xg N d) (λx=>SizeOf.sizeOf x<d/\ja rQ x) (λx q z a=>ack N d x q (by omega) a.1 a.2) e (λx a=>⟨by have:=vq a;omega,f.arg a⟩) e.xIdx 0 (1+e.bN.xL.length+e.xIdx.length) (by omega) c.each;refine⟨u,i,by omega,j,λl=> ?_⟩;obtain⟨⟨n,o⟩,r⟩:=k l;intro y b;rcases Za.1 b with rfl|b
  ·exact⟨by omega,by omega,r,n⟩
  ·obtain⟨x,a,b⟩:=LU b;exact o x a y b
structure L4(d:bZ):Prop where
 DT:d.aR.length<=12
 red:d.cl.length<=12
 aj2:∀a∈d.aR++d.cl,a.eu.xL.length<=20
 body:ja 400 d.cw
structure DV(p:bo):Prop where
 s:p.bJ.length<=12
 w:p.dR.length<=12
 q:p.bn.length<=12
 d:p.aP.length<=12
 o:p.dC.length<=12
 W:∀c∈p.dR,c.bN.xL.length<=20
 P:∀x∈p.bn,x.aR.length<=12/\∀y∈x.aR,y.xL.length<=20
 D:∀d∈p.aP,L4 d
def Bt(Q:Prop)(r:U Bool):Prop:=∃b,r=some b/\(b=false->Q)
def Bt.mono{Q R:Prop}{r:U Bool}(h:Bt Q r)(f:Q->R):Bt R r:=let ⟨b,a,c⟩:=h;⟨b,a,λe=>f (c e)⟩
def UG(n:Nat):decide ((n:Int)>20)= !decide (n<=20):=l9 n 20
def wz(n:Nat):decide ((n:Int)>12)= !decide (n<=12):=l9 n 12
def af8(N:Nat):∀(l:I bE)(k:Nat),Bt (∀y∈l,y.xL.length<=20) (PF N l k)
 |[],_=>⟨_,rfl,λ_ _ h=>by cases h⟩
 |x::l,k=>by
  rw[PF,UG];by_cases h:x.xL.length<=20
  ·rw[dO h];refine(af8 N l (k+1)).mono λg y a=> ?_;rcases Za.1 a with rfl|a
   ·exact h
   ·exact g y a
  ·rw[Zx h];exact⟨true,rfl,λh=>by cases h⟩
def adH(N:Nat)(d:bZ)(c:U Bool)(Q:Prop)(f:Bt Q c)(h1:d.aR.length<=12)(j:d.cl.length<=12):∀(n k:Nat),k<=d.aR.length+d.cl.length->d.aR.length+d.cl.length-k<n->
 Bt (Q/\∀a∈(d.aR++d.cl).drop k,a.eu.xL.length<=20) (EW N d c n (k:Int))
 |0,k,_,h=>absurd h (ZG _)
 |n+1,k,q,h=>by
  rw[EW,As (by omega)];by_cases l:k<d.aR.length+d.cl.length
  ·have i:k<(d.aR++d.cl).length:=by rw[Zk];exact l
   rw[show decide ((k:Int)<((d.aR.length+d.cl.length:Nat):Int))=true from dO (by omega),e9 (by omega),e9 (by omega),show decide ((0:Int)<=(k:Int))=true from dO (by omega),Tq,Tq,Tq,Tq,ZK,Ze i,re,UG,List.drop_eq_getElem_cons i,K9 (by omega)];by_cases b:((d.aR++d.cl)[k]).eu.xL.length<=20
   ·rw[dO b];refine(adH N d c Q f h1 j n (k+1) (by omega) (by omega)).mono fun⟨m,o⟩=>⟨m,λy e=> ?_⟩;rcases Za.1 e with rfl|e
    ·exact b
    ·exact o y e
   ·rw[Zx b];exact⟨true,rfl,λh=>by cases h⟩
  ·rw[show decide ((k:Int)<((d.aR.length+d.cl.length:Nat):Int))=false from Zx (by omega),T6,List.drop_eq_nil_of_le (by rw[Zk];omega)];exact f.mono λg=>⟨g,λ_ h=>by cases h⟩
def abZ(N m:Nat)(f:m<=400)(i:1000<N):∀(l:I bZ)(k:Nat),(∀d∈l,ja rQ d.cw/\SizeOf.sizeOf d.cw<N)->Bt (∀d∈l,L4 d) (GO N (m:Int) l k)
 |[],_,_=>⟨_,rfl,λ_ _ h=>by cases h⟩
 |d::l,k,g=>by
  obtain⟨j,n⟩:=g d Zq;have o:=abZ N m f i l (k+1) λy a=>g y (Zg _ a);obtain⟨v,q,x,A,r⟩:=ack N N d.cw m (by omega) n j;rw[GO,wz,wz];unfold Vu;rw[q,re,show decide ((v:Int)>(m:Int))= !decide (v<=m)from l9 v m];by_cases b:d.aR.length<=12
  ·rw[dO b];by_cases c:d.cl.length<=12
   ·rw[dO c];by_cases e:v<=m
    ·rw[dO e];have:=adH N d _ _ o b c N 0 (Wv _) (by omega);rw[Yz]at this;refine Bt.mono this fun⟨t,u⟩ y a=> ?_;rcases Za.1 a with rfl|a
     ·exact⟨b,c,u,λz w=>(r e z w).mono f⟩
     ·exact t y a
    ·rw[Zx e];exact⟨true,rfl,λh=>by cases h⟩
   ·rw[Zx c];exact⟨true,rfl,λh=>by cases h⟩
  ·rw[Zx b];exact⟨true,rfl,λh=>by cases h⟩
def adX(N m:Nat)(c:m<=400)(e:1000<N)(p:bo)(f:∀d∈p.aP,ja rQ d.cw/\SizeOf.sizeOf d.cw<N):∀(l:I eX)(k:Nat),Bt ((∀d∈p.aP,L4 d)/\∀x∈l,x.aR.length<=12/\∀y∈x.aR,y.xL.length<=20) (KZ N (m:Int) p l k)
 |[],_=>(abZ N m c e p.aP 0 f).mono λg=>⟨g,λ_ h=>by cases h⟩
 |x::l,k=>by
  obtain⟨b,i,j⟩:=af8 N x.aR 0;rw[KZ,wz];unfold U5;rw[i,re];by_cases h:x.aR.length<=12
  ·rw[dO h];cases b with
   |true=>exact⟨true,rfl,λh=>by cases h⟩
   |false=>
    refine(adX N m c e p f l (k+1)).mono fun⟨n,o⟩=>⟨n,λy a=> ?_⟩;rcases Za.1 a with rfl|a
    ·exact⟨h,j rfl⟩
    ·exact o y a
  ·rw[Zx h];exact⟨true,rfl,λh=>by cases h⟩
def adW(N m:Nat)(b:m<=400)(e:1000<N)(p:bo)(f:∀d∈p.aP,ja rQ d.cw/\SizeOf.sizeOf d.cw<N):∀(l:I ik)(k:Nat),Bt (((∀d∈p.aP,L4 d)/\∀x∈p.bn,x.aR.length<=12/\∀y∈x.aR,y.xL.length<=20)/\∀c∈l,c.bN.xL.length<=20) (K4 N (m:Int) p l k)
 |[],_=>(adX N m b e p f p.bn 0).mono λg=>⟨g,λ_ h=>by cases h⟩
 |c::l,k=>by
  rw[K4,UG];by_cases h:c.bN.xL.length<=20
  ·rw[dO h];refine(adW N m b e p f l (k+1)).mono fun⟨i,j⟩=>⟨i,λy a=> ?_⟩;rcases Za.1 a with rfl|a
   ·exact h
   ·exact j y a
  ·rw[Zx h];exact⟨true,rfl,λh=>by cases h⟩
def al8(N m:Nat)(g:m<=400)(i:1000<N)(p:bo)(j:∀d∈p.aP,ja rQ d.cw/\SizeOf.sizeOf d.cw<N):Bt (DV p) (Jy N p (m:Int)):=by
 unfold Jy;rw[wz,wz,wz,wz,wz];by_cases a:p.bJ.length<=12
 ·by_cases b:p.dR.length<=12
  ·by_cases c:p.bn.length<=12
   ·by_cases e:p.aP.length<=12
    ·by_cases f:p.dC.length<=12
     ·rw[dO a,dO b,dO c,dO e,dO f];exact(adW N m g i p j p.dR 0).mono fun⟨⟨k,l⟩,n⟩=>⟨a,b,c,e,f,n,l,k⟩
     ·rw[dO a,dO b,dO c,dO e,Zx f];exact⟨true,rfl,λh=>by cases h⟩
    ·rw[dO a,dO b,dO c,Zx e];exact⟨true,rfl,λh=>by cases h⟩
   ·rw[dO a,dO b,Zx c];exact⟨true,rfl,λh=>by cases h⟩
  ·rw[dO a,Zx b];exact⟨true,rfl,λh=>by cases h⟩
 ·rw[Zx a];exact⟨true,rfl,λh=>by cases h⟩
def aj5(n:Nat):JD (n+3000)=some true:=by kernel_rfl
def akf{N:Nat}(h:3000<=N):JD N=some true:=by
 obtain⟨n,rfl⟩:∃n,N=n+3000:=⟨N-3000,by omega⟩;exact aj5 n
structure adO(x:aL):Prop where
 DT:x.xTensor.aR.length<=20
 Ve:x.xTensor.eD.length<=4200
def adN(N:Nat)(m:I aL):∀(l:I aL)(k:Nat),∃b,Mn N m l k=some b/\(b=true->m.length<=30/\∀x∈l,adO x)
 |[],k=>⟨_,rfl,λh=>⟨by rw[UR]at h;omega,λx i=>by cases i⟩⟩
 |x::l,k=>by
  rw[Mn];obtain⟨b,j,c⟩:=adN N m l (k+1);by_cases d:(x.ay.size:Int)>100;{rw[dO d];exact⟨false,rfl,λh=>by cases h⟩}
  ·rw[Zx d,T6];by_cases e:(x.xTensor.aR.length:Int)>20
   ·rw[dO e];exact⟨false,rfl,λh=>by cases h⟩
   ·rw[Zx e,T6,re];by_cases f:(x.xTensor.eD.length:Int)>4200
    ·rw[dO f];exact⟨false,rfl,λh=>by cases h⟩
    ·rw[Zx f,T6];refine⟨b,j,λg=>⟨(c g).1,λy a=> ?_⟩⟩;rcases Za.1 a with rfl|a
     ·exact⟨by omega,by omega⟩
     ·exact(c g).2 y a
def alO(N:Nat)(m:I aL):∃b,Ur N m=some b/\(b=true->m.length<=30/\∀x∈m,adO x):=adN N m m 0
def adZ(N:Nat)(m:I aJ)(n:Int):∀(l:I aJ)(k:Nat),∃b,Ln N m n l k=some b/\(b=true->(m.length:Int)<=n)
 |[],k=>⟨_,rfl,λh=>by rw[UR]at h;exact h⟩
 |x::l,k=>by
  rw[Ln];obtain⟨b,a,c⟩:=adZ N m n l (k+1);cases decide ((x.ay.size:Int)>100)with
  |true=>exact⟨false,rfl,λh=>by cases h⟩
  |false=>exact⟨b,a,c⟩
def aok(N:Nat)(m:I aJ)(n:Int):∃b,Qx N m n=some b/\(b=true->(m.length:Int)<=n):=adZ N m n m 0
def ja.oz{B:Nat}(a:B<=100000){e:az}(h:ja B e):oz e:=λy d=>
 have b:100000<=maxLen:=by decide
 have H:=h y d
 ⟨Zc (Zc H.nT a) b,λx c=>⟨Zc (Zc (H.each x c).nT a) b,λl f=>Zc (Zc ((H.each x c).Eg l f) a) b⟩,Zc (Zc H.args a) b⟩
def ja.ev{B:Nat}(a:B<=100000){e:az}(h:ja B e)(f:nV e=0):Ev e:=
 have b:100000<=4611686018427387904:=by decide
 ⟨λy c=>Vw f y c,λy c=>
  have H:=h y c
  ⟨Zc (Zc H.nT a) b,λx d=>⟨Zc (Zc (H.each x d).nT a) b,λl g=>Zc (Zc ((H.each x d).Eg l g) a) b⟩⟩⟩
def ajv{N:Nat}{p:bo}(h:DV p)(f:∀d∈p.aP,SizeOf.sizeOf d.cw<N):Bd N p:=
 ⟨Zc h.s (by decide),Zc h.w (by decide),Zc h.q (by decide),Zc h.d (by decide),Zc h.o (by decide),
  ⟨λx b=>Zc (h.P x b).1 (by decide),λx b y e=>Zc ((h.P x b).2 y e) (by decide)⟩,
  ⟨λd a=>by have i:=(h.D d a).DT;have j:=(h.D d a).red;omega,λd a y e=>Zc ((h.D d a).aj2 y e) (by decide)⟩,
  λc g=>Zc (h.W c g) (by decide),λd a=>⟨(h.D d a).body.oz (by decide),f d a⟩⟩
def ta(v:Int64):Bool:=decide (1<=v.toInt)&&decide (v.toInt<=4096)
def L8(env:I aJ)(s:so):Bool:=match m5 env s with
 |none=>false
 |some v=>ta v
def vg(c:ik)(env:I aJ):Bool×Int:=
 let q:=dB c.bN env
 bif q.2 !=0 then(false,q.2)else(bif q.1.toInt==0 then true else bif decide (q.1.toInt>0)then !c.Hk else false,0)
def Ae(env:I aJ):I ik->Int
 |[]=>0
 |c::l=>bif (vg c env).2 !=0 then(vg c env).2 else bif (vg c env).1 then Ae env l else 16
def Bf(p:bo)(env:I aJ):Int:=bif (env.length:Int) !=(p.bJ.length:Int)then 15 else bif p.bJ.all (L8 env)then Ae env p.dR else 15
def al6(N:Nat)(a:2147483648<N)(c:ik)(env:I aJ)(h:c.bN.xL.length<=4611686018427387904):Nz N c env=some (vg c env):=by
 unfold Nz vg;rw[GM N a _ _ h,re];dsimp only;cases (dB c.bN env).2 !=0 with
 |true=>rfl
 |false=>
  simp only[T6];cases (dB c.bN env).1.toInt==0 with
  |true=>rfl
  |false=>cases decide ((dB c.bN env).1.toInt>0)<;>rfl
def as8(N:Nat)(a:2147483648<N)(c:ik)(env:I aJ)(h:c.bN.xL.length<=4611686018427387904):Ma N c env=some (vg c env):=by
 unfold Ma vg;rw[Gr N a _ _ h,re];dsimp only;cases (dB c.bN env).2 !=0 with
 |true=>rfl
 |false=>
  simp only[T6];cases (dB c.bN env).1.toInt==0 with
  |true=>rfl
  |false=>cases decide ((dB c.bN env).1.toInt>0)<;>rfl
def acA(N:Nat)(a:2147483648<N)(env:I aJ):∀(l:I ik)(k:Nat),(∀c∈l,c.bN.xL.length<=4611686018427387904)->Ku N env l k=some (Ae env l)/\NZ N env l k=some (Ae env l)
 |[],k,_=>⟨rfl,rfl⟩
 |c::l,k,h=>by
  obtain⟨b,d⟩:=acA N a env l (k+1) λx e=>h x (Zg _ e);rw[Ku,NZ,al6 N a c env (h c Zq),as8 N a c env (h c Zq),re,re,b,d,Ae];cases (vg c env).2 !=0 with
  |true=>exact⟨rfl,rfl⟩
  |false=>cases (vg c env).1<;>exact⟨rfl,rfl⟩
def aao(N:Nat)(s:so):∀(env:I aJ)(k:Nat),(m5 env s=none->GL N s env k=some (-1))/\(∀v,m5 env s=some v->∃i b,GL N s env k=some ((k+i:Nat):Int)/\env[i]?=some b/\b.dP=v)
 |[],k=>⟨λ_=>rfl,λv h=>by cases h⟩
 |b::r,k=>by
  obtain⟨a,d⟩:=aao N s r (k+1);unfold m5 GL Qp;simp only[re];cases g:(bL b.ay==bL s)with
  |true=>exact⟨λh=>(by cases h),λv h=>by cases h;exact⟨0,b,rfl,rfl,rfl⟩⟩
  |false=>
   simp only[T6];refine⟨a,λv h=> ?_⟩;obtain⟨i,c,q1,e,f⟩:=d v h;exact⟨i+1,c,by rw[q1];congr 2;omega,e,f⟩
def acP(N:Nat)(s:so):∀(env:I aJ)(k:Nat),KD N s env k=some (match m5 env s with|none=>(0,false)|some v=>(v,true))
 |[],_=>rfl
 |b::r,k=>by
  rw[KD,m5];cases bL b.ay==bL s with
  |true=>rfl
  |false=>exact acP N s r (k+1)
def adI(v:Int64):(bif decide (v.toInt<1)then some true else some (decide (v.toInt>4096)))=some (!ta v):=by
 unfold ta;by_cases a:v.toInt<1;{rw[dO a,Zx (show ¬1<=v.toInt by omega)];rfl}
 ·rw[Zx a,dO (show 1<=v.toInt by omega)];by_cases b:v.toInt>4096
  ·rw[dO b,Zx (show ¬v.toInt<=4096 by omega)];rfl
  ·rw[Zx b,dO (show v.toInt<=4096 by omega)];rfl
def TY(N:Nat)(a:2147483648<N)(env:I aJ)(p:bo)(d:∀c∈p.dR,c.bN.xL.length<=4611686018427387904):∀(l:I so)(k:Nat),PW N env p l k=some (bif l.all (L8 env)then Ae env p.dR else 15)/\Mu N env p l k=some (bif l.all (L8 env)then Ae env p.dR else 15)
 |[],k=>acA N a env p.dR 0 d
 |s::l,k=>by
  obtain⟨f,g⟩:=TY N a env p d l (k+1);rw[PW,Mu,f,g,ZE];unfold QF U9 L8;rw[acP N s env 0,re];obtain⟨q1,h⟩:=aao N s env 0;cases e:m5 env s with
  |none=>rw[q1 e];exact⟨rfl,rfl⟩
  |some v=>
   obtain⟨i,b,j,m,rfl⟩:=h v e;rw[j];simp only[re,ZQ];rw[Zx (show ¬(i:Int)<0 by omega),dO (show(0:Int)<=(i:Int) by omega),ZK,m];simp only[re,Tq,T6];rw[adI];cases ta b.dP<;>exact⟨rfl,rfl⟩
def arE(N:Nat)(a:2147483648<N)(env:I aJ)(p:bo)(b:∀c∈p.dR,c.bN.xL.length<=4611686018427387904):JW N p env=some (Bf p env):=by
 unfold JW Bf;rw[(TY N a env p b p.bJ 0).1];cases (env.length:Int) !=(p.bJ.length:Int)<;>rfl
def ahH(N:Nat)(a:2147483648<N)(env:I aJ)(p:bo)(b:∀c∈p.dR,c.bN.xL.length<=4611686018427387904):N5 N p env=some (Bf p env):=by
 unfold N5 Bf;rw[(TY N a env p b p.bJ 0).2];cases (env.length:Int) !=(p.bJ.length:Int)<;>rfl
def gK(env:I aJ):I bE->I Int->I Int×Int
 |[],a=>(a,0)
 |f::l,a=>bif (dB f env).2 !=0 then([],(dB f env).2)else bif ta (dB f env).1 then gK env l (a++[(dB f env).1.toInt])else([],15)
def PM(N:Nat)(b:2147483648<N)(env:I aJ):∀(l:I bE)(k:Nat)(a:I Int),(∀x∈l,np 1000000000 x)->a.length+l.length<=1000000000->MF N env l k a=some (gK env l a)/\Nu N env l k a=some (gK env l a)
 |[],k,a,_,_=>⟨rfl,rfl⟩
 |f::l,k,a,h,d=>by
  simp only[Zl]at d;have c:f.xL.length<=4611686018427387904:=Zc (h f Zq) (by decide);obtain⟨e,g⟩:=PM N b env l (k+1) (a++[(dB f env).1.toInt]) (λx i=>h x (Zg _ i)) (by simp only[Zk,Zl,Zf];omega);rw[MF,Nu,GM N b f env c,Gr N b f env c,re,re,adI,re,e9 (by omega),Tq];dsimp only;rw[e,g,gK];cases (dB f env).2 !=0 with
  |true=>exact⟨rfl,rfl⟩
  |false=>cases ta (dB f env).1<;>exact⟨rfl,rfl⟩
def Iv(env:I aJ):∀(l:I bE)(b:I Int),(∀x∈b,1<=x/\x<=4096)->∀x∈(gK env l b).1,1<=x/\x<=4096
 |[],b,h=>h
 |f::l,b,h=>by
  rw[gK];cases (dB f env).2 !=0 with
  |true=>exact λx a=>by cases a
  |false=>
   rw[T6];cases c:ta (dB f env).1 with
   |false=>exact λx a=>by cases a
   |true=>
    rw[Tq];refine Iv env l _ λx a=> ?_;rcases ZN.1 a with a|a
    ·exact h x a
    ·rw[af]at a;subst a;unfold ta at c;rw[Zr,UR,UR]at c;exact c
def cT:I Int->Int
 |[]=>1
 |x::l=>x*cT l
def qv:∀{l:I Int},(∀x∈l,1<=x/\x<=4096)->1<=cT l
 |[],_=>by decide
 |x::l,h=>by
  rw[cT];have a:=qv λy b=>h y (Zg _ b);have c:=(h x Zq).1;have:=b6 c a (by decide) (by omega);omega
def ad4(N:Nat)(a:Int)(g:a<=65536):∀(l:I Int)(k:Nat)(v:Int),(∀x∈l,1<=x/\x<=4096)->1<=v->v<=a->I3 N a l k v=some (if v*cT l<=a then v*cT l else a+1)
 |[],k,v,_,c,d=>by
  rw[I3,cT,Int.mul_one,ab d]
 |x::l,k,v,h,c,d=>by
  have e:=h x Zq;have i:=qv (l:=l) λy b=>h y (Zg _ b);have j:v*x<=65536*4096:=b6 (by omega) e.2 (by omega) (by omega);have m:1*1<=v*x:=b6 c e.1 (by decide) (by omega);rw[I3,cT,iz (by omega) (by omega),<-an];by_cases f:v*x>a
  ·rw[dO f,Tq,iz (by omega) (by omega),ae];have:v*x*1<=v*x*cT l:=Yy i (by omega);omega
  ·rw[Zx f,T6];dsimp only;exact ad4 N a g l (k+1) (v*x) (λy b=>h y (Zg _ b)) (by omega) (by omega)
def Wu(N:Nat):∀(l:I Int)(k:Nat)(v:Int),(∀x∈l,1<=x/\x<=4096)->1<=v->v<=65537->Jk N l k v=some (if v*cT l<=65537 then v*cT l else 65537)
 |[],k,v,_,b,c=>by
  rw[Jk,cT,Int.mul_one,ab c]
 |x::l,k,v,h,b,c=>by
  have d:=h x Zq;have f:=qv (l:=l) λy a=>h y (Zg _ a);have g:v*x<=65537*4096:=b6 (by omega) d.2 (by omega) (by omega);have i:1*1<=v*x:=b6 b d.1 (by decide) (by omega);rw[Jk,cT,iz (by omega) (by omega),<-an];dsimp only;by_cases e:65537<v*x
  ·rw[ab e,Wu N l (k+1) 65537 (λy a=>h y (Zg _ a)) (by decide) (by decide)];have j:v*x*1<=v*x*cT l:=Yy f (by omega);rw[ae (show ¬v*x*cT l<=65537 by omega)];split
   ·congr 1;omega
   ·rfl
  ·rw[ae e];exact Wu N l (k+1) (v*x) (λy a=>h y (Zg _ a)) (by omega) (by omega)
def ats(N:Nat)(a:Int)(h1:1<=a)(b:a<=65536)(l:I Int)(h:∀x∈l,1<=x/\x<=4096):Rq N l a=some (if cT l<=a then cT l else a+1):=by
 have:=ad4 N a b l 0 1 h (by decide) h1
 rwa [bf]at this
def yO(N:Nat)(l:I Int)(h:∀x∈l,1<=x/\x<=4096):zu N l=some (if cT l<=65537 then cT l else 65537):=by
 have:=Wu N l 0 1 h (by decide) (by decide)
 rwa [bf]at this
def aaM(a:Int)(h1:1<=a)(b:a<=65536)(n:Int):decide ((if n<=a then n else a+1)>a)=decide (n>a):=by
 by_cases h:n<=a;{rw[ab h]};{rw[ae h,dO (show a+1>a by omega),dO (show n>a by omega)]}
def asg(a:Int)(b:a<=65536)(n:Int):decide ((if n<=65537 then n else 65537)>a)=decide (n>a):=by
 by_cases h:n<=65537;{rw[ab h]};{rw[ae h,dO (show(65537:Int)>a by omega),dO (show n>a by omega)]}
def agU(N:Nat)(d:bZ):∀(l:I dH)(k:Nat)(b:I bE),b.length+l.length<=1000000000->FD N d l k b=some (b++l.map (·.eu),d.aH,true)
 |[],_,b,_=>by rw[FD,ah,ZV]
 |a::l,k,b,h=>by
  simp only[Zl]at h;rw[FD,e9 (by omega),Tq];dsimp only;rw[agU N d l (k+1) _ (by simp only[Zk,Zl,Zf];omega),ZS,ZR];rfl
def Eu(q:aM×I bE×Bool):I bE×aM×Bool:=(q.2.1,q.1,q.2.2)
def aec(N:Nat)(s:so):∀(D:I bZ)(k:Nat),hX D->OU N s D k=some (Eu (dW [] D s))
 |[],_,_=>rfl
 |d::D,k,h=>by
  rw[OU,aec N s D (k+1) ⟨λy a=>h.len y (Zg _ a),λy a=>h.lR y (Zg _ a)⟩];unfold dW;rw[List.find?_nil,List.find?_cons];unfold mf;cases bL d.ay==bL s with
  |true=>
   simp only[Tq];rw[agU N d _ _ _ (by have:=h.len d Zq;simp only[Zf];omega),W2];rfl
  |false=>rfl
def ad3(N:Nat)(s:so)(p:bo)(a:hX p.aP):∀(l:I eX)(k:Nat),Gb N s p l k=some (Eu (dW l p.aP s))
 |[],k=>by rw[Gb,aec N s _ _ a]
 |x::l,k=>by
  rw[Gb,ad3 N s p a l];unfold dW;rw[List.find?_cons];cases bL x.ay==bL s<;>rfl
def agC(N:Nat)(p:bo)(s:so)(a:hX p.aP):P2 N p s=some (Eu (dW p.bn p.aP s)):=ad3 N s p a p.bn 0
def acz{P:I eX}{D:I bZ}(c:mn P)(e:hX D)(s:so):(dW P D s).2.1.length<=1000000000/\∀y∈(dW P D s).2.1,np 1000000000 y:=by
 unfold dW;cases g:P.find? (λx=>bL x.ay==bL s)with
 |some x=>
  have:=List.mem_of_find?_eq_some g;exact⟨c.len x this,c.lR x this⟩
 |none=>
  dsimp only;cases h:D.find? (mf s)with
  |some d=>
   have f:=List.mem_of_find?_eq_some h;refine⟨?_,λy b=> ?_⟩;{have:=e.len d f;dsimp only;rw[Zu];omega};{obtain⟨a,i,rfl⟩:=UU.1 b;exact e.DT f a i}
  |none=>exact⟨by simp,λy b=>by cases b⟩
def gW(p:bo)(env:I aJ)(s:so):I Int×aM×Int:=
 let q:=dW p.bn p.aP s
 bif q.2.2 then
  (let x:=gK env q.2.1 []
   bif x.2 !=0 then([],q.1,x.2)else bif decide (cT x.1>4096)then([],q.1,15)else(x.1,q.1,0))
 else([],q.1,9)
def acx(env:I aJ):∀(l:I bE)(a:I Int),((gK env l a).2 !=0)=true->(gK env l a).1=[]
 |[],a,h=>by cases h
 |f::l,a,h=>by
  rw[gK]at h ⊢;cases b:(dB f env).2 !=0 with
  |true=>rfl
  |false=>
   rw[b,T6]at h;rw[T6];cases c:ta (dB f env).1 with
   |false=>rfl
   |true=>rw[c,Tq]at h;rw[Tq];exact acx env l _ h
def Uu(N:Nat)(d:2147483648<N)(p:bo)(env:I aJ)(s:so)(a:mn p.bn)(b:hX p.aP):B4 N p env s=some (gW p env s):=by
 unfold B4 gW I1;rw[VW N p s a b,re];obtain⟨e,f⟩:=acz a b s;rw[(PM N d env (dW p.bn p.aP s).2.1 0 [] f (by simpa using e)).1];dsimp only;cases (dW p.bn p.aP s).2.2 with
 |false=>rfl
 |true=>
  simp only[Tq,re];cases c:(gK env (dW p.bn p.aP s).2.1 []).2 !=0 with
  |true=>rfl
  |false=>
   rw[T6,T6,ats N 4096 (by decide) (by decide) _ (Iv env _ [] λx c=>by cases c),re,aaM 4096 (by decide) (by decide)];cases decide (cT (gK env (dW p.bn p.aP s).2.1 []).1>4096)<;>rfl
def TW(N:Nat)(c:2147483648<N)(p:bo)(env:I aJ)(s:so)(d:mn p.bn)(b:hX p.aP):Cz N p env s=some ((gW p env s).1,(gW p env s).2.2):=by
 unfold Cz gW Hc;rw[agC N p s b,re];obtain⟨f,g⟩:=acz d b s;have e:=(PM N c env (dW p.bn p.aP s).2.1 0 [] g (by simpa using f)).2;unfold Eu;dsimp only;rw[e];cases (dW p.bn p.aP s).2.2 with
 |false=>rfl
 |true=>
  simp only[Tq,re];cases a:(gK env (dW p.bn p.aP s).2.1 []).2 !=0 with
  |true=>
   rw[Ue]at a;rw[show((gK env (dW p.bn p.aP s).2.1 []).2==0)=false by rw[Tv];exact a];simp only[T6,re,Tq];rw[acx env _ _ (Ue.2 a)]
  |false=>
   rw[bne_eq_false_iff_eq]at a;rw[a,yO N _ (Iv env _ [] λx a=>by cases a)];simp only[Z7,Tq,T6,re];rw[asg 4096 (by decide)];cases decide (cT (gK env (dW p.bn p.aP s).2.1 []).1>4096)<;>rfl
def ais(N:Nat)(L:I Int):vb N L L=some true:=by
 have a:∀(l:I Int)(k:Nat),L.drop k=l->xG N L l k=some true:=by
  intro l
  induction l with
  |nil=>intro k _;rfl
  |cons x l b=>intro k h;rw[xG,ZK,aX h,re,bne_self_eq_false,T6];exact b (k+1) (rS h)
 unfold vb;rw[WL,T6];exact a L 0 rfl
def gj:I Int->Int->I Int×Int
 |[],n=>([],n)
 |x::l,n=>((gj l n).2.tmod x::(gj l n).1,(gj l n).2.tdiv x)
def lL(ext:I Int)(n:Int):I Int:=(gj ext n).1
def BJ:∀(l:I Int)(n:Int),(gj l n).1.length=l.length
 |[],_=>rfl
 |x::l,n=>by rw[gj];simp only[Zl];rw[BJ l n]
def S4(l:I Int)(n:Int):(lL l n).length=l.length:=BJ l n
structure nx(l:List Int):Prop where
 r:∀x∈l,1<=x/\x<=4096
 n:l.length<=16
 p:cT l<=65536
def Bj:∀{l:I Int}{n:Int},(∀x∈l,1<=x/\x<=4096)->0<=n->n<=65537->(0<=(gj l n).2/\(gj l n).2<=65537)/\∀x∈(gj l n).1,0<=x/\x<4096
 |[],n,_,c,d=>⟨⟨c,d⟩,λx e=>by cases e⟩
 |x::l,n,h,c,d=>by
  obtain⟨⟨b,f⟩,g⟩:=Bj (l:=l) (λy a=>h y (Zg _ a)) c d;have e:=h x Zq;rw[gj];refine⟨⟨Int.tdiv_nonneg b (by omega),?_⟩,λy a=> ?_⟩;{rw[ai b];exact Int.le_trans (Int.ediv_le_self _ b) f}
  ·rcases Za.1 a with rfl|a
   ·rw[Int.tmod_eq_emod_of_nonneg b];have:=Int.emod_nonneg (gj l n).2 (show x≠0 by omega);have:=Int.emod_lt_of_pos (gj l n).2 (show 0<x by omega);omega
   ·exact g y a
def aqC{l:I Int}{n:Int}(h:∀x∈l,1<=x/\x<=4096)(h1:0<=n)(a:n<=65537):∀x∈lL l n,0<=x/\x<4096:=(Bj h h1 a).2
def JJ{α:Type}{l:I α}{j:Nat}{x:α}(h:l[j]?=some x):l.drop j=x::l.drop (j+1):=by
 obtain⟨a,rfl⟩:=Zo.1 h;exact List.drop_eq_getElem_cons a
def acw{α:Type}(a b:α)(j:Nat)(l:I α):(List.replicate (j+1) a++l).set j b=List.replicate j a++(b::l):=by
 rw[List.replicate_succ',ZR,List.set_append_right _ _ (by simp)];simp
def acv{α:Type}(a:α)(j:Nat)(l:I α):(List.replicate (j+1) a++l)[j]?=some a:=by
 rw[ZX (by simp)];simp [List.getElem?_replicate]
def Wg{z:Int}(h1:0<=z)(a:z<=65537):IntKind.i64.wrap z=z:=by
 rw[br];omega
def acg(N:Nat)(ext:I Int)(n:Int)(h:∀x∈ext,1<=x/\x<=4096)(h1:0<=n)(a:n<=65537):∀(j f:Nat),j<=ext.length->j<f->j<=1000->
 Dk N ext f (gj (ext.drop j) n).2 ((j:Int)-1) (List.replicate j 0++(gj (ext.drop j) n).1)=some (lL ext n,true)
 |0,f,i,k,_=>by
  obtain⟨f,rfl⟩:∃b,f=b+1:=⟨f-1,by omega⟩;rw[Dk,Zx (by decide),T6,Yz,List.replicate_zero,W2,show Nat.beq (gj ext n).1.length ext.length=true by rw[BJ];exact Nat.beq_refl _];rfl
 |j+1,f,i,k,r=>by
  obtain⟨f,rfl⟩:∃b,f=b+1:=⟨f-1,by omega⟩;obtain⟨x,c⟩:∃x,ext[j]?=some x:=⟨_,Ze (by omega)⟩;have t:=h x (ZY c);have g:=JJ c;have u:=(Bj (l:=ext.drop (j+1)) (n:=n) (λy d=>h y (a7 d)) h1 a).1;rw[Dk,show((j+1:Nat):Int)-1=(j:Int) by omega,dO (show(j:Int)>=0 by omega),Tq,Tq,ZK,c,re,Ue.2 (show x≠0 by omega),Tq];have m:(List.replicate (j+1) (0:Int)++(gj (ext.drop (j+1)) n).1).length=ext.length:=by
   rw[Zk,Yq,BJ,b9];omega
  rw[m,Nat.beq_refl,Tq,dO (show(j:Int)<(ext.length:Int) by omega),Tq,acv,re,acw];have o:IntKind.i64.wrap ((gj (ext.drop (j+1)) n).2.tdiv x)=(gj (ext.drop j) n).2:=by
    have e:=(Bj (l:=ext.drop j) (n:=n) (λy d=>h y (a7 d)) h1 a).1;rw[g,gj]at e ⊢;exact Wg e.1 e.2
  have q:(gj (ext.drop (j+1)) n).2.tmod x::(gj (ext.drop (j+1)) n).1=(gj (ext.drop j) n).1:=by rw[g,gj]
  rw[o,q,iz (by omega) (by omega)];exact acg N ext n h h1 a j f (by omega) (by omega) (by omega)
def acm(N:Nat)(ext:I Int):∀(l:I Int)(k:Nat),(∀x∈l,1<=x/\x<=4096)->P4 N ext l k false=CS N false ext 0 1
 |[],k,_=>rfl
 |x::l,k,h=>by
  have b:=h x Zq;rw[P4,Zx (show ¬x<0 by omega),T6,T6,re];dsimp only;rw[show(x==0)=false by rw[Tv];omega];exact acm N ext l (k+1) λy a=>h y (Zg _ a)
def agN(N:Nat):∀(l:I Int)(k:Nat)(v:Int),(∀x∈l,1<=x/\x<=4096)->1<=v->v*cT l<=65536->CS N false l k v=some 0
 |[],k,v,_,_,_=>rfl
 |x::l,k,v,h,d,b=>by
  have c:=h x Zq;have e:=qv (l:=l) λy a=>h y (Zg _ a);rw[cT,<-an]at b;have f:1*1<=v*x:=b6 d c.1 (by decide) (by omega);have g:v*x*1<=v*x*cT l:=Yy e (by omega);have i:v*1<=v*x:=Yy c.1 (by omega);have j:x<=(65536:Int).tdiv v:=by
   rw[ai (by decide)];refine(Int.le_ediv_iff_mul_le (by omega)).2 ?_;rw[Int.mul_comm];omega
  have m:(65536:Int).tdiv v<=65536:=by
   rw[ai (by decide)];exact Int.ediv_le_self _ (by decide)
  rw[CS,T6,Ue.2 (show v≠0 by omega),Tq,re,Wg (by omega) (by omega),Zx (show ¬x>(65536:Int).tdiv v by omega),T6,T6,iz (by omega) (by omega)];exact agN N l (k+1) (v*x) (λy a=>h y (Zg _ a)) (by omega) b
def ade(N:Nat):∀(l:I Int)(k:Nat)(v:Int),(∀x∈l,1<=x/\x<=4096)->1<=v->v*cT l<=65536->DN N l k v=some (v*cT l)
 |[],k,v,_,_,_=>by rw[DN,cT,Int.mul_one]
 |x::l,k,v,h,c,b=>by
  have d:=h x Zq;have e:=qv (l:=l) λy a=>h y (Zg _ a);rw[cT,<-an]at b ⊢;have f:1*1<=v*x:=b6 c d.1 (by decide) (by omega);have g:v*x*1<=v*x*cT l:=Yy e (by omega);rw[DN,iz (by omega) (by omega)];exact ade N l (k+1) (v*x) (λy a=>h y (Zg _ a)) (by omega) b
def acT(N:Nat)(ext:I Int):∀(l:I Int)(k:Nat),(∀x∈l,1<=x/\x<=4096)->Li N ext l k=DN N ext 0 1
 |[],k,_=>rfl
 |x::l,k,h=>by
  have b:=h x Zq;rw[Li,show(x==0)=false by rw[Tv];omega,T6];exact acT N ext l (k+1) λy a=>h y (Zg _ a)
def afV(N:Nat)(l:I Int)(h:nx l):El N l=some (cT l):=by
 have a:=h.n;unfold El R4;rw[Zx (show ¬(l.length:Int)>16 by omega),T6,acm N l l 0 h.r,agN N l 0 1 h.r (by decide) (by rw[bf];exact h.p),re,show((0:Int) !=0)=false from rfl,T6,acT N l l 0 h.r,ade N l 0 1 h.r (by decide) (by rw[bf];exact h.p),bf]
def aiJ(N:Nat)(a:2147483648<N)(l:I Int)(h:nx l)(n:Int)(h1:0<=n)(b:n<cT l):G6 N l n=some (lL l n,true):=by
 have c:=h.n;have d:=h.p;unfold G6;rw[Zx (show ¬n<0 by omega),T6,afV N l h,re,Zx (show ¬n>=cT l by omega),re,T6,e9 (by omega),Tq];have:=acg N l n h.r h1 (by omega) l.length N (Zv _) (by omega) (by omega);rw[List.drop_length,gj]at this;rw[iz (by omega) (by omega)]
 simpa using this
def mP(l:I Int)(k n:Nat):I (I Int):=(List.range' k n).map λ(i:Nat)=>lL l (i:Int)
def CE(l:I Int)(k n:Nat):mP l k (n+1)=lL l (k:Int)::mP l (k+1) n:=by
 unfold mP;rw[List.range'_succ,ZS]
def acR(N:Nat)(a:2147483648<N)(l:I Int)(h:nx l):∀(n k:Nat),(k:Int)+n<=cT l->C6 N l n k=some (mP l k n)
 |0,k,_=>rfl
 |n+1,k,b=>by
  rw[C6,aiJ N a l h (k:Int) (by omega) (by omega),re,Tq,acR N a l h n (k+1) (by omega),re,CE]
def afP(N:Nat)(a:2147483648<N)(l:I Int)(h:nx l):F9 N l=some (mP l 0 (cT l).toNat):=by
 have b:=h.p;have c:=qv h.r;unfold F9;rw[afV N l h,re,dO (show(0:Int)<=cT l by omega),e9 (show(cT l).toNat<=9223372036854775807 by omega),Bool.and_self,Tq];exact acR N a l h _ 0 (by omega)
def af6(N:Nat)(l:I Int)(h:nx l):DD N l=some l:=by
 have a:=h.n;unfold DD;rw[e9 (by omega),Tq]
def iZ(names:I so)(a:I Int):I aJ:=List.zipWith (λs v=>(⟨s,Int64.ofInt v⟩:aJ)) names a
def O8(names:I so)(a:I Int)(h:names.length=a.length):(iZ names a).length=names.length:=by
 unfold iZ;rw[List.length_zipWith];omega
def abN(N:Nat)(env:I aJ)(b:I Int)(e:∀x∈b,0<=x/\x<4096)(f:env.length<=1000000000):∀(l:I dH)(k:Nat)(a:I aJ),l.length+k=b.length->a.length+l.length<=1000000000->HN N env b l k a=some (a++iZ (l.map (·.ay)) (b.drop k)++env)
 |[],k,a,_,c=>by
  rw[HN,e9 (by simp only[Zf]at c;omega),Tq];unfold iZ;simp
 |x::l,k,a,g,c=>by
  simp only[Zl]at g c;obtain⟨v,d⟩:∃v,b[k]?=some v:=⟨_,Ze (by omega)⟩;have h:=e v (ZY d);rw[HN,ZK,d,re,iz (by omega) (by omega),Z7,Tq,e9 (by omega),Tq];dsimp only;rw[abN N env b e f l (k+1) _ (by omega) (by simp only[Zk,Zl,Zf];omega),JJ d];unfold iZ;simp
def agn(N:Nat)(l:I dH)(a:I Int)(env:I aJ)(d:l.length=a.length)(h1:l.length<=1000000)(b:∀x∈a,0<=x/\x<4096)(c:env.length<=1000000000):LH N l a env=some (iZ (l.map (·.ay)) a++env):=by
 have:=abN N env a b c l 0 [] (by omega) (by simp only[Zf];omega);rw[Yz,W2]at this;exact this
def afU(N:Nat)(names:I so)(ext:I Int)(env:I aJ)(n:Int)(i:names.length=ext.length)(m:names.length<=1000000)(o:env.length<=1000000000)(h:∀x∈ext,1<=x/\x<=4096)(h1:0<=n)(b:n<=65537):∀(j f:Nat),j<=ext.length->j<f->
 wM N names ext env f (gj (ext.drop j) n).2 ((j:Int)-1) (List.replicate j ⟨bs [],0⟩++iZ (names.drop j) (gj (ext.drop j) n).1)=some (iZ names (lL ext n)++env)
 |0,f,q,r=>by
  obtain⟨f,rfl⟩:∃c,f=c+1:=⟨f-1,by omega⟩;rw[wM,Zx (by decide),T6,Yz,Yz,List.replicate_zero,W2,Zk,O8 _ _ (by rw[BJ];exact i),Nat.beq_refl,Tq,e9 (by omega),Tq,Nat.beq_refl];rfl
 |j+1,f,q,r=>by
  obtain⟨f,rfl⟩:∃c,f=c+1:=⟨f-1,by omega⟩;obtain⟨x,d⟩:∃x,ext[j]?=some x:=⟨_,Ze (by omega)⟩;obtain⟨s,k⟩:∃s,names[j]?=some s:=⟨_,Ze (by omega)⟩;have z:=h x (ZY d);have e:=JJ d;have t:=JJ k;have A:=Bj (l:=ext.drop (j+1)) (n:=n) (λy g=>h y (a7 g)) h1 b;have a:=Bj (l:=ext.drop j) (n:=n) (λy g=>h y (a7 g)) h1 b;rw[e,gj]at a;have B:=a.2 _ Zq;rw[wM,show((j+1:Nat):Int)-1=(j:Int) by omega,dO (show(j:Int)>=0 by omega),Tq,Tq,ZK,k,re,d,re,Ue.2 (show x≠0 by omega),Tq,iz (by omega) (by omega),Z7,Tq];have u:(List.replicate (j+1) (⟨bs [],0⟩:aJ)++iZ (names.drop (j+1)) (gj (ext.drop (j+1)) n).1).length=names.length:=by
   rw[Zk,Yq,O8 _ _ (by rw[BJ,b9,b9];omega),b9];omega
  rw[u,Nat.beq_refl,Tq,dO (show(j:Int)<(names.length:Int) by omega),Tq,acv,re,acw];have v:IntKind.i64.wrap ((gj (ext.drop (j+1)) n).2.tdiv x)=(gj (ext.drop j) n).2:=by
    rw[e,gj];exact Wg a.1.1 a.1.2
  have w:(⟨s,Int64.ofInt ((gj (ext.drop (j+1)) n).2.tmod x)⟩:aJ)::iZ (names.drop (j+1)) (gj (ext.drop (j+1)) n).1=iZ (names.drop j) (gj (ext.drop j) n).1:=by rw[e,t,gj];rfl
  rw[v,w,iz (by omega) (by omega)];exact afU N names ext env n i m o h h1 b j f (by omega) (by omega)
def aaD(N:Nat)(f:2147483648<N)(names:I so)(ext:I Int)(env:I aJ)(n:Int)(a:names.length=ext.length)(b:names.length<=1000000)(c:env.length<=1000000000)(h:∀x∈ext,1<=x/\x<=4096)(h1:0<=n)(d:n<=65537):Dt N names ext n env=some (iZ names (lL ext n)++env):=by
 unfold Dt;have:=afU N names ext env n a b c h h1 d ext.length N (Zv _) (by omega);rw[List.drop_length,gj,<-a,List.drop_length]at this;rw[e9 (by omega),Tq,iz (by omega) (by omega)];have e:iZ ([]:I so) []=[]:=rfl;rw[e,ZV]at this;exact this
def Vz:∀{ext:I Int}{n:Int}{e:Int},ext[ext.length-1]?=some e->(lL ext n)[ext.length-1]?=some (n.tmod e)
 |[],n,e,h=>by simp at h
 |[x],n,e,h=>by
  simp only[Zl,Zf,ZQ,Nat.sub_self,List.getElem?_cons_zero,UW]at h;subst h;rfl
 |x::y::l,n,e,h=>by
  have a:(y::l)[(y::l).length-1]?=some e:=by
   simp only[Zl,Nat.add_sub_cancel]at h ⊢
   rwa [Z2]at h
  have:=Vz (n:=n) a;simp only[Zl,Nat.add_sub_cancel]at this ⊢;show(((gj (y::l) n).2.tmod x::(gj (y::l) n).1):I Int)[l.length+1]?=_;rw[Z2];exact this
abbrev mi(l:I so):Prop:=l.Pairwise λa b=>lt a b=true
def att{a b:so}(h:lt a b=true):lt b a=false:=by
 cases e:lt b a with
 |false=>rfl
 |true=>have:=ag0 h e;rw[WM]at this;cases this
def acO:∀{a b:I so},mi a->mi b->(∀s,s∈a↔s∈b)->a=b
 |[],[],_,_,_=>rfl
 |[],y::b,_,_,h=>by have:=(h y).2 Zq;cases this
 |x::a,[],_,_,h=>by have:=(h x).1 Zq;cases this
 |x::a,y::b,f,g,h=>by
  rw[mi,List.pairwise_cons]at f g;have e:x=y:=by
    rcases Za.1 ((h x).1 Zq)with e|c
    ·exact e
    ·rcases Za.1 ((h y).2 Zq)with e|j
     ·exact e.symm
     ·have q1:=g.1 x c;have i:=att (f.1 y j);rw[q1]at i;cases i
  subst e;rw[acO f.2 g.2 λs=> ?_];constructor
  ·intro d;rcases Za.1 ((h s).1 (Zg _ d))with rfl|c
   ·have:=f.1 s d;rw[WM]at this;cases this
   ·exact c
  ·intro d;rcases Za.1 ((h s).2 (Zg _ d))with rfl|c
   ·have:=g.1 s d;rw[WM]at this;cases this
   ·exact c
def ab2(d:Array (I UInt8))(f:∀i j,i<j->j<d.size->d[i]! <=d[j]!):∀m,m<=d.size->(Lib.compactUpTo d m).Pairwise (·<·)/\(∀x∈Lib.compactUpTo d m,∃j,j<m/\d[j]! =x)/\∀j,j<m->d[j]! ∈Lib.compactUpTo d m
 |0,_=>by
  have q:Lib.compactUpTo d 0=[]:=rfl;rw[q];exact⟨List.Pairwise.nil,(λx a=>by cases a),(λj c=>by omega)⟩
 |m+1,z=>by
  obtain⟨n,g,k⟩:=ab2 d f m (by omega);rw[Lib.compactUpTo_succ];cases b:Lib.keeps d m with
  |true=>
   rw[ab rfl];refine⟨List.pairwise_append.2 ⟨n,List.pairwise_singleton _ _,λx a y o=> ?_⟩,λx a=> ?_,λj c=> ?_⟩
   ·rw[af]at o;subst o;obtain⟨j,c,rfl⟩:=g x a;refine Classical.byContradiction λr=> ?_;have l:d[m]! <=d[j]! :=List.not_lt.mp r;have t:d[j]! <=d[m-1]! :=by
      by_cases e:j=m-1;{rw[e];exact List.le_refl _};{exact f j (m-1) (by omega) (by omega)}
    have u:d[m-1]! <=d[m]! :=f (m-1) m (by omega) (by omega);have v:d[m]! =d[m-1]! :=List.le_antisymm (List.le_trans l t) u;unfold Lib.keeps at b;rw[UR]at b;rcases b with b|b
    ·omega
    ·exact b v
   ·rcases ZN.1 a with a|a
    ·obtain⟨j,c,e⟩:=g x a;exact⟨j,by omega,e⟩
    ·rw[af]at a;exact⟨m,by omega,a.symm⟩
   ·by_cases e:j=m
    ·subst e;exact a8 _ (af.2 rfl)
    ·exact ak _ (k j (by omega))
  |false=>
   rw[ae (by simp),ZV];refine⟨n,λx a=> ?_,λj c=> ?_⟩;{obtain⟨j,c,e⟩:=g x a;exact⟨j,by omega,e⟩}
   ·by_cases e:j=m
    ·subst e;unfold Lib.keeps at b;rw[UN]at b;have A:j≠0:=λh=>b (.inl h);have w:d[j]! =d[j-1]! :=Classical.byContradiction λh=>b (.inr h);rw[w];exact k (j-1) (by omega)
    ·exact k j (by omega)
def alX(d:I so):(jo d).Pairwise λx y=>x<=y:=by
 have:=List.pairwise_mergeSort (le:=λx y:I UInt8=>decide (x<=y)) (λa b c e f=>by rw[UR]at*;exact List.le_trans e f) (λa b=>by rw[aq,UR,UR];exact List.le_total a b) (d.map bL);exact this.imp λh=>by rwa [UR]at h
def ahh(ss:I so):mi (jF ss)/\∀s,s∈jF ss↔s∈ss:=by
 have g:=alX ss;obtain⟨h,k,l⟩:=ab2 (jo ss).toArray (λi j m d=>by
  have n:j<(jo ss).length:=by simpa using d
  have:=List.pairwise_iff_getElem.1 g i j (by omega) n m;rw[getElem!_pos _ i (by simp;omega),getElem!_pos _ j d]
  simpa using this) (jo ss).length (by simp)
 have e:∀x,x∈Lib.compact (jo ss)↔x∈jo ss:=λx=>by
  constructor;{intro c;obtain⟨j,d,rfl⟩:=k x c;rw[getElem!_pos _ j (by simpa using d)];simp}
  ·intro c;obtain⟨j,d,rfl⟩:=aj.1 c;have:=l j d;rw[getElem!_pos _ j (by simpa using d)]at this;unfold Lib.compact
   simpa using this
 unfold jF;constructor;{rw[mi,List.pairwise_map];refine List.Pairwise.imp ?_ h;intro a b f;rw[Qb];exact f}
 ·intro s;rw[UU];constructor
  ·rintro⟨x,c,rfl⟩;rw[e]at c;unfold jo at c;rw[List.mem_mergeSort,UU]at c;obtain⟨y,o,rfl⟩:=c;exact o
  ·intro q;refine⟨bL s,(e _).2 ?_,rfl⟩;unfold jo;rw[List.mem_mergeSort,UU];exact⟨s,q,rfl⟩
def agp{L:I so}{s:so}{k:Nat}(f:mi L)(h1:∀x∈L.take k,lt x s=true)(g:∀x∈L.drop k,lt s x=true):
 mi (L.take k++[s]++L.drop k)/\(∀x,x∈L.take k++[s]++L.drop k↔x∈L\/x=s)/\(L.take k++[s]++L.drop k).length<=L.length+1:=by
 have d:=f;rw[<-Yo k L,mi,List.pairwise_append]at d;refine⟨?_,λx=> ?_,?_⟩
 ·rw[mi,ZR,List.pairwise_append];refine⟨d.1,?_,λa e b c=> ?_⟩
  ·rw[List.singleton_append,List.pairwise_cons];exact⟨g,d.2.1⟩
  ·rcases ZN.1 c with c|c
   ·rw[af]at c;subst c;exact h1 a e
   ·exact d.2.2 a e b c
 ·rw[ZN,ZN,af];constructor
  ·rintro((h|h)|h)
   ·exact .inl (List.mem_of_mem_take h)
   ·exact .inr h
   ·exact .inl (a7 h)
  ·rintro(h|h)
   ·rw[<-Yo k L,ZN]at h;rcases h with h|h
    ·exact .inl (.inl h)
    ·exact .inr h
   ·exact .inl (.inr h)
 ·simp only[Zk,ao,b9,Zl,Zf];omega
def acN(N:Nat)(L:I so)(s:so)(c:mi L)(n:L.length<=1000000000):∀(l:I so)(k:Nat),L.drop k=l->k<=L.length->(∀x∈L.take k,lt x s=true)->
 ∃R,HY N L s l k=some R/\mi R/\(∀x,x∈R↔x∈L\/x=s)/\R.length<=L.length+1
 |[],k,b,g,f=>by
  have q:=agp (s:=s) c f (by rw[b];intro x a;cases a);have o:(L.take k).length<=1000000000:=by rw[ao];omega
  have r:(L.drop k).length<=1000000000:=by rw[b9];omega
  rw[HY,dO (show(0:Int)<=(k:Int) by omega),Tq,ZK,dO g,Tq,Yz,e9 (by omega),Tq,e9 (by omega),Tq,e9 (by simp only[Zk,Zl,Zf];omega),Tq];exact⟨_,rfl,q⟩
 |y::l,k,b,g,f=>by
  have t:k<L.length:=by
   refine Classical.byContradiction λh=> ?_;rw[List.drop_of_length_le (by omega)]at b;cases b
  rw[HY];cases i:Op.bytesLess (bL y) (bL s)with
  |true=>
   rw[Tq];refine acN N L s c n l (k+1) ?_ t λx a=> ?_
   ·rw[<-List.drop_drop,b];rfl
   ·have e:L[k]?=some y:=aX b;rw[List.take_add_one,e]at a;rcases ZN.1 a with a|a
    ·exact f x a
    ·simp only[Option.toList_some,af]at a;subst a;exact i
  |false=>
   rw[T6];cases j:(bL y==bL s)with
   |true=>
    rw[Tq];have e:y=s:=R5.1 j;have u:y∈L:=by
      have:y∈L.drop k:=by rw[b];exact Zq
      exact a7 this
    refine⟨L,rfl,c,λx=>⟨λh=>.inl h,?_⟩,ba _⟩;rintro(h|rfl);{exact h};{rw[<-e];exact u}
   |false=>
    have d:lt s y=true:=by
     cases e:lt s y with
     |true=>rfl
     |false=>exact absurd (aqS i e) (alD.1 j)
    have m:=c;rw[<-Yo k L,mi,List.pairwise_append,b,List.pairwise_cons]at m;have q:=agp (s:=s) c f (by
     rw[b];intro x a;rcases Za.1 a with rfl|a
     ·exact d
     ·exact ag0 d (m.2.1.1 x a))
    have o:(L.take k).length<=1000000000:=by rw[ao];omega
    have r:(L.drop k).length<=1000000000:=by rw[b9];omega
    rw[T6,ZK,dO g,Tq,Yz,e9 (by omega),Tq,e9 (by omega),Tq,e9 (by simp only[Zk,Zl,Zf];omega),Tq];exact⟨_,rfl,q⟩
def aaE(N:Nat)(L:I so)(s:so)(b:mi L)(c:L.length<=1000000000):∃R,EF N L s=some R/\mi R/\(∀x,x∈R↔x∈L\/x=s)/\R.length<=L.length+1:=by
 unfold EF;refine acN N L s b c L 0 rfl (by omega) λx a=> ?_;rw[List.take_zero]at a;cases a
def m9:I c8->I so
 |[]=>[]
 |x::l=>bif bL x.de==bL (bs [])then m9 l else x.de::m9 l
def LD(e:az):I so:=(bif e.aD==3 then[e.ay]else[])++m9 e.xIdx
def nt:I az->I so
 |[]=>[]
 |e::l=>LD e++nt l
def aej:∀l:I c8,(m9 l).length<=l.length
 |[]=>Zv _
 |x::l=>by
  have:=aej l;rw[m9];cases bL x.de==bL (bs [])with
  |true=>simp only[Tq,Zl];omega
  |false=>simp only[T6,Zl];omega
def adE(B:Nat):∀l:I az,(∀x∈l,x.xIdx.length<=B)->(nt l).length<=l.length*(B+1)
 |[],_=>by simp [nt]
 |e::l,h=>by
  have b:=adE B l λx a=>h x (Zg _ a);have c:=h e Zq;have d:=aej e.xIdx;rw[nt];unfold LD;simp only[Zk,Zl,Nat.succ_mul];have f:(bif e.aD==3 then[e.ay]else[]).length<=1:=by cases e.aD==3<;>simp
  omega
def Kq(N:Nat)(c:Nat->I so->U (I so)):∀(l:I c8)(k:Nat)(a:I so),a.length+(m9 l).length<=1000000000->vu N c l k a.length a=c (a++m9 l).length (a++m9 l)
 |[],k,a,_=>by rw[vu,m9,ZV]
 |x::l,k,a,h=>by
  rw[vu];rw[m9]at h ⊢;cases b:(bL x.de==bL (bs []))with
  |true=>
   rw[b,Tq]at h;rw[Tq,Tq];exact Kq N c l (k+1) a h
  |false=>
   rw[b,T6,Zl]at h;rw[T6,T6,Nat.beq_refl,Tq,e9 (by omega),Tq];have:=Kq N c l (k+1) (a++[x.de]) (by simp only[Zk,Zl,Zf];omega);rw[show a++x.de::m9 l=(a++[x.de])++m9 l by simp,<-this,Zk];rfl
def Tt(N:Nat):∀(l:I az)(a:I so),a.length+(nt l).length<=1000000000->oW N l a.length a=some (jF (a++nt l))
 |[],a,h=>by
  rw[oW,nt,ZV];unfold Tn;rw[Nat.beq_refl,show Nat.blt a.length 4611686018427387904=true from WX (by omega)];rfl
 |e::l,a,h=>by
  rw[oW];rw[nt]at h ⊢;unfold LD at h ⊢;simp only[Zk]at h;cases d:(e.aD==3)with
  |true=>
   rw[d]at h;simp only[Tq,Zl,Zf]at h;rw[Tq,Tq,Nat.beq_refl,Tq,e9 (by omega),Tq];unfold C3;have q:=Kq N (λb c=>oW N l b c) e.xIdx 0 (a++[e.ay]) (by simp only[Zk,Zl,Zf];omega);rw[show(a++[e.ay]).length=a.length+1 by simp]at q;rw[q,Tt N l _ (by simp only[Zk,Zl,Zf];omega)];simp
  |false=>
   rw[d]at h;simp only[T6,Zf]at h;rw[T6,T6];unfold C3;have q:=Kq N (λb c=>oW N l b c) e.xIdx 0 a (by omega);rw[q,Tt N l _ (by simp only[Zk];omega)];simp
def adg(a names R:I so):Prop:=mi R/\(∀x,x∈R↔x∈a\/x∈names)/\R.length<=a.length+names.length
def Na(N:Nat)(c:I so->U (I so)):∀(l:I c8)(k:Nat)(a:I so),mi a->a.length+(m9 l).length<=1000000000->∃R,Gk N c l k a=c R/\adg a (m9 l) R
 |[],k,a,b,_=>⟨a,rfl,b,λx=>by simp [m9],by simp⟩
 |x::l,k,a,b,h=>by
  rw[Gk];rw[m9]at h ⊢;cases d:(bL x.de==bL (bs []))with
  |true=>
   rw[d,Tq]at h;rw[Tq,Tq];exact Na N c l (k+1) a b h
  |false=>
   rw[d,T6,Zl]at h;rw[T6,T6];obtain⟨R,q1,e,f,n⟩:=aaE N a x.de b (by omega);rw[q1,re];obtain⟨g,i,j,m,o⟩:=Na N c l (k+1) R e (by omega);refine⟨g,i,j,λy=> ?_,by rw[Zl];omega⟩;rw[m,f,Za,or_assoc]
def Ws(N:Nat):∀(l:I az)(k:Nat)(a:I so),mi a->a.length+(nt l).length<=1000000000->∃R,wZ N l k a=some R/\adg a (nt l) R
 |[],k,a,b,_=>⟨a,rfl,b,λx=>by simp [nt],by simp⟩
 |e::l,k,a,b,h=>by
  rw[wZ];rw[nt]at h ⊢;unfold LD at h ⊢;simp only[Zk]at h;cases o:(e.aD==3)with
  |true=>
   rw[o]at h;simp only[Tq,Zl,Zf]at h;rw[Tq,Tq];obtain⟨R,q1,q,r,v⟩:=aaE N a e.ay b (by omega);rw[q1,re];unfold Fg;obtain⟨c,d,f,g,t⟩:=Na N (λi=>wZ N l (k+1) i) e.xIdx 0 R q (by omega);rw[d];obtain⟨S,j,m,n,u⟩:=Ws N l (k+1) c f (by omega);refine⟨S,j,m,λy=> ?_,by simp only[Zk,Zl,Zf];omega⟩;rw[n,g,r];simp only[ZN,af,or_assoc]
  |false=>
   rw[o]at h;simp only[T6,Zf]at h;rw[T6,T6];unfold Fg;obtain⟨c,d,f,g,t⟩:=Na N (λi=>wZ N l (k+1) i) e.xIdx 0 a b (by omega);rw[d];obtain⟨S,j,m,n,u⟩:=Ws N l (k+1) c f (by omega);refine⟨S,j,m,λy=> ?_,by simp only[Zk,Zf];omega⟩;rw[n,g];simp only[ZN,Yx,false_or,or_assoc]
def ac9(N:Nat)(rec:az->U (I az)):∀(l:I az)(k:Nat)(a:I az),(∀x∈l,rec x=some (dQ x))->a.length+(lk l).length<=1000000->FR N rec l k a=some (a++lk l)
 |[],k,a,_,_=>by rw[FR,lk,ZV]
 |x::l,k,a,h,b=>by
  rw[wT,Zk]at b;rw[FR,h x Zq,re,e9 (by omega),Tq];dsimp only;rw[ac9 N rec l (k+1) _ (λy c=>h y (Zg _ c)) (by rw[Zk];omega),wT,ZR]
def abz{x:az}:∀{l:I az},x∈l->(dQ x).length<=(lk l).length
 |[],h=>by cases h
 |y::l,h=>by
  rw[wT,Zk];rcases Za.1 h with rfl|h
  ·omega
  ·have:=abz h;omega
def aei(N:Nat):∀(d:Nat)(e:az),SizeOf.sizeOf e<d->(dQ e).length<=1000000->xB N d e=some (dQ e)
 |0,e,h,_=>by omega
 |d+1,e,h,b=>by
  rw[xB];have c:(dQ e).length=(lk e.bS).length+1:=by unfold dQ;simp
  have:=ac9 N (xB N d) e.bS 0 [e] (λx a=>aei N d x (by have:=vq a;omega) (by have:=abz a;omega)) (by simp only[Zl,Zf];omega);rw[this];rfl
def aqO{e:az}(h:nV e=0):(dQ e).length<=2000:=by
 unfold nV at h;cases a:decide (40<j5 40 e)with
 |true=>rw[a]at h;cases h
 |false=>
  rw[a,T6]at h;cases b:decide (2000<(dQ e).length)with
  |true=>rw[b]at h;cases h
  |false=>rw[UN]at b;omega
noncomputable def RM(e:az):I so:=jF (nt (dQ e))
def aqm(N:Nat)(e:az)(a:SizeOf.sizeOf e<N)(b:nV e=0)(c:ja 400 e):HU N e=some (RM e)/\MO N e=some (RM e):=by
 have d:=aqO b;have m:=adE 400 (dQ e) λx f=>(c x f).idx;have n:(nt (dQ e)).length<=1000000:=by
  have:(dQ e).length*(400+1)<=2000*401:=Nat.mul_le_mul d (Zv _);omega
 constructor;{unfold HU Be;rw[re];have:=Tt N (dQ e) [] (by simp only[Zf];omega);rw[W2]at this;exact this};{unfold MO US;have g:=aei N N e a (by omega);rw[g,re];obtain⟨R,h,i,j,o⟩:=Ws N (dQ e) 0 [] List.Pairwise.nil (by simp only[Zf];omega);rw[h];obtain⟨k,l⟩:=ahh (nt (dQ e));unfold RM;rw[acO i k λs=>by rw[j,l];simp]}
def o7(f:Int):Int:=bif f==1||f==5 then 4 else bif f==2 then 6 else bif f==3 then 9 else 10
def rN(f:Int)(t:aM)(a b:aB):Except Int aB:=bif decide (1<=f)&&decide (f<=5)then(bif dI t a&&dI t b then(bif (ml (o7 f) t a b).2 !=0 then .error (ml (o7 f) t a b).2 else .ok (ml (o7 f) t a b).1)else .error 1)else .error 1
def abv(r:Except Int aB)(q:aB×Int):Prop:=match r with
 | .ok x=>q=(x,0)
 | .error z=>q.2=z/\z≠0
def akE(N:Nat)(f:Int):OD N f=some (bif decide (1<=f)&&decide (f<=5)then(o7 f,true)else(0,false)):=by
 unfold OD OR o7;by_cases h:1<=f/\f<=5
 ·rw[dO h.1,dO h.2];have:f=1\/f=2\/f=3\/f=4\/f=5:=by omega
  rcases this with h|h|h|h|h<;>rw[h]<;>rfl
 ·have e:(decide (1<=f)&&decide (f<=5))=false:=by
   by_cases a:1<=f;{rw[Zx (show ¬f<=5 by omega),Bool.and_false]};{rw[Zx a];rfl}
  rw[e,show(f==1)=false by rw[Tv];omega,show(f==2)=false by rw[Tv];omega,show(f==3)=false by rw[Tv];omega,show(f==4)=false by rw[Tv];omega,show(f==5)=false by rw[Tv];omega];rfl
def aeW(N:Nat)(d:9223372036854775808<N)(f:Int)(t:aM)(a b:aB)(c:dz t=true):∃q,ET N f t [a,b]=some q/\abv (rN f t a b) q:=by
 unfold ET rN;rw[akE,re];cases g:(decide (1<=f)&&decide (f<=5))with
 |false=>exact⟨_,rfl,rfl,by decide⟩
 |true=>
  rw[Tq,Tq,Tq,rf,re,c,Tq];show ∃q,Option.bind (nM N t a) _=some q/\_;rw[rE N (by omega) t a c,re];cases h:dI t a with
  |false=>exact⟨_,rfl,rfl,by decide⟩
  |true=>
   rw[Tq];show ∃q,Option.bind (nM N t b) _=some q/\_;rw[rE N (by omega) t b c,re];cases i:dI t b with
   |false=>exact⟨_,rfl,rfl,by decide⟩
   |true=>
    rw[Tq];show ∃q,Option.bind (yZ N (o7 f) t a b) _=some q/\_;rw[Ux N d,re];cases e:((ml (o7 f) t a b).2 !=0)with
    |true=>exact⟨_,rfl,rfl,by simpa using e⟩
    |false=>exact⟨_,rfl,rfl⟩
def ar4(N:Nat)(f:Int)(h:1<=f/\f<=5):E0 N f=some (o7 f):=by
 unfold E0 o7;have:f=1\/f=2\/f=3\/f=4\/f=5:=by omega
 rcases this with h|h|h|h|h<;>rw[h]<;>rfl
def abt(N:Nat)(i:9223372036854775808<N)(f:Int)(t:aM)(a b:aB)(d:dz t=true):∃q,Bh N f t [a,b]=some q/\abv (rN f t a b) q:=by
 unfold Bh rN;by_cases g:1<=f/\f<=5
 ·rw[dO g.1,dO g.2,Zx (show ¬f<1 by omega),Zx (show ¬f>5 by omega),T6,re,T6,sV,re,d,Tq];show ∃q,Option.bind (nH N t a) _=some q/\_;rw[su N (by omega) t a d,re];cases c:dI t a with
  |false=>exact⟨_,rfl,rfl,by decide⟩
  |true=>
   rw[Tq];show ∃q,Option.bind (nH N t b) _=some q/\_;rw[su N (by omega) t b d,re];cases j:dI t b with
   |false=>exact⟨_,rfl,rfl,by decide⟩
   |true=>
    rw[Tq];show ∃q,Option.bind (E0 N f) _=some q/\_;rw[ar4 N f g,re];show ∃q,Option.bind (Dz N (o7 f) t a b) _=some q/\_;rw[TG N i,re];cases h:((ml (o7 f) t a b).2 !=0)with
    |true=>exact⟨_,rfl,rfl,by simpa using h⟩
    |false=>
     rw[bne_eq_false_iff_eq]at h;refine⟨((ml (o7 f) t a b).1,(ml (o7 f) t a b).2),rfl,?_⟩;rw[h];rfl
 ·have e:(decide (1<=f)&&decide (f<=5))=false:=by
   by_cases c:1<=f;{rw[Zx (show ¬f<=5 by omega),Bool.and_false]};{rw[Zx c];rfl}
  rw[e];by_cases c:f<1;{rw[dO c];exact⟨_,rfl,rfl,by decide⟩};{rw[Zx c,dO (show f>5 by omega)];exact⟨_,rfl,rfl,by decide⟩}
def acb(N:Nat)(v:I Int):∀(l:I Int)(k:Nat),PQ N v l k=xG N v l k
 |[],_=>rfl
 |x::l,k=>by rw[PQ,xG,acb N v l (k+1)]
def apl(N:Nat)(a b:I Int):Ot N a b=vb N a b:=by
 unfold Ot vb;rw[acb]
def abr(N:Nat)(v:I Int):∀(l:I Int)(k:Nat),l.length+k<=v.length->∃b,xG N v l k=some b
 |[],_,_=>⟨_,rfl⟩
 |x::l,k,h=>by
  simp only[Zl]at h;rw[xG,ZK,Ze (show k<v.length by omega),re];cases x !=v[k]with
  |true=>exact⟨_,rfl⟩
  |false=>exact abr N v l (k+1) (by omega)
def akr(N:Nat)(a b:I Int):∃q,vb N a b=some q:=by
 unfold vb;cases h:((a.length:Int) !=(b.length:Int))with
 |true=>exact⟨_,rfl⟩
 |false=>
  rw[bne_eq_false_iff_eq]at h;exact abr N b a 0 (by omega)
def abm(N:Nat)(a:2147483648<N)(mem:I aL)(s:so)(t:aM)(d:I Int):∃x,HF N mem s t d=some x/\Ho N mem s t d=some x/\(x=0->∃y,iS mem s=some y/\mo y=true):=by
 unfold HF Ho;rw[U8,Sk,re,re];cases j:iS mem s with
 |none=>exact⟨9,rfl,rfl,λh=>by cases h⟩
 |some y=>
  simp only[Tq];obtain⟨k,c,e⟩:=afH N a y;obtain⟨l,q1,f⟩:=aa5 N a y;rw[c,q1,re,re,e,f];cases g:mo y with
  |false=>exact⟨1,rfl,rfl,λh=>by cases h⟩
  |true=>
   simp only[W1,T6];show ∃x,(bif ji y.aH t then _ else _)=some x/\(bif ji y.aH t then _ else _)=some x/\_;cases ji y.aH t with
   |false=>exact⟨10,rfl,rfl,λh=>by cases h⟩
   |true=>
    obtain⟨b,i⟩:=akr N y.aR d;rw[apl,i];cases b with
    |true=>exact⟨0,rfl,rfl,λ_=>⟨y,rfl,g⟩⟩
    |false=>exact⟨15,rfl,rfl,λh=>by cases h⟩
def abl(p:bo)(env:I aJ)(s:so):(gW p env s).2.1=(dW p.bn p.aP s).1:=by
 unfold gW;dsimp only;cases (dW p.bn p.aP s).2.2 with
 |false=>rfl
 |true=>
  rw[Tq];cases (gK env (dW p.bn p.aP s).2.1 []).2 !=0 with
  |true=>rfl
  |false=>cases decide (cT (gK env (dW p.bn p.aP s).2.1 []).1>4096)<;>rfl
def abk(N:Nat)(a:2147483648<N)(p:bo)(env:I aJ)(mem:I aL)(c:mn p.bn)(b:hX p.aP):∀(l:I so)(k:Nat),∃x,NK N p env mem l k=some x/\O1 N p env mem l k=some x
 |[],k=>⟨0,rfl,rfl⟩
 |s::l,k=>by
  rw[NK,O1,Uu N a p env s c b,TW N a p env s c b,agC N p s b,re,re,re];unfold Eu;dsimp only;rw[<-abl p env s];cases e:((gW p env s).2.2 !=0)with
  |true=>exact⟨_,rfl,rfl⟩
  |false=>
   rw[T6,T6];obtain⟨x,q1,d,f⟩:=abm N a mem s (gW p env s).2.1 (gW p env s).1;rw[q1,d,re,re];cases x !=0 with
   |true=>exact⟨x,rfl,rfl⟩
   |false=>exact abk N a p env mem c b l (k+1)
def amE(N:Nat)(a:2147483648<N)(p:bo)(env:I aJ)(mem:I aL)(b:mn p.bn)(c:hX p.aP)(d:bZ)(e:SizeOf.sizeOf d.cw<N)(f:nV d.cw=0)(g:ja 400 d.cw):∃x,ND N p env mem d.cw=some x/\Nl N p env mem d=some x:=by
 unfold ND Nl;obtain⟨h,i⟩:=aqm N d.cw e f g;rw[h,i,re,re];exact abk N a p env mem b c _ 0
def agf{l:I so}{s:so}:dw l s=true↔s∈l:=by
 unfold dw;rw[List.any_eq_true];constructor;{rintro⟨w,a,e⟩;rw[Ua]at e;rw[<-Yj e];exact a};{intro h;exact⟨s,h,by simp⟩}
def aiz{l:I so}{s:so}(h:dw l s=false):s ∉ l:=λa=>by rw[agf.2 a]at h;cases h
def asE{T:I so}{s:so}(h:jh T s=0):iI s=true/\s ∉ T:=⟨(Fj h).1,aiz (Fj h).2⟩
def abj{α:Type}{f:α->Int}:∀{l:I α},gM f l=0->∀x∈l,f x=0
 |x::l,h,y,a=>by
  rw[gM]at h;cases e:f x !=0 with
  |true=>rw[e]at h;simp only[Tq]at h;rw[h]at e;cases e
  |false=>
   rw[e]at h;simp only[T6]at h;rcases Za.1 a with rfl|a
   ·exact jQ e
   ·exact abj h y a
def zj(S:I so):I so->I eX->Prop
 |_,[]=>True
 |T,x::l=>uD S T x=0/\zj S (T++[x.ay]) l
def Wl:I so->I bZ->Prop
 |_,[]=>True
 |T,d::l=>jh T d.ay=0/\Wl (T++[d.ay]) l
def af7{S:I so}:∀(l:I eX)(T:I so),zj S T l->(∀x∈l,iI x.ay=true/\x.ay ∉ S++T/\gM (iT S) x.aR=0)/\(l.map (·.ay)).Nodup
 |[],_,_=>⟨λs g=>(by cases g),List.nodup_nil⟩
 |x::l,T,⟨h,m⟩=>by
  unfold uD at h;cases e:jh (S++T) x.ay !=0 with
  |true=>rw[e]at h;simp only[Tq]at h;rw[h]at e;cases e
  |false=>
   rw[e]at h;simp only[T6]at h;obtain⟨n,o⟩:=asE (jQ e);obtain⟨i,q⟩:=af7 l (T++[x.ay]) m;have r:gM (iT S) x.aR=0:=by
     cases j:dz x.aH with
     |false=>rw[j]at h;cases h
     |true=>
      rw[j]at h;simp only[Tq]at h;cases k:decide (x.aR.length<=6)with
      |false=>rw[k]at h;cases h
      |true=>rw[k]at h;exact h
   refine⟨λy d=> ?_,List.nodup_cons.2 ⟨λg=> ?_,q⟩⟩
   ·rcases Za.1 d with rfl|d
    ·exact⟨n,o,r⟩
    ·obtain⟨a,b,c⟩:=i y d;exact⟨a,λf=>b (by rcases ZN.1 f with f|f<;>simp [f]),c⟩
   ·obtain⟨y,d,t⟩:=UU.1 g;exact(i y d).2.1 (by rw[show y.ay=x.ay from t];simp)
structure aa1(p:bo):Prop where
 names:sX [] p.bJ=0
 wh:∀c∈p.dR,iT p.bJ c.bN=0
 VK:zj p.bJ [] p.bn
 defs:Wl (p.bJ++p.bn.map (·.ay)) p.aP
 outs:∀s∈p.dC,s∈p.bn.map (·.ay)++p.aP.map (·.ay)
section
variable {N:Nat} {p:bo}
def abp(c:hX p.aP):∀(l:I so)(k:Nat)(at_:Int){a:Int},rD N p l k at_=some (a,0)->∀s∈l,s∈p.bn.map (·.ay)++p.aP.map (·.ay)
 |s::l,k,at_,a,h,y,b=>by
  rw[rD,Jl N p s c,re,Uw]at h;cases e:dw (p.bn.map (·.ay)++p.aP.map (·.ay)) s with
  |false=>rw[e]at h;cases h
  |true=>
   rw[e]at h;simp only[Tq]at h;obtain⟨_,h⟩:=xO h;rw[A8,re]at h;cases d:dw ((p.dC.take ((k:Int)).toNat).drop 0) s with
   |true=>rw[d]at h;cases h
   |false=>
    rw[d]at h;rcases Za.1 b with rfl|b
    ·exact agf.1 e
    ·exact abp c l (k+1) (aF (at_+1)) h y b
def ahd(a:16<N){k:Nat}{d:bZ}{T:I so}(b:p.aP[k]?=some d)(h:xk N p (k:Int) T=some 0):jh T d.ay=0:=by
 unfold xk at h;obtain⟨_,h⟩:=xO h;rw[ZK,b,re,Cu N a,re]at h;cases e:jh T d.ay !=0 with
 |false=>exact jQ e
 |true=>rw[e]at h;simp only[Tq]at h;rw[Zw h]at e;cases e
def abe(f:16<N):∀(l:I bZ)(k:Nat)(at_:Int)(T:I so){a:Int},p.aP.drop k=l->qL N p l k T at_=some (a,0)->Wl T l/\∃c a',rD N p p.dC 0 c=some (a',0)
 |[],k,at_,T,a,_,h=>⟨trivial,at_,a,h⟩
 |d::l,k,at_,T,a,g,h=>by
  rw[qL]at h;obtain⟨x,e,h⟩:=bz h;cases b:x !=0 with
  |true=>rw[b]at h;simp only[Tq]at h;rw[(Prod.mk.inj (Zw h)).2]at b;cases b
  |false=>
   rw[b]at h;obtain⟨_,h⟩:=xO h;have i:=jQ b;rw[i]at e;obtain⟨j,m⟩:=abe f l (k+1) _ _ (rS g) h;exact⟨⟨ahd f (aX g) e,j⟩,m⟩
def RP(f:16<N):∀(l:I eX)(k:Nat)(at_:Int)(T:I so){a:Int},mn l->uZ N p l k (p.bJ++T) at_=some (a,0)->zj p.bJ T l/\∃d a',qL N p p.aP 0 (p.bJ++(T++l.map (·.ay))) d=some (a',0)
 |[],k,at_,T,a,_,h=>⟨trivial,at_,a,by rw[ah,ZV];exact h⟩
 |x::l,k,at_,T,a,e,h=>by
  rw[uZ,agO N f x p.bJ T (λy b=>(e.lR x Zq y b).ok),re]at h;cases c:uD p.bJ T x !=0 with
  |true=>rw[c]at h;simp only[Tq]at h;rw[(Prod.mk.inj (Zw h)).2]at c;cases c
  |false=>
   rw[c]at h;obtain⟨_,h⟩:=xO h;dsimp only at h;rw[ZR]at h;obtain⟨i,g⟩:=RP f l (k+1) _ (T++[x.ay]) ⟨λy b=>e.len y (Zg _ b),λy b=>e.lR y (Zg _ b)⟩ h;rw[ZR]at g;exact⟨⟨jQ c,i⟩,g⟩
def ar1(f:16<N)(B:Bd N p){a:Int}(h:vP N p=some (a,0)):aa1 p:=by
 have i:=B.s;unfold vP Gs at h;rw[R8,re]at h;cases e:zp p with
 |false=>rw[e]at h;cases h
 |true=>
  rw[e]at h;simp only[W1,T6]at h;rw[LC f p.bJ 0 rfl,re,List.take_zero]at h;cases b:sX [] p.bJ !=0 with
  |true=>rw[b]at h;simp only[Tq]at h;rw[(Prod.mk.inj (Zw h)).2]at b;cases b
  |false=>
   rw[b]at h;simp only[T6]at h;rw[L2 f i p.dR 0 B.W]at h;cases d:gM (λc:ik=>iT p.bJ c.bN) p.dR !=0 with
   |true=>rw[d]at h;simp only[Tq]at h;rw[(Prod.mk.inj (Zw h)).2]at d;cases d
   |false=>
    rw[d]at h;simp only[T6]at h;obtain⟨j,k,o,g⟩:=RP f p.bn 0 2 [] B.P (by rw[ZV];exact h);rw[W2]at g;obtain⟨l,m,q,n⟩:=abe f p.aP 0 k _ rfl g;exact⟨jQ b,abj (jQ d),j,l,abp B.D p.dC 0 m n⟩
end
structure DQ(N:Nat)(p:bo)(k:Nat)(T:List ByteArray)(d:bZ):Prop where
 name:jh T d.ay=0
 type:dz d.aH=true
 l1:d.aR.length<=6
 l2:d.cl.length<=6
 art:sI p.bJ [] (d.aR++d.cl)=0
 fold:xa d=0
 tp:∃t:aM,vR N (⟨p.bJ,[],p.bn,((p.aP.take k).drop 0),[]⟩:bo) (WK d) d.cw=some (t,0)/\((t.bB==d.aH.bB)&&((t.bW==d.aH.bW)&&((t.ck==d.aH.ck)&&((t.ct==d.aH.ct)&&((t.cC==d.aH.cC)&&true)))))=true
structure VQ(N:Nat)(p:bo):Prop where
 names:sX [] p.bJ=0
 wh:∀c∈p.dR,iT p.bJ c.bN=0
 VK:zj p.bJ [] p.bn
 defs:∀k d,p.aP[k]?=some d->DQ N p k (p.bJ++p.bn.map (·.ay)++(p.aP.take k).map (·.ay)) d
 outs:∀k s,p.dC[k]?=some s->dw (p.bn.map (·.ay)++p.aP.map (·.ay)) s=true/\dw (p.dC.take k) s=false
def agI{c m:Nat}{α:Type}{x:U α}{z:α}(h:(bif Nat.ble c m then x else none)=some z):x=some z:=by
 cases e:Nat.ble c m with
 |false=>rw[e]at h;cases h
 |true=>rw[e]at h;exact h
def abh{b:Bool}{α:Type}{x:U α}{z:α}(h:(bif b then x else none)=some z):b=true/\x=some z:=by
 cases b with
 |false=>cases h
 |true=>exact⟨rfl,h⟩
def MY{a:Int}{x:U Int}(h:(bif a !=0 then some a else x)=some 0):a=0/\x=some 0:=by
 cases e:a !=0 with
 |true=>rw[e]at h;simp only[Tq]at h;rw[Zw h]at e;cases e
 |false=>rw[e]at h;exact⟨jQ e,h⟩
section
variable {N:Nat} {p:bo}
def ai3(c:16<N){k:Nat}{d:bZ}{T:I so}(f:p.aP[k]?=some d)(o:p.bJ.length<=1000)(g:∀x∈d.aR++d.cl,lg x.eu)(h:xk N p (k:Int) T=some 0):DQ N p k T d:=by
 unfold xk at h;obtain⟨_,h⟩:=abh h;rw[ZK,f,re,Cu N c,re]at h;obtain⟨i,h⟩:=MY h;rw[sV,re]at h;cases b:dz d.aH with
 |false=>rw[b]at h;cases h
 |true=>
  rw[b,Tq,yq,yq,kO,re]at h;cases a: !decide (d.aR.length<=6)|| !decide (d.cl.length<=6)with
  |true=>rw[a]at h;cases h
  |false=>
   rw[a,T6]at h;simp only[Yt,Bool.not_eq_false',UR]at a;have h:=agI (agI h);rw[afX N c p.bJ _ g (by rw[Zk];omega),re]at h;obtain⟨j,h⟩:=MY h;rw[afQ,re]at h;obtain⟨l,h⟩:=MY h;obtain⟨_,h⟩:=abh h;rw[agz N d (by omega),re]at h;obtain⟨⟨t,x⟩,m,h⟩:=bz h;obtain⟨e,h⟩:=MY h;dsimp only at e h;subst e;refine⟨i,b,a.1,a.2,j,l,t,m,?_⟩;cases n:((t.bB==d.aH.bB)&&((t.bW==d.aH.bW)&&((t.ck==d.aH.ck)&&((t.ct==d.aH.ct)&&((t.cC==d.aH.cC)&&true)))))with
   |true=>rfl
   |false=>rw[n]at h;cases h
def afY(f:hX p.aP):∀(l:I so)(k:Nat)(at_:Int){a:Int},p.dC.drop k=l->rD N p l k at_=some (a,0)->∀i s,k<=i->p.dC[i]?=some s->dw (p.bn.map (·.ay)++p.aP.map (·.ay)) s=true/\dw (p.dC.take i) s=false
 |[],k,at_,a,b,h,i,s,g,j=>by
  have:=(Zo.1 j).1;have:=List.drop_eq_nil_iff.1 b;omega
 |s::l,k,at_,a,b,h,i,y,g,c=>by
  rw[rD,Jl N p s f,re,Uw]at h;cases e:dw (p.bn.map (·.ay)++p.aP.map (·.ay)) s with
  |false=>rw[e]at h;cases h
  |true=>
   rw[e]at h;simp only[Tq]at h;obtain⟨_,h⟩:=xO h;rw[A8,re]at h;cases d:dw ((p.dC.take ((k:Int)).toNat).drop 0) s with
   |true=>rw[d]at h;cases h
   |false=>
    rw[d]at h;rcases Nat.lt_or_ge k i with m|n
    ·exact afY f l (k+1) (aF (at_+1)) (rS b) h i y m c
    ·have:i=k:=by omega
     subst this;rw[aX b]at c;cases c
     exact⟨e,d⟩
def afE(m:16<N)(n:hX p.aP)(o:p.bJ.length<=1000):∀(l:I bZ)(k:Nat)(at_:Int){a:Int},p.aP.drop k=l->qL N p l k (p.bJ++p.bn.map (·.ay)++(p.aP.take k).map (·.ay)) at_=some (a,0)->
 (∀i d,k<=i->p.aP[i]?=some d->DQ N p i (p.bJ++p.bn.map (·.ay)++(p.aP.take i).map (·.ay)) d)/\∃f a',rD N p p.dC 0 f=some (a',0)
 |[],k,at_,a,b,h=>⟨λi d q r=>by
    have:=(Zo.1 r).1;have:=List.drop_eq_nil_iff.1 b;omega,at_,a,h⟩
 |d::l,k,at_,a,b,h=>by
  rw[qL]at h;obtain⟨x,e,h⟩:=bz h;cases c:x !=0 with
  |true=>rw[c]at h;simp only[Tq]at h;rw[(Prod.mk.inj (Zw h)).2]at c;cases c
  |false=>
   rw[c]at h;obtain⟨_,h⟩:=xO h;have g:=jQ c;rw[g]at e;have t:p.bJ++p.bn.map (·.ay)++(p.aP.take k).map (·.ay)++[d.ay]=p.bJ++p.bn.map (·.ay)++(p.aP.take (k+1)).map (·.ay):=by
     rw[WN b,aa,ZR (p.bJ++p.bn.map (·.ay))];rfl
   dsimp only at h;rw[t]at h;obtain⟨u,v⟩:=afE m n o l (k+1) _ (rS b) h;refine⟨λi w q j=> ?_,v⟩;rcases Nat.lt_or_ge k i with y|z
   ·exact u i w y j
   ·have:i=k:=by omega
    subst this;rw[aX b]at j;cases j
    exact ai3 m (aX b) o (λx g=>(n.lR d (LR (aX b)) x g).ok) e
def ahs(c:16<N):∀(l:I eX)(k:Nat)(at_:Int)(T:I so){a:Int},mn l->uZ N p l k (p.bJ++T) at_=some (a,0)->∃b a',qL N p p.aP 0 (p.bJ++(T++l.map (·.ay))) b=some (a',0):=λl k at_ T a d h=>(RP c l k at_ T d h).2
def aa3{α:Type}{f:α->Int}:∀{l:I α},(∀x∈l,f x=0)->gM f l=0
 |[],_=>rfl
 |x::l,h=>by
  rw[gM,h x Zq];exact aa3 λy a=>h y (Zg _ a)
def ahF(b:16<N)(B:Bd N p){a:Int}(h:vP N p=some (a,0)):VQ N p:=by
 have c:=B.s;have V:=ar1 b B h;unfold vP Gs at h;rw[R8,re]at h;cases e:zp p with
 |false=>rw[e]at h;cases h
 |true=>
  rw[e]at h;simp only[W1,T6]at h;rw[LC b p.bJ 0 rfl,re,List.take_zero,V.names]at h;simp only[bne_self_eq_false,T6]at h;rw[L2 b c p.dR 0 B.W,aa3 V.wh]at h;simp only[bne_self_eq_false,T6]at h;obtain⟨g,m,f⟩:=ahs b p.bn 0 2 [] B.P (by rw[ZV];exact h);rw[W2]at f;obtain⟨i,j,n,l⟩:=afE b B.D c p.aP 0 g rfl (by rw[List.take_zero,ah,ZV];exact f);exact⟨V.names,V.wh,V.VK,λk d=>i k d (Wv _),λk s=>afY B.D p.dC 0 j rfl l k s (Wv _)⟩
end
structure Df(N:Nat)(d:bZ):Prop where
 ty:dz d.aH=true
 ev:Ev d.cw
 cond:fq d.cw=false
 size:3*SizeOf.sizeOf d.cw<N
 l1:d.aR.length<=6
 l2:d.cl.length<=6
 plain:(d.dF==0||d.dF==5)=true->d.cl=[]
 scan:d.dF=5->d.aR≠ []
def w7(f:I Int->Except Int (aB×aM))(d:bZ):I (I Int)->U aB->Except Int aB
 |[],b=>.ok (b.getD cf)
 |q::l,b=>match f q with
  | .error z=>.error z
  | .ok x=>match b with
    |none=>w7 f d l (some x.1)
    |some a=>match rN d.dF d.aH a x.1 with
     | .error z=>.error z
     | .ok v=>w7 f d l (some v)
def rW(d:bZ):I so:=d.cl.map (·.ay)
def ri(d:bZ):I so:=d.aR.map (·.ay)
noncomputable def yX(mem:I aL)(env:I aJ)(d:bZ)(q:I Int):Except Int (aB×aM):=fA mem (iZ (rW d) q++env) d.cw
noncomputable def zM(mem:I aL)(env:I aJ)(d:bZ)(a:I Int):Except Int aB:=w7 (yX mem env d) d (mP a 0 (cT a).toNat) none
def VL{l:I Int}(h:nx l):∀(m k:Nat),(k:Int)+m<=cT l->∀q∈mP l k m,q.length=l.length/\∀x∈q,0<=x/\x<4096
 |0,k,_,q,a=>by cases a
 |m+1,k,b,q,a=>by
  rw[CE]at a;rcases Za.1 a with rfl|a
  ·have:=h.p;exact⟨S4 _ _,aqC h.r (by omega) (by omega)⟩
  ·exact VL h m (k+1) (by omega) q a
def ado(N:Nat)(l:9223372036854775808<N)(mem:I aL)(u:mem.length<=4611686018427387904)(env:I aJ)(F:env.length<=1000000)(d:bZ)(H:Df N d):∀(f:I (I Int))(c:U aB)(e:I (so×bk)),(∀q∈f,q.length=d.cl.length/\∀x∈q,0<=x/\x<4096)->CK mem e->
 ∃v i g,wN N d env mem f (c.getD cf).xN (c.getD cf).xD c.isNone e=some (v,i,g)/\CK mem g/\mI (w7 (yX mem env d) d f c) i v (λa b=>b=a)
 |[],c,e,_,m=>⟨_,_,_,rfl,m,rfl,rfl⟩
 |q::f,c,e,w,m=>by
  have A:=w q Zq;have P:=H.l2;have Q:=H.size;rw[wN,agn N d.cl q env A.1.symm (by omega) A.2 (by omega),re];unfold yI C7;rw[re];obtain⟨t,i,g,G,n,j⟩:=(mch N l mem u (iZ (rW d) q++env) _ d.cw (Zv _) H.ev).v H.cond N e (by omega) m;have J:m4 N N d.cw (iZ (d.cl.map (·.ay)) q++env) mem e=some (t,i,g):=G;rw[J,re,w7];unfold yX;cases B:fA mem (iZ (rW d) q++env) d.cw with
  |error z=>
   rw[B]at j;obtain⟨rfl,h⟩:=j;dsimp only;rw[Ue.2 h,Tq];exact⟨_,_,_,rfl,n,rfl,h⟩
  |ok x=>
   rw[B]at j;obtain⟨rfl,K,R,S⟩:=j;dsimp only;rw[show((0:Int) !=0)=false from rfl,T6,K];have C:=λc=>ado N l mem u env F d H f c g (λy L=>w y (Zg _ L)) n;cases c with
   |none=>exact C (some x.1)
   |some a=>
    simp only[Option.isNone_some,T6,Option.getD_some];obtain⟨r,M,k⟩:=aeW N l d.dF d.aH a x.1 H.ty;rw[M,re];cases E:rN d.dF d.aH a x.1 with
    |error z=>
     rw[E]at k;obtain⟨o,h⟩:=k;rw[o,Ue.2 h,Tq];exact⟨_,_,_,rfl,n,rfl,h⟩
    |ok v=>
     rw[E]at k;have o:r=(v,0):=k;subst o;exact C (some v)
def ahg(N:Nat)(l:9223372036854775808<N)(mem:I aL)(m:mem.length<=4611686018427387904)(env:I aJ)(q:env.length<=1000000)(d:bZ)(H:Df N d)(c:I Int)(f:nx c)(i:c.length=d.cl.length)(g:I (so×bk))(n:CK mem g):
 ∃v j k,BB N d c env mem g=some (v,j,k)/\CK mem k/\mI (zM mem env d c) j v (λa b=>b=a):=by
 have G:=H.size;have J:=f.p;have K:=qv f.r;unfold BB zM;have u:(bif (d.dF==0)then some true else some (d.dF==5))=some (d.dF==0||d.dF==5):=by cases d.dF==0<;>rfl
 rw[u,re];cases w:(d.dF==0||d.dF==5)with
 |true=>
  have y:c=[]:=by
   have:=H.plain w;rw[this]at i;exact V1 i
  subst y;rw[Tq];unfold yI C7;rw[re];obtain⟨t,j,k,A,B,h⟩:=(mch N l mem m env _ d.cw (Zv _) H.ev).v H.cond N g (by omega) n;rw[A,re];refine⟨_,_,_,rfl,B,?_⟩;have e:mP [] 0 (cT []).toNat=[[]]:=rfl;rw[e,w7];have C:yX mem env d []=fA mem env d.cw:=by
   unfold yX iZ;rw[List.zipWith_nil_right,W2]
  rw[C];cases o:fA mem env d.cw with
  |error z=>rw[o]at h;exact h
  |ok x=>
   rw[o]at h;obtain⟨E,F,L,M⟩:=h;exact⟨E,F⟩
 |false=>
  rw[T6,af6 N c f,re,afP N (by omega) c f,re];exact ado N l mem m env q d H _ none g (by rw[<-i];exact VL f _ 0 (by omega)) n
def AgF(r:Except Int aB)(g:gi):Prop:=match r with
 | .ok v=>g.xV=v/\g.xE=0
 | .error z=>g.xE=z/\z≠0
def aaS(N:Nat)(n:9223372036854775808<N)(mem:I aL)(env:I aJ)(E:env.length<=1000000)(d:bZ)(H:Df N d)(red:I Int)(c:nx red)(u:red.length=d.cl.length):∀(m k f:Nat)(a:U aB)(b:gi),(k:Int)+m=cT red->m<f->(k=0->a=none)->(0<k->a=some b.xV/\b.xE=0)->
 ∃g,zV N red (rW d) env mem d f (k:Int) b=some g/\AgF (w7 (yX mem env d) d (mP red k m) a) g
 |0,k,f,a,b,F,G,w,o=>by
  obtain⟨f,rfl⟩:∃q,f=q+1:=⟨f-1,by omega⟩;have J:=c.p;have R:=qv c.r;rw[zV,yO N red c.r,ab (by omega),re,Zx (show ¬(k:Int)<cT red by omega),T6];obtain⟨rfl,e⟩:=o (by omega);exact⟨b,rfl,rfl,e⟩
 |m+1,k,f,a,b,F,G,w,o=>by
  obtain⟨f,rfl⟩:∃q,f=q+1:=⟨f-1,by omega⟩;have J:=c.p;have S:=H.size;have T:=H.l2;have K:(rW d).length=red.length:=by unfold rW;rw[Zu,u]
  rw[zV,yO N red c.r,ab (by omega),re,dO (show(k:Int)<cT red by omega),Tq,aaD N (by omega) (rW d) red env (k:Int) K (by omega) (by omega) c.r (by omega) (by omega),re];unfold WA;obtain⟨g,L,j⟩:=(rfe N n mem (iZ (rW d) (lL red (k:Int))++env) _ d.cw (Zv _) H.ev).v H.cond N (by omega);rw[L,re,CE,w7];unfold yX;cases y:fA mem (iZ (rW d) (lL red (k:Int))++env) d.cw with
  |error z=>
   rw[y]at j;obtain⟨rfl,i⟩:=j;dsimp only;rw[Ue.2 i,Tq];exact⟨_,rfl,rfl,i⟩
  |ok x=>
   rw[y]at j;have M:g=⟨x.1,x.2,0⟩:=j;subst M;dsimp only;rw[show((0:Int) !=0)=false from rfl,T6,iz (by omega) (by omega),show(k:Int)+1=((k+1:Nat):Int) by omega];have A:=λa b P=>aaS N n mem env E d H red c u m (k+1) f a b (by omega) (by omega) (λh=>by omega) (λ_=>P);by_cases B:k=0
   ·rw[w B];subst B;rw[show(((0:Nat):Int)==0)=true from rfl,Tq];exact A (some x.1) ⟨x.1,x.2,0⟩ ⟨rfl,rfl⟩
   ·obtain⟨rfl,e⟩:=o (by omega);rw[show((k:Int)==0)=false by rw[Tv];omega,T6];obtain⟨r,Q,l⟩:=abt N n d.dF d.aH b.xV x.1 H.ty;rw[Q,re];dsimp only;cases C:rN d.dF d.aH b.xV x.1 with
    |error z=>
     rw[C]at l;obtain⟨t,i⟩:=l;rw[t,Ue.2 i,Tq];exact⟨_,rfl,rfl,i⟩
    |ok v=>
     rw[C]at l;have t:r=(v,0):=l;subst t;exact A (some v) ⟨v,b.xT,b.xE⟩ ⟨rfl,e⟩
def aqe(N:Nat)(c:9223372036854775808<N)(mem:I aL)(env:I aJ)(e:env.length<=1000000)(d:bZ)(H:Df N d)(a:I Int)(b:nx a)(f:a.length=d.cl.length):
 ∃g,Ls N mem env d (rW d) a=some g/\AgF (zM mem env d a) g:=by
 have i:=b.p;have j:=qv b.r;unfold Ls zM;exact aaS N c mem env e d H a b f (cT a).toNat 0 N none _ (by omega) (by omega) (λ_=>rfl) (λh=>by omega)
def Dy(q:I Int):Int:=(q[q.length-1]?).getD 0
noncomputable def Dg(mem:I aL)(env:I aJ)(d:bZ)(a:I Int)(q:I Int):Except Int aB:=zM mem (iZ (ri d) q++env) d a
def rL(f:I Int->Except Int aB)(d:bZ):I (I Int)->I aB->Except Int (I aB)
 |[],a=>.ok a
 |q::l,a=>match f q with
  | .error z=>.error z
  | .ok v=>bif d.dF==5&&decide (Dy q>0)then(match a[a.length-1]? with
   |none=>.error 1
   |some w=>match rN 1 d.aH w v with
    | .error z=>.error z
    | .ok u=>rL f d l (a++[u]))else rL f d l (a++[v])
def Ra(t:aM)(ext:I Int)(r:Except Int (I aB)):bk×Int:=match r with
 | .ok a=>(⟨t,ext,a⟩,0)
 | .error z=>(jd,z)
def adT{ext:I Int}(h:ext≠ []):∃e,ext[ext.length-1]?=some e:=by
 have:0<ext.length:=List.length_pos_iff.2 h;exact⟨_,Ze (by omega)⟩
def abg{a:I aB}(h:0<a.length):∃w,a[a.length-1]?=some w:=⟨_,Ze (by omega)⟩
def abf(N:Nat)(q:9223372036854775808<N)(mem:I aL)(A:mem.length<=4611686018427387904)(env:I aJ)(Q:env.length<=100000)(d:bZ)(H:Df N d)(D:I Int×aM×Int)(b:nx D.1)(g:D.1.length=d.aR.length)(R:I Int×Int)(B:nx R.1)(C:R.1.length=d.cl.length)(c:I (so×bk)):∀(m k:Nat)(acc:I aB)(a:I (so×bk)),(k:Int)+m=cT D.1->acc.length=k->CK mem a->
 ud N d D env R (mem,c) (mP D.1 k m) acc a=some (Ra d.aH D.1 (rL (Dg mem env d R.1) d (mP D.1 k m) acc))
 |0,k,acc,a,_,_,_=>rfl
 |m+1,k,acc,a,hk,i,S=>by
  have hp:=b.p;have F6:=H.l1;have f:=VL b (m+1) k (by omega) (lL D.1 (k:Int)) (by rw[CE];exact Zq);rw[CE,ud,agn N d.aR _ env (by rw[f.1,g]) (by omega) f.2 (by omega),re];obtain⟨v,E,F,T,W,j⟩:=ahg N q mem A (iZ (ri d) (lL D.1 (k:Int))++env) (by rw[Zk,O8 _ _ (by unfold ri;rw[Zu,f.1,g])];unfold ri;rw[Zu];omega) d H R.1 B C a S;have nu:BB N d R.1 (iZ (d.aR.map (·.ay)) (lL D.1 (k:Int))++env) mem a=some (v,E,F):=T;rw[nu,re,rL];have t:=λG(hh:G.length=k+1)=>abf N q mem A env Q d H D b g R B C c m (k+1) G F (by omega) hh W;unfold Dg;cases J:zM mem (iZ (ri d) (lL D.1 (k:Int))++env) d R.1 with
  |error z=>
   rw[J]at j;obtain⟨rfl,l⟩:=j;dsimp only;rw[show(E==0)=false by rw[Tv];exact l,T6,re,T6];unfold vF;rw[Ue.2 l];rfl
  |ok x=>
   rw[J]at j;obtain⟨rfl,rfl⟩:=j;dsimp only;rw[show((0:Int)==0)=true from rfl,Tq];cases h5:(d.dF==5)with
   |false=>
    rw[T6,re,T6,Bool.false_and,T6];unfold vF;rw[show((0:Int) !=0)=false from rfl,T6,e9 (by omega),Tq];exact t _ (by simp [i])
   |true=>
    have K:D.1≠ []:=λh=>H.scan (by simpa using h5) (V1 (by rw[<-g,h];rfl));have AM:0<D.1.length:=List.length_pos_iff.2 K;obtain⟨e,nR⟩:=adT K;have L:=Vz (n:=(k:Int)) nR;have Am:Dy (lL D.1 (k:Int))=(k:Int).tmod e:=by unfold Dy;rw[f.1,L];rfl
    rw[Tq,f.1,iz (by have:=b.n;omega) (by have:=b.n;omega),dO (show(0:Int)<=(D.1.length:Int)-1 by omega),Tq,show((D.1.length:Int)-1).toNat=D.1.length-1 by omega,L,re,re,Am,Zt];cases M:decide ((k:Int).tmod e>0)with
    |false=>
     rw[T6,T6];unfold vF;rw[show((0:Int) !=0)=false from rfl,T6,e9 (by omega),Tq];exact t _ (by simp [i])
    |true=>
     have gD:0<acc.length:=by
      rw[i];refine Classical.byContradiction λh=> ?_;have:k=0:=by omega
      subst this;rw[UR]at M;simp at M
     obtain⟨w,hw⟩:=abg gD;rw[Tq,Tq,iz (by omega) (by omega),dO (show(0:Int)<=(acc.length:Int)-1 by omega),Tq,show((acc.length:Int)-1).toNat=acc.length-1 by omega,hw,re];obtain⟨r,r1,o⟩:=aeW N q 1 d.aH w v H.ty;rw[r1,re];unfold vF;dsimp only;cases P:rN 1 d.aH w v with
     |error z=>
      rw[P]at o;obtain⟨y,l⟩:=o;rw[y,Ue.2 l];rfl
     |ok u=>
      rw[P]at o;have y:r=(u,0):=o;subst y;rw[show((0:Int) !=0)=false from rfl,T6,e9 (by omega),Tq];exact t _ (by simp [i])
def abY(N:Nat)(o:9223372036854775808<N)(mem:I aL)(env:I aJ)(S:env.length<=100000)(d:bZ)(H:Df N d)(D:I Int×Int)(a:nx D.1)(q:D.1.length=d.aR.length)(R:I Int×Int)(C:nx R.1)(E:R.1.length=d.cl.length)(F G:I bE):∀(m k f:Nat)(acc:I aB),(k:Int)+m=cT D.1->m<f->acc.length=k->
 vN N D (ri d,F) env mem d (rW d,G) R f (k:Int) acc=some (Ra d.aH D.1 (rL (Dg mem env d R.1) d (mP D.1 k m) acc))
 |0,k,f,acc,T,W,c=>by
  obtain⟨f,rfl⟩:∃t,f=t+1:=⟨f-1,by omega⟩;have hp:=a.p;rw[vN,yO N D.1 a.r,ab (by omega),re,Zx (show ¬(k:Int)<cT D.1 by omega),T6];rfl
 |m+1,k,f,acc,T,W,c=>by
  obtain⟨f,rfl⟩:∃t,f=t+1:=⟨f-1,by omega⟩;have hp:=a.p;have F6:=H.l1;have J:(ri d).length=D.1.length:=by unfold ri;rw[Zu,q]
  rw[vN,yO N D.1 a.r,ab (by omega),re,dO (show(k:Int)<cT D.1 by omega),Tq];dsimp only;rw[aaD N (by omega) (ri d) D.1 env (k:Int) J (by omega) (by omega) a.r (by omega) (by omega),re];obtain⟨g,g1,i⟩:=aqe N o mem (iZ (ri d) (lL D.1 (k:Int))++env) (by rw[Zk,O8 _ _ (by rw[J,S4])];omega) d H R.1 C E;rw[g1,re,CE,rL];have v:=λK(hh:K.length=k+1)=>abY N o mem env S d H D a q R C E F G m (k+1) f K (by omega) (by omega) hh;have y:aF ((k:Int)+1)=((k+1:Nat):Int):=by rw[iz (by omega) (by omega)];omega
  unfold Dg;cases L:zM mem (iZ (ri d) (lL D.1 (k:Int))++env) d R.1 with
  |error z=>
   rw[L]at i;obtain⟨b,j⟩:=i;rw[b,show(z==0)=false by rw[Tv];exact j,T6];have e0:(bif d.dF==5then some false else some false)=some false:=by cases d.dF==5<;>rfl
   rw[e0,re,T6];unfold zX;rw[b,Ue.2 j];rfl
  |ok x=>
   rw[L]at i;obtain⟨rfl,b⟩:=i;dsimp only;rw[b,show((0:Int)==0)=true from rfl,Tq];cases h5:(d.dF==5)with
   |false=>
    rw[T6,re,T6,Bool.false_and,T6];unfold zX;rw[b,show((0:Int) !=0)=false from rfl,T6,e9 (by omega),Tq,y];exact v _ (by simp [c])
   |true=>
    have M:D.1≠ []:=λh=>H.scan (by simpa using h5) (V1 (by rw[<-q,h];rfl));have AM:0<D.1.length:=List.length_pos_iff.2 M;obtain⟨e,A⟩:=adT M;have her:=a.r e (ZY A);have ue:=Vz (n:=(k:Int)) A;have Am:Dy (lL D.1 (k:Int))=(k:Int).tmod e:=by unfold Dy;rw[S4,ue];rfl
    rw[Tq,iz (by have:=a.n;omega) (by have:=a.n;omega),dO (show(0:Int)<=(D.1.length:Int)-1 by omega),Tq,show((D.1.length:Int)-1).toNat=D.1.length-1 by omega,A,re,Ue.2 (show e≠0 by omega),Tq,re,Am,Zt];cases P:decide ((k:Int).tmod e>0)with
    |false=>
     rw[T6,T6];unfold zX;rw[b,show((0:Int) !=0)=false from rfl,T6,e9 (by omega),Tq,y];exact v _ (by simp [c])
    |true=>
     have gD:0<acc.length:=by
      rw[c];refine Classical.byContradiction λh=> ?_;have:k=0:=by omega
      subst this;rw[UR]at P;simp at P
     obtain⟨w,hw⟩:=abg gD;rw[Tq,Tq,iz (by omega) (by omega),dO (show(0:Int)<=(k:Int)-1 by omega),Tq,show((k:Int)-1).toNat=acc.length-1 by omega,hw,re];obtain⟨r,r1,l⟩:=abt N o 1 d.aH w g.xV H.ty;rw[r1,re];unfold zX;dsimp only;cases Q:rN 1 d.aH w g.xV with
     |error z=>
      rw[Q]at l;obtain⟨B,j⟩:=l;rw[B,Ue.2 j];rfl
     |ok u=>
      rw[Q]at l;have B:r=(u,0):=l;subst B;rw[show((0:Int) !=0)=false from rfl,T6,e9 (by omega),Tq,y];exact v _ (by simp [c])
def M7(env:I aJ):∀(l:I bE)(a:I Int),(gK env l a).2=0->(gK env l a).1.length=a.length+l.length
 |[],a,_=>rfl
 |f::l,a,h=>by
  rw[gK]at h ⊢;cases b:(dB f env).2 !=0 with
  |true=>rw[b,Tq]at h;simp only at h;rw[h]at b;cases b
  |false=>
   rw[b,T6]at h;rw[T6];cases c:ta (dB f env).1 with
   |false=>rw[c,T6]at h;cases h
   |true=>
    rw[c,Tq]at h;rw[Tq,M7 env l _ h];simp only[Zk,Zl,Zf];omega
def af4{p:bo}{i:Nat}{d:bZ}(g:p.aP[i]?=some d)(G:th p i d):dW p.bn p.aP d.ay=(d.aH,d.aR.map (·.eu),true):=by
 unfold dW;have a:=E1 (·.ay) d.ay p.bn;rw[G.par]at a;have c:=E1 (·.ay) d.ay (p.aP.take i);rw[G.apH]at c;have h:p.bn.find? (λx=>bL x.ay==bL d.ay)=none:=by
  cases b:p.bn.find? (λx=>bL x.ay==bL d.ay)with
  |none=>rfl
  |some y=>rw[b]at a;cases a
 rw[h];have e:p.aP=p.aP.take i++(d::p.aP.drop (i+1)):=by rw[<-JJ g,Yo]
 have j:p.aP.find? (mf d.ay)=some d:=by
  rw[e,List.find?_append];have:(p.aP.take i).find? (mf d.ay)=none:=by
    cases b:(p.aP.take i).find? (mf d.ay)with
    |none=>rfl
    |some y=>
     have f:false=((p.aP.take i).find? (mf d.ay)).isSome:=c;rw[b]at f;cases f
  rw[this,Option.none_or,List.find?_cons_of_pos];unfold mf;exact Z7 _
 rw[j]
def abW{N:Nat}(m:9223372036854775808<N){p:bo}(B:Bd N p)(V:VQ N p){i:Nat}{d:bZ}(e:p.aP[i]?=some d)(G:th p i d)(f:ja 400 d.cw)(j:3*SizeOf.sizeOf d.cw<N):Df N d:=by
 have Q:=V.defs i d e;have n:=ZY e;have a:=Q.fold;refine⟨Q.type,f.ev (by decide) G.body,?_,j,Q.l1,Q.l2,λh=> ?_,λh=> ?_⟩
 ·obtain⟨t,c,o⟩:=Q.tp;unfold vR at c;rw[ac7 N (by omega) d.cw (by omega) (f.oz (by decide)),re,G.body,show((0:Int) !=0)=false from rfl,T6,M1,re]at c;cases k:fq d.cw with
  |false=>rfl
  |true=>rw[k,Tq]at c;cases c
 ·unfold xa at a;cases g:(d.dF==0)with
  |true=>
   rw[g,Tq]at a;cases b:(d.cl.length==0)with
   |true=>rw[Ua]at b;exact V1 b
   |false=>rw[b]at a;cases a
  |false=>
   rw[g,b7,Ua]at h;rw[h]at a;cases b:(d.cl.length==0)with
   |true=>rw[Ua]at b;exact V1 b
   |false=>rw[b]at a;cases a
 ·unfold xa at a;rw[h]at a;intro l;rw[l]at a;simp at a
def abV(N:Nat):∀(l:I dH)(k:Nat)(b:I bE),b.length+l.length<=1000000000->IJ N l k b=some (b++l.map (·.eu))
 |[],k,b,_=>by rw[IJ,ah,ZV]
 |a::l,k,b,h=>by
  simp only[Zl]at h;rw[IJ,e9 (by omega),Tq];dsimp only;rw[abV N l (k+1) _ (by simp only[Zk,Zl,Zf];omega),ZS,ZR];rfl
def Wk(N:Nat):∀(l:I dH)(k:Nat)(a:I so)(b:I bE),a.length+l.length<=1000000000->b.length+l.length<=1000000000->GC N l k a b=some (a++l.map (·.ay),b++l.map (·.eu))
 |[],k,a,b,_,_=>by rw[GC,ah,ZV,ah,ZV]
 |x::l,k,a,b,c,d=>by
  simp only[Zl]at c d;rw[GC,e9 (by omega),Tq,e9 (by omega),Tq];dsimp only;rw[Wk N l (k+1) _ _ (by simp only[Zk,Zl,Zf];omega) (by simp only[Zk,Zl,Zf];omega),ZS,ZS,ZR,ZR];rfl
def abS:∀a b:I Int,cT (a++b)=cT a*cT b
 |[],b=>by rw[W2,cT,bf]
 |x::a,b=>by rw[List.cons_append,cT,cT,abS a b,an]
def ac0(N:Nat)(a:Int)(n:a<=65536)(L:I Int)(o:L.length<=1000000):∀(l:I Int)(k f:Nat)(v:Int),L.drop k=l->k<=L.length->l.length<f->(∀x∈l,1<=x/\x<=4096)->1<=v->v<=a->wE N L.length L a f v (k:Int)=some (if v*cT l<=a then v*cT l else a+1)
 |[],k,f,v,b,q,e,_,g,i=>by
  obtain⟨f,rfl⟩:∃c,f=c+1:=⟨f-1,by omega⟩;have:L.length<=k:=List.drop_eq_nil_iff.1 b;rw[wE,Zx (show ¬(k:Int)<(L.length:Int) by omega),T6,cT,Int.mul_one,ab i]
 |x::l,k,f,v,b,q,e,h,g,i=>by
  obtain⟨f,rfl⟩:∃c,f=c+1:=⟨f-1,by omega⟩;have j:=h x Zq;have r:=qv (l:=l) λy d=>h y (Zg _ d);have u:v*x<=65536*4096:=b6 (by omega) j.2 (by omega) (by omega);have w:1*1<=v*x:=b6 g j.1 (by decide) (by omega);have t:k<L.length:=by
   refine Classical.byContradiction λh=> ?_;rw[List.drop_of_length_le (by omega)]at b;cases b
  simp only[Zl]at e;rw[wE,dO (show(k:Int)<(L.length:Int) by omega),Tq,dO (show(0:Int)<=(k:Int) by omega),Tq,ZK,aX b,re,cT,iz (z:=v*x) (by omega) (by omega),<-an];by_cases m:v*x>a;{rw[dO m,Tq,iz (by omega) (by omega),ae];have:v*x*1<=v*x*cT l:=Yy r (by omega);omega};{rw[Zx m,T6,iz (by omega) (by omega),show(k:Int)+1=((k+1:Nat):Int) by omega];exact ac0 N a n L o l (k+1) f (v*x) (by rw[<-List.drop_drop,b];rfl) t (by omega) (λy d=>h y (Zg _ d)) (by omega) (by omega)}
def ala(N:Nat)(b:2147483648<N)(L:I Int)(a:L.length<=1000000)(h:∀x∈L,1<=x/\x<=4096):FM N L.length 65536 L=some (if cT L<=65536 then cT L else 65537):=by
 unfold FM;rw[Nat.beq_refl,Tq];have:=ac0 N 65536 (by decide) L a L 0 N 1 rfl (by omega) (by omega) h (by decide) (by decide);rw[bf]at this;exact this
def aeX{p:bo}{env:I aJ}{s:so}(h:(gW p env s).2.2=0):(gW p env s).1=(gK env (dW p.bn p.aP s).2.1 []).1/\(gK env (dW p.bn p.aP s).2.1 []).2=0/\cT (gW p env s).1<=4096:=by
 unfold gW at h ⊢;dsimp only at h ⊢;cases b:(dW p.bn p.aP s).2.2 with
 |false=>rw[b]at h;cases h
 |true=>
  rw[b,Tq]at h;rw[Tq];cases a:(gK env (dW p.bn p.aP s).2.1 []).2 !=0 with
  |true=>rw[a,Tq]at h;simp only at h;rw[h]at a;cases a
  |false=>
   rw[a,T6]at h;rw[T6];cases c:decide (cT (gK env (dW p.bn p.aP s).2.1 []).1>4096)with
   |true=>rw[c]at h;cases h
   |false=>
    rw[UN]at c;exact⟨rfl,by simpa using a,by simp only[T6];omega⟩
noncomputable def sQ(p:bo)(env:I aJ)(mem:I aL)(d:bZ)(a:Int):bk×Int:=bif (gW p env d.ay).2.2 !=0 then(jd,(gW p env d.ay).2.2)else bif (gK env (d.cl.map (·.eu)) []).2 !=0 then(jd,(gK env (d.cl.map (·.eu)) []).2)else bif decide (cT (gW p env d.ay).1*cT (gK env (d.cl.map (·.eu)) []).1>65536)then(jd,2)else bif a !=0 then(jd,a)else Ra d.aH (gW p env d.ay).1 (rL (Dg mem env d (gK env (d.cl.map (·.eu)) []).1) d (mP (gW p env d.ay).1 0 (cT (gW p env d.ay).1).toNat) [])
def apL(N:Nat)(t:9223372036854775808<N)(p:bo)(env:I aJ)(u:env.length<=100000)(mem:I aL)(E:mem.length<=4611686018427387904)(B:Bd N p){i:Nat}{d:bZ}(h:p.aP[i]?=some d)(G:th p i d)(H:Df N d)(F:ja 400 d.cw):∃c,Db N p env mem (i:Int)=some (sQ p env mem d c)/\EY N p env mem (i:Int)=some (sQ p env mem d c):=by
 have hs:=H.size;have hi:i<p.aP.length:=(Zo.1 h).1;have J:=ZY h;have F6:=H.l1;have yc:=H.l2;obtain⟨c,K,L⟩:=amE N (by omega) p env mem B.P B.D d (by omega) G.body F;refine⟨c,?_⟩;unfold Db EY sQ;have M:∀y∈d.cl.map (·.eu),np 1000000000 y:=λy Q=>by
  obtain⟨a,S,rfl⟩:=UU.1 Q;exact B.D.lR d J a (a8 _ S)
 have v:=PM N (by omega) env (d.cl.map (·.eu)) 0 [] M (by simp only[Zf,Zu];omega);rw[Zx (show ¬(i:Int)<0 by omega),T6,Zx (show ¬(i:Int)>=(p.aP.length:Int) by omega),re,T6,dO (show(0:Int)<=(i:Int) by omega),Tq,Tq,ZK,h,re,re,Uu N (by omega) p env d.ay B.P B.D,TW N (by omega) p env d.ay B.P B.D,re,re];dsimp only;cases j:((gW p env d.ay).2.2 !=0)with
 |true=>exact⟨rfl,rfl⟩
 |false=>
  rw[bne_eq_false_iff_eq]at j;obtain⟨k,w,z⟩:=aeX j;rw[af4 h G]at k w;have e:∀x∈(gW p env d.ay).1,1<=x/\x<=4096:=by rw[k];exact Iv env _ [] λx b=>by cases b
  have l:(gW p env d.ay).1.length=d.aR.length:=by rw[k,M7 env _ [] w];simp
  have f:nx (gW p env d.ay).1:=⟨e,by omega,by omega⟩;have m:=qv e;unfold UT La I1 Hc;rw[T6,T6,T6,abV N d.cl 0 [] (by simp only[Zf];omega),Wk N d.aR 0 [] [] (by simp only[Zf];omega) (by simp only[Zf];omega),Wk N d.cl 0 [] [] (by simp only[Zf];omega) (by simp only[Zf];omega)];simp only[W2,re];rw[v.1,v.2,re,re];cases n:((gK env (d.cl.map (·.eu)) []).2 !=0)with
  |true=>exact⟨rfl,rfl⟩
  |false=>
   rw[bne_eq_false_iff_eq]at n;have g:∀x∈(gK env (d.cl.map (·.eu)) []).1,1<=x/\x<=4096:=Iv env _ [] λx b=>by cases b
   have o:(gK env (d.cl.map (·.eu)) []).1.length=d.cl.length:=by rw[M7 env _ [] n];simp
   have q:=qv g;generalize T:gK env (d.cl.map (·.eu)) []=R at g o q n ⊢;generalize W:gW p env d.ay=D at e l f m z j ⊢;unfold QM;rw[T6,T6,T6,e9 (show D.1.length*8<=140737488355328 by omega),Tq,re,e9 (show(D.1.length+R.1.length)*8<=140737488355328 by omega),Tq];have A:=ala N (by omega) (D.1++R.1) (by rw[Zk];omega) (λx b=>by
    rcases ZN.1 b with b|b
    ·exact e x b
    ·exact g x b)
   rw[Zk,abS]at A;rw[A,re,yO N D.1 e,yO N R.1 g,re,re,ab (show cT D.1<=65537 by omega)];have lx:1*cT R.1<=cT D.1*cT R.1:=Int.mul_le_mul_of_nonneg_right m (by omega);have e1:decide ((if cT D.1*cT R.1<=65536 then cT D.1*cT R.1 else 65537)>65536)=decide (cT D.1*cT R.1>65536):=aaM 65536 (by decide) (by decide) _;have e2:decide (aF (cT D.1*(if cT R.1<=65537 then cT R.1 else 65537))>65536)=decide (cT D.1*cT R.1>65536):=by
     by_cases r:cT R.1<=65537;{have iU:cT D.1*cT R.1<=4096*65537:=b6 z r (by omega) (by decide);rw[ab r,iz (by omega) (by omega)]};{have iU:1*65537<=cT D.1*65537:=Int.mul_le_mul_of_nonneg_right m (by decide);rw[ae r,iz (by omega) (by omega),dO (show cT D.1*65537>65536 by omega),dO (show cT D.1*cT R.1>65536 by omega)]}
   rw[e1,e2];cases hp:decide (cT D.1*cT R.1>65536)with
   |true=>exact⟨rfl,rfl⟩
   |false=>
    rw[UN]at hp;have C:nx R.1:=⟨g,by omega,by omega⟩;rw[T6,T6,T6,K,L,re,re];cases c !=0 with
    |true=>exact⟨rfl,rfl⟩
    |false=>
     rw[T6,T6,T6];unfold Hf;rw[re,af6 N D.1 f,re,afP N (by omega) D.1 f,re];exact⟨abf N t mem E env u d H D f l R C o [] _ 0 [] [] (by omega) rfl (CK.nil mem),abY N t mem env u d H (D.1,D.2.2) f l R C o _ _ _ 0 N [] (by show(((0:Nat):Int)+((cT D.1).toNat:Int))=cT D.1;omega) (by omega) rfl⟩
def TZ(N:Nat)(c:Int64->U Int)(m:dX)(a:∀v,∃n,c v=some n):∀(l:I aJ)(k:Nat)(v:Int64),∃n,Nx N c v m l k=some n
 |[],k,v=>a v
 |b::l,k,v=>by
  rw[Nx];cases bL b.ay==bL m.ay with
  |false=>exact TZ N c m a l (k+1) v
  |true=>
   rw[Tq,re];cases decide (b.dP.toInt> -1000)with
   |true=>exact a _
   |false=>exact TZ N c m a l (k+1) v
def abK(N:Nat)(env:I aJ):∀(l:I dX)(k:Nat)(v:Int64),∃n,Ha N env l k v=some n
 |[],k,v=>⟨_,rfl⟩
 |m::l,k,v=>by
  rw[Ha];have a:=TZ N (λb=>Ha N env l (k+1) b) m (λv=>abK N env l (k+1) v) env 0 v;cases decide (m.eW.toInt>100)with
  |true=>exact⟨_,rfl⟩
  |false=>
   rw[T6,re];cases decide (m.eW.toInt< -100)with
   |true=>exact⟨_,rfl⟩
   |false=>exact a
def aro(N:Nat)(f:bE)(env:I aJ):∃n,P6 N f env=some n:=by
 unfold P6;cases decide (f.xK.toInt>3000)with
 |true=>exact⟨_,rfl⟩
 |false=>
  rw[T6,re];cases decide (f.xK.toInt< -3000)with
  |true=>exact⟨_,rfl⟩
  |false=>exact abK N env f.xL 0 f.xK
def Vm(N:Nat)(env:I aJ):∀(l:I dH)(k:Nat)(v:Int),∃n,LQ N env l k v=some n
 |[],k,v=>⟨_,rfl⟩
 |a::l,k,v=>by
  rw[LQ];obtain⟨n,b⟩:=aro N a.eu env;rw[b,re];exact Vm N env l (k+1) _
def agS(N:Nat)(env:I aJ):∀(l:I bZ)(k:Nat),∃b,KG N env l k=some b
 |[],k=>⟨_,rfl⟩
 |d::l,k=>by
  rw[KG];unfold LA;obtain⟨a,c⟩:=Vm N env d.aR 0 1;obtain⟨b,e⟩:=Vm N env d.cl 0 1;rw[c,e,re,re];cases decide (aF (a*b)>3000)with
  |true=>exact⟨_,rfl⟩
  |false=>exact agS N env l (k+1)
def adi(N:Nat)(env:I aJ)(p:bo)(v:Int64):∀(l:I aJ)(k:Nat),∃b,L3 N env p v l k=some b
 |[],k=>agS N env p.aP 0
 |x::l,k=>by
  rw[L3];cases decide (x.dP.toInt>v.toInt)with
  |true=>exact⟨_,rfl⟩
  |false=>exact adi N env p v l (k+1)
def ar9(N:Nat)(c:1000<N)(p:bo)(env:I aJ)(v:Int64)(e:∀d∈p.aP,ja rQ d.cw/\SizeOf.sizeOf d.cw<N):∃b,NC N p env v=some b/\(b=true->DV p/\(env.length:Int)<=20):=by
 unfold NC;obtain⟨b1,f,g⟩:=al8 N 400 (by decide) c p e;have a:Jy N p 400=some b1:=f;obtain⟨i,j,k⟩:=aok N env 20;obtain⟨l,m⟩:=adi N env p v env 0;rw[a,j,m,re];cases b1 with
 |true=>exact⟨false,rfl,λh=>by cases h⟩
 |false=>
  rw[T6];cases decide ((p.aP.length:Int)>12)with
  |true=>exact⟨false,rfl,λh=>by cases h⟩
  |false=>
   cases i with
   |false=>exact⟨false,rfl,λh=>by cases h⟩
   |true=>exact⟨l,rfl,λ_=>⟨g rfl,k rfl⟩⟩
def amD(N:Nat)(L:I aB):H8 N L L=some true:=by
 have a:∀(l:I aB)(k:Nat),L.drop k=l->KR N L l k=some true:=by
  intro l
  induction l with
  |nil=>intro k _;rfl
  |cons x l b=>intro k h;rw[KR,ZK,aX h,re,Z7,Z7];exact b (k+1) (rS h)
 unfold H8;rw[WL,T6];exact a L 0 rfl
def aid(N:Nat)(t:bk):ME N t t=some true:=by
 unfold ME;rw[ais,amD];simp
def ag3(N:Nat)(b:2147483648<N)(p:bo)(env:I aJ)(B:Bd N p)(f:∀c∈p.dR,c.bN.xL.length<=4611686018427387904):∃x,Kh N p env=some x/\N8 N p env=some x/\(x=0->Bf p env=0/\VQ N p/\∀i d,p.aP[i]?=some d->th p i d):=by
 obtain⟨a,x,j,g,k⟩:=ahf b B;unfold Kh N8;rw[j,g,arE N b env p f,ahH N b env p f,re,re];cases e:(x !=0)with
 |true=>exact⟨x,rfl,rfl,λh=>by rw[h]at e;cases e⟩
 |false=>
  have l:x=0:=by simpa using e
  subst l;exact⟨Bf p env,rfl,rfl,λh=>⟨h,ahF (by omega) B g,k rfl⟩⟩
structure Lw(N:Nat)(p:bo)(env:List aJ):Prop where
 hN:9223372036854775808<N
 sh:DV p
 env:env.length<=20
 size:∀d∈p.aP,3*SizeOf.sizeOf d.cw<N
def Lw.bd{N:Nat}{p:bo}{env:I aJ}(W:Lw N p env):Bd N p:=ajv W.sh λd h=>by have:=W.size d h;omega
def Lw.wh{N:Nat}{p:bo}{env:I aJ}(W:Lw N p env):∀c∈p.dR,c.bN.xL.length<=4611686018427387904:=λc a=>Zc (W.sh.W c a) (by decide)
def aqI{N:Nat}{p:bo}{env:I aJ}(W:Lw N p env)(a:VQ N p)(G:∀i d,p.aP[i]?=some d->th p i d)(mem:I aL)(f:mem.length<=4611686018427387904){i:Nat}{d:bZ}(b:p.aP[i]?=some d):∃e,Db N p env mem (i:Int)=some (sQ p env mem d e)/\EY N p env mem (i:Int)=some (sQ p env mem d e):=by
 have c:=ZY b;have g:=W.env;exact apL N W.hN p env (by omega) mem f W.bd b (G i d b) (abW W.hN W.bd a b (G i d b) (W.sh.D d c).body (W.size d c)) (W.sh.D d c).body
structure DS(t:bk):Prop where
 d:t.aR.length<=1000000
 v:t.eD.length<=1000000
def Bv:DS jd:=⟨by decide,by decide⟩
def agZ(N:Nat){t:bk}(h:DS t):Jg N t=some t:=by
 have a:=h.d;have b:=h.v;unfold Jg Q0 Wj;rw[e9 (by omega),Tq,re,e9 (by omega),Tq,re]
def Vx(f:I Int->Except Int aB)(d:bZ):∀(l:I (I Int))(a b:I aB),rL f d l a= .ok b->b.length=a.length+l.length
 |[],a,b,h=>by rw[rL]at h;cases h;rfl
 |q::l,a,b,h=>by
  rw[rL]at h;cases c:f q with
  |error z=>rw[c]at h;cases h
  |ok v=>
   rw[c]at h;dsimp only at h;cases e:(d.dF==5&&decide (Dy q>0))with
   |false=>
    rw[e,T6]at h;have:=Vx f d l _ b h;simp only[Zk,Zl,Zf]at this ⊢;omega
   |true=>
    rw[e,Tq]at h;cases g:a[a.length-1]? with
    |none=>rw[g]at h;cases h
    |some w=>
     rw[g]at h;dsimp only at h;cases i:rN 1 d.aH w v with
     |error z=>rw[i]at h;cases h
     |ok u=>
      rw[i]at h;have:=Vx f d l _ b h;simp only[Zk,Zl,Zf]at this ⊢;omega
def amG(l:I Int)(k n:Nat):(mP l k n).length=n:=by unfold mP;rw[Zu,List.length_range']
def aoF{N:Nat}{p:bo}{env:I aJ}{i:Nat}{d:bZ}(f:p.aP[i]?=some d)(G:th p i d)(H:Df N d)(mem:I aL)(a:Int):DS (sQ p env mem d a).1:=by
 unfold sQ;cases b:((gW p env d.ay).2.2 !=0)with
 |true=>exact Bv
 |false=>
  rw[bne_eq_false_iff_eq]at b;obtain⟨c,e,j⟩:=aeX b;rw[af4 f G]at c e;have k:(gW p env d.ay).1.length=d.aR.length:=by rw[c,M7 env _ [] e];simp
  have l:=H.l1;rw[T6];cases (gK env (d.cl.map (·.eu)) []).2 !=0 with
  |true=>exact Bv
  |false=>
   rw[T6];cases decide (cT (gW p env d.ay).1*cT (gK env (d.cl.map (·.eu)) []).1>65536)with
   |true=>exact Bv
   |false=>
    rw[T6];cases a !=0 with
    |true=>exact Bv
    |false=>
     rw[T6];cases g:rL (Dg mem env d (gK env (d.cl.map (·.eu)) []).1) d (mP (gW p env d.ay).1 0 (cT (gW p env d.ay).1).toNat) []with
     |error z=>exact Bv
     |ok h=>
      have:=Vx _ _ _ _ _ g;rw[amG,Zf]at this;exact⟨by show(gW p env d.ay).1.length<=1000000;omega,by show h.length<=1000000;omega⟩
def na(l:I aL):Prop:=∀x∈l,DS x.xTensor
def na.add{l:I aL}(h:na l){x:aL}(b:DS x.xTensor):na (l++[x]):=λy a=>by
 rcases ZN.1 a with a|a
 ·exact h y a
 ·rw[af]at a;subst a;exact b
def AP(l:I aL)(s:so):bk×Bool:=match iS l s with|none=>(jd,false)|some t=>(t,true)
def aab(N:Nat)(l:I aL)(s:so):wI N l s=some (AP l s):=by
 rw[U8];unfold AP;cases iS l s<;>rfl
def ab9(N:Nat)(l:I aL)(s:so):Ag N l s=some (AP l s):=by
 rw[Sk];unfold AP;cases iS l s<;>rfl
def na.find{l:I aL}(h:na l)(s:so):DS (AP l s).1:=by
 unfold AP;cases a:iS l s with
 |none=>exact Bv
 |some t=>
  obtain⟨x,b,e,_⟩:=Qu a;have:=h x b;rw[e]at this;exact this
def aam{N:Nat}{p:bo}{env:I aJ}(W:Lw N p env)(a:VQ N p)(G:∀i d,p.aP[i]?=some d->th p i d):∀(l:I bZ)(k:Nat)(mem:I aL),p.aP.drop k=l->na mem->mem.length+l.length<=1000000->
 ∃q,Ps N p env l k mem=some q/\Hm N p env l k mem=some q/\(q.2=0->na q.1/\q.1.length=mem.length+l.length)
 |[],k,mem,_,e,_=>⟨(mem,0),rfl,rfl,λ_=>⟨e,rfl⟩⟩
 |d::l,k,mem,f,e,n=>by
  simp only[Zl]at n;have b:p.aP[k]?=some d:=aX f;have w:=W.hN;obtain⟨c,o,r⟩:=aqI W a G mem (by omega) b;have g:=ZY b;have t:=aoF (env:=env) b (G k d b) (abW W.hN W.bd a b (G k d b) (W.sh.D d g).body (W.size d g)) mem c;rw[Ps,Hm,o,r,re,re];cases j:((sQ p env mem d c).2 !=0)with
  |true=>exact⟨_,rfl,rfl,λh=>by have u:(sQ p env mem d c).2=0:=h;rw[u]at j;cases j⟩
  |false=>
   rw[T6,T6,e9 (by omega),Tq,Tq];obtain⟨q,q1,v,m⟩:=aam W a G l (k+1) (mem++[⟨d.ay,(sQ p env mem d c).1⟩]) (rS f) (e.add t) (by simp only[Zk,Zl,Zf];omega);refine⟨q,q1,v,λh=>⟨(m h).1,?_⟩⟩;rw[(m h).2];simp only[Zk,Zl,Zf];omega
def afZ:∀{P:I eX}{i:Nat}{x:eX}{S T:I so},zj S T P->P[i]?=some x->P.find? (λy=>bL y.ay==bL x.ay)=some x
 |[],i,x,S,T,_,h=>by simp at h
 |y::P,0,x,S,T,_,h=>by
  cases h
  rw[List.find?_cons_of_pos];exact Z7 _
 |y::P,i+1,x,S,T,b,h=>by
  rw[Z2]at h;have a:zj S (T++[y.ay]) P:=b.2;have c:=(af7 P _ a).1 x (ZY h);have d:¬(bL y.ay==bL x.ay)=true:=λe=>by
    have f:y.ay=x.ay:=R5.1 e;exact c.2.1 (by rw[<-f];simp)
  rw[List.find?_cons,show(bL y.ay==bL x.ay)=false by simpa using d];exact afZ a h
def amy{p:bo}{N:Nat}(V:VQ N p){i:Nat}{x:eX}(h:p.bn[i]?=some x):(dW p.bn p.aP x.ay).1=x.aH:=by
 unfold dW;rw[afZ V.VK h]
def afu{N:Nat}{p:bo}{env:I aJ}(W:Lw N p env)(a:VQ N p)(j6:I aL)(hi:na j6):∀(l:I eX)(k:Nat)(b:I aL),p.bn.drop k=l->na b->b.length+l.length<=1000000->
 (∃z,z≠0/\tF N p env j6 l k b=some ([],z)/\IN N p env j6 l k b=some ([],z))\/(∃mem,tF N p env j6 l k b=some (mem,0)/\IN N p env j6 l k b=Hm N p env p.aP 0 mem/\na mem/\mem.length=b.length+l.length)
 |[],k,b,_,d,_=>.inr ⟨b,rfl,rfl,d,rfl⟩
 |x::l,k,b,h,d,j=>by
  simp only[Zl]at j;have t:=W.hN;have m:p.bn[k]?=some x:=aX h;have B:=W.bd;rw[tF,IN,Uu N (by omega) p env x.ay B.P B.D,TW N (by omega) p env x.ay B.P B.D,re,re];dsimp only;rw[abl,amy a m];cases c:((gW p env x.ay).2.2 !=0)with
  |true=>
   rw[Ue]at c;rw[show((gW p env x.ay).2.2==0)=false by rw[Tv];exact c,T6,Tq];unfold Ca;rw[Ue.2 c,Tq];exact .inl ⟨_,c,rfl,rfl⟩
  |false=>
   rw[bne_eq_false_iff_eq]at c;rw[c,show((0:Int)==0)=true from rfl,Tq,T6];obtain⟨z,n,o,u⟩:=abm N (by omega) j6 x.ay x.aH (gW p env x.ay).1;rw[n,o,re,re];unfold Ca;cases q:(z !=0)with
   |true=>exact .inl ⟨z,Ue.1 q,rfl,rfl⟩
   |false=>
    have i:=hi.find x.ay;rw[T6,T6,aab,ab9,re,re,agZ N i,re,e9 (by omega),Tq,Tq];rcases afu W a j6 hi l (k+1) (b++[⟨x.ay,_⟩]) (rS h) (d.add i) (by simp only[Zk,Zl,Zf];omega)with⟨z,e,f,g⟩|⟨mem,e,f,g,r⟩
    ·exact .inl ⟨z,e,f,g⟩
    ·refine .inr ⟨mem,e,f,g,?_⟩;rw[r];simp only[Zk,Zl,Zf];omega
def adb{N:Nat}{p:bo}{env:I aJ}(W:Lw N p env)(j6:I aL)(hi:na j6):∃q,GH N p env j6=some q/\GX N p env j6=some q/\(q.2=0->na q.1/\p.bn.length<=q.1.length):=by
 have t:=W.hN;have u:=W.sh.d;have vI:=W.sh.q;unfold GH GX;obtain⟨x,j,k,l⟩:=ag3 N (by omega) p env W.bd W.wh;rw[j,k,re,re];cases c:(x !=0)with
 |true=>exact⟨_,rfl,rfl,λh=>by have m:x=0:=h;rw[m]at c;cases c⟩
 |false=>
  obtain⟨_,a,G⟩:=l (by simpa using c);rw[T6,T6];unfold Lb;rcases afu W a j6 hi p.bn 0 [] rfl (λy n=>by cases n) (by simp only[Zf];omega)with⟨z,b,e,f⟩|⟨g,b,e,f,o⟩
  ·rw[e,f,re];dsimp only;rw[Ue.2 b,Tq];exact⟨_,rfl,rfl,λh=>absurd h b⟩
  ·rw[b,e,re];dsimp only;rw[show((0:Int) !=0)=false from rfl,T6];rw[Zf,ZQ]at o;obtain⟨q,q1,r,i⟩:=aam W a G p.aP 0 g rfl f (by omega);exact⟨q,q1,r,λh=>⟨(i h).1,by have:=(i h).2;omega⟩⟩
def aeg(N:Nat)(q:I aL×Int)(b:na q.1):∀(l:I so)(k:Nat)(a:I aL),a.length+l.length<=1000000->∃r,Nt N q l k a=some r/\Mh N q l k a=some r
 |[],k,a,_=>⟨_,rfl,rfl⟩
 |s::l,k,a,c=>by
  simp only[Zl]at c;rw[Nt,Mh,aab,ab9,re,re,agZ N (b.find s),re,e9 (by omega),Tq,Tq];exact aeg N q b l (k+1) _ (by simp only[Zk,Zl,Zf];omega)
def apE{N:Nat}{p:bo}{env:I aJ}(W:Lw N p env)(j6:I aL)(hi:na j6):∃q,J8 N p env j6=some q/\M6 N p env j6=some q:=by
 unfold J8 M6;obtain⟨q,q1,a,b⟩:=adb W j6 hi;rw[q1,a];simp only[re];cases h:(q.2 !=0)with
 |true=>exact⟨_,rfl,rfl⟩
 |false=>
  obtain⟨_,c⟩:=b (by simpa using h);simp only[T6];rw[dO (show(0:Int)<=(p.bn.length:Int) by omega),ZK,dO c];exact⟨_,rfl,rfl⟩
def amJ{N:Nat}{p:bo}{env:I aJ}(W:Lw N p env)(j6:I aL)(hi:na j6):∃q,Fk N p env j6=some q/\Ov N p env j6=some q:=by
 have d:=W.sh.o;unfold Fk Ov;obtain⟨q,q1,a,b⟩:=adb W j6 hi;rw[q1,a];simp only[re];cases h:(q.2 !=0)with
 |true=>exact⟨_,rfl,rfl⟩
 |false=>
  obtain⟨c,_⟩:=b (by simpa using h);simp only[T6];exact aeg N q c p.dC 0 [] (by simp only[Zf];omega)
def al1(N:Nat)(L:I aL):II N L L=some true:=by
 have a:∀(l:I aL)(k:Nat),L.drop k=l->Kg N L l k=some true:=by
  intro l
  induction l with
  |nil=>intro k _;rfl
  |cons x l b=>intro k h;rw[Kg,ZK,aX h,re,Z7,Tq,aid,re,re,W1,T6];exact b (k+1) (rS h)
 unfold II;rw[WL,T6];exact a L 0 rfl
def amL(N:Nat)(p:bo)(env:I aJ)(mem:I aL)(g:9223372036854775808<N)(b:∀d∈p.aP,ja rQ d.cw/\3*SizeOf.sizeOf d.cw<N):UK N p env mem=some true:=by
 unfold UK;obtain⟨i,j,k⟩:=ar9 N (by omega) p env 8 λd h=>⟨(b d h).1,by have:=(b d h).2;omega⟩;obtain⟨l,m,c⟩:=alO N mem;have L:=akf (N:=N) (by omega);rw[j,m,L,re];cases i with
 |false=>rfl
 |true=>
  cases l with
  |false=>rfl
  |true=>
   obtain⟨n,v⟩:=k rfl;have W:Lw N p env:=⟨g,n,by omega,λd h=>(b d h).2⟩;have e:na mem:=λx f=>⟨Zc ((c rfl).2 x f).DT (by decide),Zc ((c rfl).2 x f).Ve (by decide)⟩;obtain⟨a,o,q⟩:=apE W mem e;obtain⟨r,t,u⟩:=amJ W mem e;rw[Tq,re,re,W1,T6,o,q,t,u];simp only[re];simp only[al1,re,Tq,Z7]
def ra(k:IntKind)(n:Int):Prop:=k.min<=n/\n<=k.max
def Hh{n:Int}(h:ra .i64 n):∃m:Int64,n=m.toInt:=by
 refine⟨Int64.ofInt n,?_⟩;have a:aF n=n:=by
  unfold aF;rw[br];have b: -9223372036854775808<=n:=h.1;have c:n<=9223372036854775807:=h.2;omega
 rw[Int64.toInt_ofInt,<-Bl];exact a.symm
def aaw{p:I D}:∀{l:I (I D)},p∈l->SizeOf.sizeOf p<=SizeOf.sizeOf l.flatten
 |[],h=>by cases h
 |q::l,h=>by
  have c:∀a b:I D,SizeOf.sizeOf a<=SizeOf.sizeOf (a++b)/\SizeOf.sizeOf b<=SizeOf.sizeOf (a++b):=by
   intro a b
   induction a with
   |nil=>cases b<;>simp only[W2,List.nil.sizeOf_spec,List.cons.sizeOf_spec]<;>omega
   |cons x a d=>simp only[List.cons_append,List.cons.sizeOf_spec];omega
  rw[List.flatten_cons];rcases Za.1 h with rfl|h
  ·exact(c _ _).1
  ·exact Zc (aaw h) (c _ _).2
structure Jn(x:aB):Prop where
 h0:True
 h1:True
def acC{xs:I D}(h:e7 prog 45 xs):∃x:aB,xs=BA x/\Jn x:=by
 obtain⟨parts,rfl,b,a⟩:=h.oB underlying45
 match parts,b with
 |[g,i],_=>
 obtain⟨j,rfl,c⟩:=(a 0 _ _ rfl rfl).pG underlying2;obtain⟨d,rfl⟩:=Hh c;obtain⟨k,rfl,e⟩:=(a 1 _ _ rfl rfl).pG underlying2;obtain⟨f,rfl⟩:=Hh e;exact⟨⟨d,f⟩,rfl,⟨trivial,trivial⟩⟩
structure E3(x:aM):Prop where
 h0:ra .i64 x.bB
 h1:ra .i64 x.bW
 h2:ra .i64 x.ck
 h3:ra .i64 x.ct
 h4:ra .i64 x.cC
def PR{xs:I D}(h:e7 prog 34 xs):∃x:aM,xs=PE x/\E3 x:=by
 obtain⟨parts,rfl,b,a⟩:=h.oB underlying34
 match parts,b with
 |[n,o,q,r,t],_=>
 obtain⟨c,rfl,d⟩:=(a 0 _ _ rfl rfl).pG underlying3;obtain⟨e,rfl,f⟩:=(a 1 _ _ rfl rfl).pG underlying3;obtain⟨g,rfl,i⟩:=(a 2 _ _ rfl rfl).pG underlying3;obtain⟨j,rfl,k⟩:=(a 3 _ _ rfl rfl).pG underlying3;obtain⟨l,rfl,m⟩:=(a 4 _ _ rfl rfl).pG underlying3;exact⟨⟨c,e,g,j,l⟩,rfl,⟨d,f,i,k,m⟩⟩
structure PT(x:dX):Prop where
 h0:x.ay.size<=maxLen
 h1:True
def alW{xs:I D}(h:e7 prog 78 xs):∃x:dX,xs=Hp x/\PT x:=by
 obtain⟨parts,rfl,b,a⟩:=h.oB underlying78
 match parts,b with
 |[g,i],_=>
 obtain⟨c,rfl,d⟩:=(a 0 _ _ rfl rfl).uC underlying9;obtain⟨j,rfl,e⟩:=(a 1 _ _ rfl rfl).pG underlying2;obtain⟨f,rfl⟩:=Hh e;exact⟨⟨c,f⟩,rfl,⟨d,trivial⟩⟩
def aq5{xs:I D}(h:e7 prog 46 xs):∃l:I dX,xs=[.sl (dMonos l)]/\(l.length<=140737488355328/\∀a∈l,PT a):=by
 obtain⟨l,rfl,b,c⟩:=h.pD underlying46;obtain⟨r,rfl,d⟩:=ot (f:=Hp) (Q:=λa=>PT a) l (λx e=>alW (c x e));exact⟨r,by rw[zc],by simpa using b,d⟩
structure vf(x:bE):Prop where
 h0:True
 h1:x.xL.length<=140737488355328/\∀a∈x.xL,PT a
def IL{xs:I D}(h:e7 prog 48 xs):∃x:bE,xs=EE x/\vf x:=by
 obtain⟨parts,rfl,b,a⟩:=h.oB underlying48
 match parts,b with
 |[g,i],_=>
 obtain⟨j,rfl,c⟩:=(a 0 _ _ rfl rfl).pG underlying2;obtain⟨d,rfl⟩:=Hh c;obtain⟨e,rfl,f⟩:=aq5 (a 1 _ _ rfl rfl);exact⟨⟨d,e⟩,rfl,⟨trivial,f⟩⟩
def ab8{xs:I D}(h:e7 prog 81 xs):∃l:I bE,xs=[.sl (fz l)]/\(l.length<=140737488355328/\∀a∈l,vf a):=by
 obtain⟨l,rfl,b,c⟩:=h.pD underlying81;obtain⟨r,rfl,d⟩:=ot (f:=EE) (Q:=λa=>vf a) l (λx e=>IL (c x e));exact⟨r,by rw[zT],by simpa using b,d⟩
structure Lt(x:c8):Prop where
 h0:vf x.bN
 h1:x.de.size<=maxLen
 h2:x.cQ.length<=140737488355328/\∀a∈x.cQ,vf a
def aiC{xs:I D}(h:e7 prog 83 xs):∃x:c8,xs=Ga x/\Lt x:=by
 obtain⟨parts,rfl,b,a⟩:=h.oB underlying83
 match parts,b with
 |[j,k,l],_=>
 obtain⟨c,rfl,d⟩:=IL (a 0 _ _ rfl rfl);obtain⟨e,rfl,f⟩:=(a 1 _ _ rfl rfl).uC underlying9;obtain⟨g,rfl,i⟩:=ab8 (a 2 _ _ rfl rfl);exact⟨⟨c,e,g⟩,rfl,⟨d,f,i⟩⟩
def asW{xs:I D}(h:e7 prog 49 xs):∃l:I c8,xs=[.sl (fc l)]/\(l.length<=140737488355328/\∀a∈l,Lt a):=by
 obtain⟨l,rfl,b,c⟩:=h.pD underlying49;obtain⟨r,rfl,d⟩:=ot (f:=Ga) (Q:=λa=>Lt a) l (λx e=>aiC (c x e));exact⟨r,by rw[yu],by simpa using b,d⟩
inductive zk:az->Prop
 |mk (x:az) (h0:ra .i64 x.aD) (h1:x.ay.size<=maxLen) (h2:Jn x.dP) (h3:E3 x.aH) (h4:vf x.bN) (h5:x.xIdx.length<=140737488355328/\∀a∈x.xIdx,Lt a) (h6:x.bS.length<=140737488355328) (g6:∀a∈x.bS,zk a):zk x
def acU:∀(n:Nat)(xs:I D),SizeOf.sizeOf xs<n->e7 prog 52 xs->∃x:az,xs=fv x/\zk x
 |0,_,h,_=>absurd h (ZG _)
 |n+1,xs,c,h=>by
  obtain⟨parts,rfl,d,a⟩:=h.oB underlying52
  match parts,d with
  |[w,y,z,A,B,C,E],_=>
  obtain⟨e,rfl,g⟩:=(a 0 _ _ rfl rfl).pG underlying3;obtain⟨i,rfl,j⟩:=(a 1 _ _ rfl rfl).uC underlying9;obtain⟨k,rfl,l⟩:=acC (a 2 _ _ rfl rfl);obtain⟨m,rfl,o⟩:=PR (a 3 _ _ rfl rfl);obtain⟨q,rfl,r⟩:=IL (a 4 _ _ rfl rfl);obtain⟨t,rfl,u⟩:=asW (a 5 _ _ rfl rfl);obtain⟨l_,rfl,b,hs_⟩:=(a 6 _ _ rfl rfl).pD underlying50;obtain⟨r_,rfl,hr_⟩:=ot (f:=fv) (Q:=zk) l_ (λx a=>acU n x (by have F:=List.sizeOf_lt_of_mem a;have v:SizeOf.sizeOf [D.sl l_]<n+1:=Nat.lt_of_le_of_lt (aaw (by simp)) c;simp only[List.cons.sizeOf_spec,D.sl.sizeOf_spec,List.nil.sizeOf_spec]at v;omega) (hs_ x a));refine⟨⟨e,i,k,m,q,t,r_⟩,?_,.mk _ g j l o r u (by simpa using b) hr_⟩;show _=fv _;unfold fv;rw[qq];rfl
def anp{xs:I D}(h:e7 prog 52 xs):∃x:az,xs=fv x/\zk x:=acU _ xs (Z0 _) h
def aaz{xs:I D}(h:e7 prog 22 xs):∃l:I so,xs=[.sl (cD l)]/\(l.length<=140737488355328/\∀a∈l,a.size<=maxLen):=by
 obtain⟨l,rfl,b,c⟩:=h.pD underlying22;obtain⟨r,rfl,d⟩:=ot (f:=jf) (Q:=λa=>a.size<=maxLen) l (λx e=>by
  obtain⟨g,rfl,i⟩:=(c x e).uC underlying9;exact⟨g,rfl,i⟩)
 exact⟨r,by rw[mY],by simpa using b,d⟩
structure NM(x:ik):Prop where
 h0:vf x.bN
 h1:True
def ahw{xs:I D}(h:e7 prog 88 xs):∃x:ik,xs=Je x/\NM x:=by
 obtain⟨parts,rfl,b,a⟩:=h.oB underlying88
 match parts,b with
 |[f,g],_=>
 obtain⟨c,rfl,d⟩:=IL (a 0 _ _ rfl rfl);obtain⟨e,rfl⟩:=(a 1 _ _ rfl rfl).am7 underlying4;exact⟨⟨c,e⟩,rfl,⟨d,trivial⟩⟩
def ajt{xs:I D}(h:e7 prog 23 xs):∃l:I ik,xs=[.sl (ox l)]/\(l.length<=140737488355328/\∀a∈l,NM a):=by
 obtain⟨l,rfl,b,c⟩:=h.pD underlying23;obtain⟨r,rfl,d⟩:=ot (f:=Je) (Q:=λa=>NM a) l (λx e=>ahw (c x e));exact⟨r,by rw[AF],by simpa using b,d⟩
structure Pr(x:eX):Prop where
 h0:x.ay.size<=maxLen
 h1:E3 x.aH
 h2:x.aR.length<=140737488355328/\∀a∈x.aR,vf a
def ak3{xs:I D}(h:e7 prog 85 xs):∃x:eX,xs=EO x/\Pr x:=by
 obtain⟨parts,rfl,b,a⟩:=h.oB underlying85
 match parts,b with
 |[j,k,l],_=>
 obtain⟨c,rfl,d⟩:=(a 0 _ _ rfl rfl).uC underlying9;obtain⟨e,rfl,f⟩:=PR (a 1 _ _ rfl rfl);obtain⟨g,rfl,i⟩:=ab8 (a 2 _ _ rfl rfl);exact⟨⟨c,e,g⟩,rfl,⟨d,f,i⟩⟩
def ath{xs:I D}(h:e7 prog 24 xs):∃l:I eX,xs=[.sl (lB l)]/\(l.length<=140737488355328/\∀a∈l,Pr a):=by
 obtain⟨l,rfl,b,c⟩:=h.pD underlying24;obtain⟨r,rfl,d⟩:=ot (f:=EO) (Q:=λa=>Pr a) l (λx e=>ak3 (c x e));exact⟨r,by rw[yE],by simpa using b,d⟩
structure GG(x:dH):Prop where
 h0:x.ay.size<=maxLen
 h1:vf x.eu
def alz{xs:I D}(h:e7 prog 80 xs):∃x:dH,xs=IT x/\GG x:=by
 obtain⟨parts,rfl,b,a⟩:=h.oB underlying80
 match parts,b with
 |[g,i],_=>
 obtain⟨c,rfl,d⟩:=(a 0 _ _ rfl rfl).uC underlying9;obtain⟨e,rfl,f⟩:=IL (a 1 _ _ rfl rfl);exact⟨⟨c,e⟩,rfl,⟨d,f⟩⟩
def aax{xs:I D}(h:e7 prog 43 xs):∃l:I dH,xs=[.sl (gZ l)]/\(l.length<=140737488355328/\∀a∈l,GG a):=by
 obtain⟨l,rfl,b,c⟩:=h.pD underlying43;obtain⟨r,rfl,d⟩:=ot (f:=IT) (Q:=λa=>GG a) l (λx e=>alz (c x e));exact⟨r,by rw[zA],by simpa using b,d⟩
structure Pw(x:bZ):Prop where
 h0:x.ay.size<=maxLen
 h1:E3 x.aH
 h2:x.aR.length<=140737488355328/\∀a∈x.aR,GG a
 h3:x.cl.length<=140737488355328/\∀a∈x.cl,GG a
 h4:ra .i64 x.dF
 h5:zk x.cw
def anu{xs:I D}(h:e7 prog 54 xs):∃x:bZ,xs=Ig x/\Pw x:=by
 obtain⟨parts,rfl,b,a⟩:=h.oB underlying54
 match parts,b with
 |[q,r,t,u,v,w],_=>
 obtain⟨c,rfl,d⟩:=(a 0 _ _ rfl rfl).uC underlying9;obtain⟨e,rfl,f⟩:=PR (a 1 _ _ rfl rfl);obtain⟨g,rfl,i⟩:=aax (a 2 _ _ rfl rfl);obtain⟨j,rfl,k⟩:=aax (a 3 _ _ rfl rfl);obtain⟨l,rfl,m⟩:=(a 4 _ _ rfl rfl).pG underlying3;obtain⟨n,rfl,o⟩:=anp (a 5 _ _ rfl rfl);exact⟨⟨c,e,g,j,l,n⟩,rfl,⟨d,f,i,k,m,o⟩⟩
def arf{xs:I D}(h:e7 prog 25 xs):∃l:I bZ,xs=[.sl (iC l)]/\(l.length<=140737488355328/\∀a∈l,Pw a):=by
 obtain⟨l,rfl,b,c⟩:=h.pD underlying25;obtain⟨r,rfl,d⟩:=ot (f:=Ig) (Q:=λa=>Pw a) l (λx e=>anu (c x e));exact⟨r,by rw[tR],by simpa using b,d⟩
structure acp(x:bo):Prop where
 h0:x.bJ.length<=140737488355328/\∀a∈x.bJ,a.size<=maxLen
 h1:x.dR.length<=140737488355328/\∀a∈x.dR,NM a
 h2:x.bn.length<=140737488355328/\∀a∈x.bn,Pr a
 h3:x.aP.length<=140737488355328/\∀a∈x.aP,Pw a
 h4:x.dC.length<=140737488355328/\∀a∈x.dC,a.size<=maxLen
def asp{xs:I D}(h:e7 prog 27 xs):∃x:bo,xs=arF x/\acp x:=by
 obtain⟨parts,rfl,b,a⟩:=h.oB underlying27
 match parts,b with
 |[n,o,q,r,t],_=>
 obtain⟨c,rfl,d⟩:=aaz (a 0 _ _ rfl rfl);obtain⟨e,rfl,f⟩:=ajt (a 1 _ _ rfl rfl);obtain⟨g,rfl,i⟩:=ath (a 2 _ _ rfl rfl);obtain⟨j,rfl,k⟩:=arf (a 3 _ _ rfl rfl);obtain⟨l,rfl,m⟩:=aaz (a 4 _ _ rfl rfl);exact⟨⟨c,e,g,j,l⟩,rfl,⟨d,f,i,k,m⟩⟩
structure NB(x:aJ):Prop where
 h0:x.ay.size<=maxLen
 h1:True
def aqV{xs:I D}(h:e7 prog 75 xs):∃x:aJ,xs=jG x/\NB x:=by
 obtain⟨parts,rfl,b,a⟩:=h.oB underlying75
 match parts,b with
 |[g,i],_=>
 obtain⟨c,rfl,d⟩:=(a 0 _ _ rfl rfl).uC underlying9;obtain⟨j,rfl,e⟩:=(a 1 _ _ rfl rfl).pG underlying2;obtain⟨f,rfl⟩:=Hh e;exact⟨⟨c,f⟩,rfl,⟨d,trivial⟩⟩
def anK{xs:I D}(h:e7 prog 28 xs):∃l:I aJ,xs=[.sl (aS l)]/\(l.length<=140737488355328/\∀a∈l,NB a):=by
 obtain⟨l,rfl,b,c⟩:=h.pD underlying28;obtain⟨r,rfl,d⟩:=ot (f:=jG) (Q:=λa=>NB a) l (λx e=>aqV (c x e));exact⟨r,by rw[sk],by simpa using b,d⟩
def ar5{xs:I D}(h:e7 prog 35 xs):∃l:I Int,xs=[.sl (bH l)]/\(l.length<=140737488355328/\∀a∈l,ra .i64 a):=by
 obtain⟨l,rfl,b,c⟩:=h.pD underlying35;obtain⟨r,rfl,d⟩:=ot (f:=fk) (Q:=λa=>ra .i64 a) l (λx e=>by
  obtain⟨g,rfl,i⟩:=(c x e).pG underlying3;exact⟨g,rfl,i⟩)
 exact⟨r,by rw[pk],by simpa using b,d⟩
def aqa{xs:I D}(h:e7 prog 36 xs):∃l:I aB,xs=[.sl (eC l)]/\(l.length<=140737488355328/\∀a∈l,Jn a):=by
 obtain⟨l,rfl,b,c⟩:=h.pD underlying36;obtain⟨r,rfl,d⟩:=ot (f:=BA) (Q:=λa=>Jn a) l (λx e=>acC (c x e));exact⟨r,by rw[uQ],by simpa using b,d⟩
structure afb(x:bk):Prop where
 h0:E3 x.aH
 h1:x.aR.length<=140737488355328/\∀a∈x.aR,ra .i64 a
 h2:x.eD.length<=140737488355328/\∀a∈x.eD,Jn a
def asr{xs:I D}(h:e7 prog 38 xs):∃x:bk,xs=cA x/\afb x:=by
 obtain⟨parts,rfl,b,a⟩:=h.oB underlying38
 match parts,b with
 |[j,k,l],_=>
 obtain⟨c,rfl,d⟩:=PR (a 0 _ _ rfl rfl);obtain⟨e,rfl,f⟩:=ar5 (a 1 _ _ rfl rfl);obtain⟨g,rfl,i⟩:=aqa (a 2 _ _ rfl rfl);exact⟨⟨c,e,g⟩,rfl,⟨d,f,i⟩⟩
structure Px(x:aL):Prop where
 h0:x.ay.size<=maxLen
 h1:afb x.xTensor
def aos{xs:I D}(h:e7 prog 56 xs):∃x:aL,xs=Io x/\Px x:=by
 obtain⟨parts,rfl,b,a⟩:=h.oB underlying56
 match parts,b with
 |[g,i],_=>
 obtain⟨c,rfl,d⟩:=(a 0 _ _ rfl rfl).uC underlying9;obtain⟨e,rfl,f⟩:=asr (a 1 _ _ rfl rfl);exact⟨⟨c,e⟩,rfl,⟨d,f⟩⟩
def ajc{xs:I D}(h:e7 prog 29 xs):∃l:I aL,xs=[.sl (bm l)]/\(l.length<=140737488355328/\∀a∈l,Px a):=by
 obtain⟨l,rfl,b,c⟩:=h.pD underlying29;obtain⟨r,rfl,d⟩:=ot (f:=Io) (Q:=λa=>Px a) l (λx e=>aos (c x e));exact⟨r,by rw[tQ],by simpa using b,d⟩
def ai9:I TypeId:=[2,3,4,9,22,23,24,25,27,28,29,34,35,36,38,43,45,46,48,49,50,52,54,56,75,78,80,81,83,85,88]
def R1:Ry prog ai9=true:=by kernel_rfl
def ai6{e:az}(h:zk e):ja rQ e:=by
 induction h with
 |mk x m n o q f c g r i=>
  intro y b;rcases Za.1 b with rfl|b
  ·exact⟨f.h1.1,c.1,λz d=>⟨(c.2 z d).h0.h1.1,(c.2 z d).h2.1,λl j=>((c.2 z d).h2.2 l j).h1.1⟩,g⟩
  ·obtain⟨a,k,b⟩:=LU b;exact i a k y b
noncomputable def RH(d:bZ):Nat:=3*SizeOf.sizeOf d.cw+2
def aat:∀{l:I bZ}{d:bZ},d∈l->RH d<=(l.map RH).sum
 |x::l,d,h=>by
  rw[ZS,List.sum_cons];rcases Za.1 h with rfl|h
  ·omega
  ·have:=aat h;omega
noncomputable def aap(p:bo):Nat:=(p.aP.map RH).sum
def as2(p:bo)(b:I aJ)(m:I aL)(h:acp p)(_:b.length<=140737488355328/\∀a∈b,NB a)(_:m.length<=140737488355328/\∀a∈m,Px a):AFn prog 5 [c6 p,.d (.sl (aS b)),.d (.sl (bm m))] (·= .d (.v (.bool true))):=by
 refine apr true (amL (9223372036854775900+aap p) p b m (by omega) (λd c=>⟨ai6 (h.h3.2 d c).h5,?_⟩));have e:3*SizeOf.sizeOf d.cw+2<=aap p:=aat c;omega
end Go.Proofs.YtnnapanbbbcalaaGreatDoor
