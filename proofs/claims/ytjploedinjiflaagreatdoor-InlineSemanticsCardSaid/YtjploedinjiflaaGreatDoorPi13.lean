/-
  Part 13 of the proof.
-/
import Derived.Test.YtjploedinjiflaaGreatDoorPi12
set_option linter.defProp false
namespace Go.Proofs.YtjploedinjiflaaGreatDoor
open Go.RowKit
set_option maxRecDepth 100000
set_option linter.unusedSimpArgs false
set_option linter.unusedVariables false
def adO:∀{l:U aO}{s s':so},bL s=bL s'->dY l s=dY l s'
 |[],_,_,_=>rfl
 |x::r,s,s',h=>by unfold dY;rw[h,adO (l:=r) h]
structure CK(mem:List aO)(kv:List (ByteArray×bo)):Prop where
 ok:∀p∈kv,dY mem p.1=some p.2/\jD p.2=true
 nd:(kv.map λp=>bL p.1).Nodup
def CK.nil(mem:U aO):CK mem []:=⟨λp h=>(by cases h),by simp⟩
def agl{α:Type}:∀{l m:U α},l.Nodup->(∀x∈l,x∈m)->l.length<=m.length
 |[],m,_,_=>Wl _
 |x::l,m,h,f=>by
  have i:=f x Zt;obtain⟨a,b,rfl⟩:=List.append_of_mem i;rw[List.nodup_cons]at h;have:=agl (l:=l) (m:=a++b) h.2 λy g=>by
   have d:=f y (Zk _ g);rw[ZM,Za]at d;rw[ZM];rcases d with d|rfl|d
   ·exact .inl d
   ·exact absurd g h.1
   ·exact .inr d
  simp only[Zi,Zp]at this ⊢;omega
def CK.len{mem:U aO}{d:U (so×bo)}(h:CK mem d):d.length<=mem.length:=by
 have:=agl h.nd (m:=mem.map λx=>bL x.ar) λy f=>by
  obtain⟨p,g,rfl⟩:=UZ.1 f;obtain⟨x,i,_,e⟩:=ID (h.ok p g).1;exact UZ.2 ⟨x,i,e⟩
 simpa using this
def adE{mem:U aO}{s:so}{d:bo}:∀{f:U (so×bo)},(∀p∈f,dY mem p.1=some p.2/\jD p.2=true)->nj f s=true->dY mem s=some (ic f s d)/\jD (ic f s d)=true
 |[],_,h=>by cases h
 |(k,t)::f,g,h=>by
  unfold nj at h;unfold ic;cases hb:(bL k==bL s)with
  |true=>
   rw[Tj];have:=g (k,t) Zt;rw[TC]at hb;rw[<-adO hb];exact this
  |false=>
   rw[hb]at h;simp only[Tf,c6]at h ⊢;exact adE (λp i=>g p (Zk _ i)) h
def av1{s:so}:∀{f:U (so×bo)},nj f s=false->bL s ∉ f.map λp=>bL p.1
 |[],_,h=>by cases h
 |(k,t)::f,d,h=>by
  unfold nj at d;rw[ZY,Za]at h;cases hb:(bL k==bL s)with
  |true=>rw[hb]at d;simp at d
  |false=>
   rw[hb]at d;simp only[Tf,c6]at d;rcases h with h|h
   ·rw[h]at hb;simp at hb
   ·exact av1 d h
def oK{α β:Type}(r:Except Int α)(d:Int)(b:β)(f:α->β->Prop):Prop:=match r with
 | .ok x=>d=0/\f x b
 | .error z=>d=z/\z≠0
def av0{mem:U aO}{s:so}{z:Int}(h:j7 mem s= .error z):z≠0:=by
 unfold j7 at h;split at h;{cases h;decide}
 ·next t e=>
  cases hb:jD t<;>rw[hb]at h<;>cases h
  decide
def N2{mem:U aO}{s:so}{t:bo}(h:j7 mem s= .ok t):dY mem s=some t/\jD t=true:=by
 unfold j7 at h;split at h;{cases h}
 ·next d e=>
  cases hb:jD d<;>rw[hb]at h<;>cases h
  exact⟨e,hb⟩
def acz(N:Nat)(n:2147483648<N)(mem:U aO)(q:mem.length<=4611686018427387904)(s:so)(g:U (so×bo))(f:CK mem g):
 ∃t k l,Hm N s mem g=some (t,k,l)/\CK mem l/\oK (j7 mem s) k t (λx y=>y=x):=by
 unfold Hm;cases m:nj g s with
 |true=>
  obtain⟨h,i⟩:=adE (d:=(⟨(⟨0,0,0,0,0⟩:aQ),[],[]⟩:bo)) f.ok m;refine⟨_,_,_,rfl,f,?_⟩;unfold j7;rw[h];simp only[i,Tj];exact⟨rfl,rfl⟩
 |false=>
  rw[Tf,CQ,re];unfold j7;cases o:dY mem s with
  |none=>exact⟨_,_,_,rfl,f,rfl,by decide⟩
  |some t=>
   simp only[Tj];obtain⟨e,h,i⟩:=WE N n t;rw[h,re,i];cases ht:jD t with
   |false=>exact⟨_,_,_,rfl,f,rfl,by decide⟩
   |true=>
    have r:=f.len;rw[VX,Tf,show Nat.blt g.length 9223372036854775807=true by rw[Nat.blt_eq];omega,Tj];refine⟨_,_,_,rfl,⟨λp j=> ?_,?_⟩,rfl,rfl⟩
    ·rcases Za.1 j with rfl|j
     ·exact⟨o,ht⟩
     ·exact f.ok p j
    ·rw[ZY,List.nodup_cons];exact⟨av1 m,f.nd⟩
def l8(env:U aR):U aK->U Int->Int->Except Int Int
 |[],_,a=>.ok a
 |_::_,[],a=>.ok a
 |l::f,d::g,a=>bif (db l env).2 !=0 then .error (db l env).2 else bif decide ((db l env).1.toInt<0)||decide ((db l env).1.toInt>=d)then .error 12 else l8 env f g (a*d+(db l env).1.toInt)
def JP(d:Int)(f:U Int):(d::f).foldl (·*·) 1=d*f.foldl (·*·) 1:=by rw[List.foldl_cons,cH,PL]
def OD{a n d p q:Int}(f:0<=a)(ha:a<p)(k:0<=n)(l:n<d)(g:1<=q)(h:p*(d*q)<=4096):0<=a*d+n/\a*d+n<p*d/\(p*d)*q<=4096/\aY (aY (a*d)+n)=a*d+n:=by
 have m:0<=a*d:=Int.mul_nonneg f k7;have i:(a+1)*d<=p*d:=Int.mul_le_mul_of_nonneg_right k7 k7;rw[Int.add_mul,cH]at i;have j:(p*d)*q<=4096:=by rw[b5];exact h
 have o:(p*d)*1<=(p*d)*q:=Y3 g k7;refine⟨by omega,by omega,j,?_⟩;rw[tP (n:=a*d) k7 k7,tP k7 k7]
def ail(N:Nat)(a:Int)(n:Int64)(d:Int):Ij N a n d=some (bif decide (n.toInt<0)||decide (n.toInt>=d)then(0,12)else(aY (aY (a*d)+n.toInt),0)):=by
 unfold Ij;cases decide (n.toInt<0)with
 |true=>rfl
 |false=>
  rw[Tf,re,c6];cases decide (n.toInt>=d)<;>rfl
def aaP(r:Except Int Int)(p:Int):Prop:=∀a,r= .ok a->0<=a/\a<p
def aaW(env:U aR):∀(h:U aK)(f:U Int)(a p:Int),0<=a->a<p->(∀n∈f,1<=n)->h.length=f.length->p*f.foldl (·*·) 1<=4096->aaP (l8 env h f a) (p*f.foldl (·*·) 1)
 |[],[],a,p,i,j,_,_,_=>λb hb=>by cases hb;rw[List.foldl_nil,Int.mul_one];exact⟨i,j⟩
 |[],_::_,a,p,_,_,_,g,_=>by simp at g
 |_::_,[],a,p,_,_,_,g,_=>by simp at g
 |l::h,d::f,a,p,i,j,o,g,q=>by
  intro b hb;unfold l8 at hb;cases r:((db l env).2 !=0)with
  |true=>rw[r]at hb;cases hb
  |false=>
   rw[r,Tf]at hb;cases k:(decide ((db l env).1.toInt<0)||decide ((db l env).1.toInt>=d))with
   |true=>rw[k]at hb;cases hb
   |false=>
    rw[k,Tf]at hb;rw[Yy,UF,UF]at k;rw[JP]at q ⊢;have u:=Cs λn m=>o n (Zk _ m);obtain⟨v,w,x,_⟩:=OD (n:=(db l env).1.toInt) i j k7 k7 u q;have:=aaW env h f _ _ v w (λn m=>o n (Zk _ m)) (by simpa using g) x b hb;rw[b5]at this;exact this
def wU(n ext:Int):Int:=max 0 (min n (ext-1))
def gS(mem:U aO)(env:U aR)(x:aT)(ext:Int):Except Int Int64:=match j7 mem x.bp with
 | .error z=>.error z
 | .ok t=>bif t.aw.bt !=3 then .error 10 else bif (x.bC.length:Int) !=(t.aJ.length:Int)then .error 11 else match l8 env x.bC t.aJ 0 with
   | .error z=>.error z
   | .ok a=>match t.fE[a.toNat]? with
     |some v=>.ok (Int64.ofInt (wU v.xN.toInt ext))
     |none=>.error 1
def anr{n ext:Int}(h1:1<=ext)(d:ext<=4096):(if(if(aY (ext-(1:Int)))<n then(aY (ext-(1:Int)))else n)>0then(if(aY (ext-(1:Int)))<n then(aY (ext-(1:Int)))else n)else(0:Int))=wU n ext:=by
 rw[tP k7 k7];unfold wU;split<;>split<;>omega
def ap0{n ext:Int}(h1:1<=ext)(d:ext<=4096):(aY (wU n ext)==wU n ext)=true:=by
 rw[TC];exact tP (by unfold wU;omega) (by unfold wU;omega)
structure ET(t:bo):Prop where
 ty:dD t.aw=true
 sh:adR t.aJ
 len:(t.fE.length:Int)=t.aJ.foldl (·*·) 1
 WC:∀v∈t.fE,dj t.aw v=true
def FM{t:bo}(h:jD t=true):ET t:=by
 unfold jD at h;simp only[Zo,TC]at h;exact⟨h.1,Tm h.2.1,h.2.2.1,Zc.1 h.2.2.2⟩
def ET.get{t:bo}(h:ET t){a:Int}(f:0<=a)(h1:a<t.aJ.foldl (·*·) 1):∃v,t.fE[a.toNat]?=some v/\v∈t.fE:=by
 have g:=h.len;have d:a.toNat<t.fE.length:=by omega
 exact⟨t.fE[a.toNat],Zd d,List.getElem_mem d⟩
def ae7(N:Nat)(A:2147483648<N)(env:U aR)(g:bo×Int×U (so×bo))(j:ET g.1)(ext:Int)(r:1<=ext)(u:ext<=4096):∀(h:U aK)(k:Nat)(f:U Int)(a p:Int),(∀l∈h,l.xL.length<=4611686018427387904)->g.1.aJ.drop k=f->h.length=f.length->0<=a->a<p->p*f.foldl (·*·) 1=g.1.aJ.foldl (·*·) 1->
 Ga N g ext env h k a=some (match l8 env h f a with| .error z=>(0,z,g.2.2)| .ok b=>match g.1.fE[b.toNat]? with|some v=>(Int64.ofInt (wU v.xN.toInt ext),0,g.2.2)|none=>(0,1,g.2.2))
 |[],k,f,a,p,_,m,o,q,B,i=>by
  cases f with
  |cons=>simp at o
  |nil=>
   rw[List.foldl_nil,Int.mul_one]at i;obtain⟨v,C,_⟩:=j.get q k7;unfold Ga l8;rw[eD q,Tj,C,re,anr r u,ap0 r u,Tj];simp only[C]
 |l::h,k,f,a,p,E,m,o,q,B,i=>by
  cases f with
  |nil=>simp at o
  |cons d f=>
   have F:=bA m;have G:∀n∈d::f,1<=n:=λn w=>j.sh.pos n (a6 (m▸w));unfold Ga l8;rw[GF N A l env (E l Zt),re];cases R:((db l env).2 !=0)with
   |true=>rfl
   |false=>
    rw[Tf,Tf,ZR,F,re,ail,re];cases H:(decide ((db l env).1.toInt<0)||decide ((db l env).1.toInt>=d))with
    |true=>rfl
    |false=>
     rw[Tf,Tf];rw[Yy,UF,UF]at H;rw[JP]at i;have J:=Cs λn w=>G n (Zk _ w);obtain⟨K,L,S,M⟩:=OD (n:=(db l env).1.toInt) (d:=d) q B k7 k7 J (by rw[i];exact j.sh.le);simp only;rw[show((0:Int) !=0)=false from rfl,Tf,M];exact ae7 N A env g j ext r u h (k+1) f _ (p*d) (λx Q=>E x (Zk _ Q)) (kG m) (by simpa using o) K L (by rw[b5];exact i)
def aih{mem:U aO}{env:U aR}{x:aT}{ext z:Int}(h:gS mem env x ext= .error z):z≠0:=by
 unfold gS at h;split at h;{next e=>cases h;exact av0 e}
 ·next t e=>
  cases k:(t.aw.bt !=3)with
  |true=>rw[k]at h;cases h;decide
  |false=>
   rw[k,Tf]at h;cases m:((x.bC.length:Int) !=(t.aJ.length:Int))with
   |true=>rw[m]at h;cases h;decide
   |false=>
    rw[m,Tf]at h;split at h
    ·next n=>
     cases h
     have i:∀(g:U aK)(f:U Int)(a:Int),l8 env g f a= .error z->z≠0:=by
      intro g
      induction g with
      |nil=>intro f a h;cases h
      |cons l g q=>
       intro f a h;cases f with
       |nil=>cases h
       |cons d f=>
        unfold l8 at h;cases j:((db l env).2 !=0)with
        |true=>rw[j]at h;cases h;simpa using j
        |false=>
         rw[j,Tf]at h;cases o:(decide ((db l env).1.toInt<0)||decide ((db l env).1.toInt>=d))with
         |true=>rw[o]at h;cases h;decide
         |false=>rw[o,Tf]at h;exact q _ _ h
     exact i _ _ _ n
    ·next b n=>
     split at h;{cases h};{cases h;decide}
def am8(N:Nat)(m:2147483648<N)(mem:U aO)(A:mem.length<=4611686018427387904)(env:U aR)(x:aT)(B:∀l∈x.bC,l.xL.length<=4611686018427387904)(ext:Int)(C:1<=ext)(E:ext<=4096)(j:U (so×bo))(F:CK mem j):
 ∃n k f,J2 N env x ext mem j=some (n,k,f)/\CK mem f/\oK (gS mem env x ext) k n (λa b=>b=a):=by
 unfold J2;obtain⟨t,k,f,G,d,g⟩:=acz N m mem A x.bp j F;rw[G,re];unfold gS;cases h:j7 mem x.bp with
 |error z=>
  rw[h]at g;obtain⟨rfl,o⟩:=g;simp only;rw[Ui.2 o,Tj];exact⟨_,_,_,rfl,d,rfl,o⟩
 |ok M=>
  rw[h]at g;obtain⟨rfl,rfl⟩:=g;simp only;rw[show((0:Int) !=0)=false from rfl,Tf];have i:=FM (N2 h).2;cases H:(t.aw.bt !=3)with
  |true=>exact⟨_,_,_,rfl,d,rfl,by decide⟩
  |false=>
   rw[Tf,Tf];cases q:((x.bC.length:Int) !=(t.aJ.length:Int))with
   |true=>exact⟨_,_,_,rfl,d,rfl,by decide⟩
   |false=>
    rw[Tf,Tf];have r:x.bC.length=t.aJ.length:=by
      have:(x.bC.length:Int)=t.aJ.length:=by simpa using q
      omega
    rw[ae7 N m env (t,0,f) i ext C E x.bC 0 t.aJ 0 1 B rfl r gy gy (cH _)];have J:=aaW env x.bC t.aJ 0 1 gy gy i.sh.pos r (by rw[cH];exact i.sh.le);cases u:l8 env x.bC t.aJ 0 with
    |error z=>
     refine⟨_,_,_,rfl,d,rfl,?_⟩;refine aih (mem:=mem) (env:=env) (x:=x) (ext:=ext) ?_;unfold gS;rw[h];simp only[H,q,Tf,u]
    |ok b=>
     obtain⟨K,w⟩:=J b u;rw[cH]at w;obtain⟨v,L,_⟩:=i.get K w;simp only[L];exact⟨_,_,_,rfl,d,rfl,rfl⟩
def mr(mem:U aO)(env:U aR)(x:aT)(d:Int):Except Int Int64:=bif bL x.bp==bL (bs [])then(bif (db x.aU env).2 !=0 then .error (db x.aU env).2 else .ok (db x.aU env).1)else gS mem env x d
structure ahz(x:aT):Prop where
 l:x.aU.xL.length<=4611686018427387904
 a:∀l∈x.bC,l.xL.length<=4611686018427387904
def auC{mem:U aO}{env:U aR}{x:aT}{f z:Int}(h:mr mem env x f= .error z):z≠0:=by
 unfold mr at h;cases hb:(bL x.bp==bL (bs []))with
 |true=>
  rw[hb,Tj]at h;cases d:((db x.aU env).2 !=0)with
  |true=>rw[d]at h;cases h;simpa using d
  |false=>rw[d]at h;cases h
 |false=>rw[hb,Tf]at h;exact aih h
def ZD(mem:U aO)(env:U aR):U aT->U Int->Int->Except Int Int
 |[],_,a=>.ok a
 |_::_,[],a=>.ok a
 |x::f,d::g,a=>match mr mem env x d with
  | .error z=>.error z
  | .ok n=>bif decide (n.toInt<0)||decide (n.toInt>=d)then .error 12 else ZD mem env f g (a*d+n.toInt)
def aeg(mem:U aO)(env:U aR):∀(xs:U aT)(f:U Int)(a z:Int),ZD mem env xs f a= .error z->z≠0
 |[],_,_,_,h=>by cases h
 |_::_,[],_,_,h=>by cases h
 |x::xs,d::f,a,z,h=>by
  unfold ZD at h;cases g:mr mem env x d with
  |error y=>rw[g]at h;cases h;exact auC g
  |ok n=>
   rw[g]at h;simp only at h;cases i:(decide (n.toInt<0)||decide (n.toInt>=d))with
   |true=>rw[i]at h;cases h;decide
   |false=>rw[i,Tf]at h;exact aeg mem env xs f _ z h
def aaw(mem:U aO)(env:U aR):∀(xs:U aT)(f:U Int)(a p:Int),0<=a->a<p->(∀n∈f,1<=n)->xs.length=f.length->p*f.foldl (·*·) 1<=4096->aaP (ZD mem env xs f a) (p*f.foldl (·*·) 1)
 |[],[],a,p,h,i,_,_,_=>λb hb=>by cases hb;rw[List.foldl_nil,Int.mul_one];exact⟨h,i⟩
 |[],_::_,a,p,_,_,_,g,_=>by simp at g
 |_::_,[],a,p,_,_,_,g,_=>by simp at g
 |x::xs,d::f,a,p,h,i,l,g,m=>by
  intro b hb;unfold ZD at hb;cases o:mr mem env x d with
  |error y=>rw[o]at hb;cases hb
  |ok n=>
   rw[o]at hb;simp only at hb;cases j:(decide (n.toInt<0)||decide (n.toInt>=d))with
   |true=>rw[j]at hb;cases hb
   |false=>
    rw[j,Tf]at hb;rw[Yy,UF,UF]at j;rw[JP]at m ⊢;have q:=Cs λn k=>l n (Zk _ k);obtain⟨r,u,v,_⟩:=OD (n:=n.toInt) (d:=d) h i k7 k7 q m;have:=aaw mem env xs f _ _ r u (λn k=>l n (Zk _ k)) (by simpa using g) v b hb;rw[b5]at this;exact this
def alJ{f:U Int}(j:∀n∈f,1<=n){p d q:Int}(g:1<=p)(h1:1<=d)(i:1<=q)(h:p*(d*q)<=4096):d<=4096:=by
 have k:d*1<=d*q:=Y3 i k7;have l:1*(d*q)<=p*(d*q):=Int.mul_le_mul_of_nonneg_right g k7;omega
def ahJ(N:Nat)(K:2147483648<N)(mem:U aO)(R:mem.length<=4611686018427387904)(env:U aR)(g:bo×Int×U (so×bo))(B:ET g.1):∀(xs:U aT)(k:Nat)(f:U Int)(a p:Int)(o:U (so×bo)),(∀x∈xs,ahz x)->g.1.aJ.drop k=f->xs.length=f.length->0<=a->a<p->p*f.foldl (·*·) 1=g.1.aJ.foldl (·*·) 1->CK mem o->
 ∃t h i,se N g env mem xs k a o=some (t,h,i)/\CK mem i/\oK (ZD mem env xs f a) h t (λb y=>∃v,g.1.fE[b.toNat]?=some v/\y=(⟨v,g.1.aw⟩:fG))
 |[],k,f,a,p,o,_,C,E,F,S,j,G=>by
  cases f with
  |cons=>simp at E
  |nil=>
   rw[List.foldl_nil,Int.mul_one]at j;obtain⟨v,T,_⟩:=B.get F k7;unfold se ZD;rw[eD F,Tj,T,re];exact⟨_,_,_,rfl,G,rfl,v,T,rfl⟩
 |x::xs,k,f,a,p,o,W,C,E,F,S,j,G=>by
  cases f with
  |nil=>simp at E
  |cons d f=>
   have fQ:=bA C;have L:∀n∈d::f,1<=n:=λn q=>B.sh.pos n (a6 (C▸q));have wJ:=L d Zt;have hp0:=j;rw[JP]at j;have hq:=Cs λn q=>L n (Zk _ q);have r:p*(d*f.foldl (·*·) 1)<=4096:=by rw[j];exact B.sh.le
   have M:=alJ (λn q=>L n (Zk _ q)) k7 wJ hq r;have hx:=W x Zt;have u:∀(h:Int)(n:Int64)(H:U (so×bo)),CK mem H->oK (mr mem env x d) h n (λa b=>b=a)->
       ∃t w i,Ef N g k a (λbS ee=>se N g env mem xs (k+1) bS ee) h n H=some (t,w,i)/\CK mem i/\oK (ZD mem env (x::xs) (d::f) a) w t (λb y=>∃v,g.1.fE[b.toNat]?=some v/\y=(⟨v,g.1.aw⟩:fG)):=by
    intro h n H Q J;unfold Ef ZD;cases A:mr mem env x d with
    |error z=>
     rw[A]at J;obtain⟨rfl,hz⟩:=J;rw[Ui.2 hz,Tj];exact⟨_,_,_,rfl,Q,rfl,hz⟩
    |ok m=>
     rw[A]at J;obtain⟨rfl,rfl⟩:=J;rw[show((0:Int) !=0)=false from rfl,Tf,ZR,fQ,re,ail,re];simp only;cases hc:(decide (n.toInt<0)||decide (n.toInt>=d))with
     |true=>exact⟨_,_,_,rfl,Q,rfl,by decide⟩
     |false=>
      rw[Tf,Tf];rw[Yy,UF,UF]at hc;obtain⟨k1,k2,k3,k4⟩:=OD (n:=n.toInt) (d:=d) F S k7 k7 hq r;simp only;rw[show((0:Int) !=0)=false from rfl,Tf,k4];exact ahJ N K mem R env g B xs (k+1) f _ (p*d) H (λy hy=>W y (Zk _ hy)) (kG C) (by simpa using E) k1 k2 (by rw[b5];exact j) Q
   unfold se;cases hb:(bL x.bp==bL (bs []))with
   |true=>
    rw[Tj,GF N K _ _ hx.l,re];refine u _ _ _ G ?_;unfold mr;rw[hb,Tj];cases he:((db x.aU env).2 !=0)with
    |true=>exact⟨rfl,by simpa using he⟩
    |false=>exact⟨by simpa using he,rfl⟩
   |false=>
    rw[Tf,ZR,fQ,re];obtain⟨n,h,i,h1,h2,h3⟩:=am8 N K mem R env x hx.a d wJ M o G;rw[h1,re];refine u _ _ _ h2 ?_;unfold mr;rw[hb,Tf];exact h3
def tB(mem:U aO)(env:U aR)(e:au):Except Int (aH×aQ):=match j7 mem e.ar with
 | .error z=>.error z
 | .ok t=>bif (e.xIdx.length:Int) !=(t.aJ.length:Int)then .error 11 else match ZD mem env e.xIdx t.aJ 0 with
   | .error z=>.error z
   | .ok a=>match t.fE[a.toNat]? with
     |some v=>.ok (v,t.aw)
     |none=>.error 1
def O3:aQ:=⟨3,0,0,0,0⟩
def l6(mem:U aO)(env:U aR)(e:au):Except Int (aH×aQ):=bif e.aA==1 then .ok (e.cU,e.aw)else bif e.aA==2 then(bif (db e.aU env).2 !=0 then .error (db e.aU env).2 else bif decide ((db e.aU env).1.toInt>2147483647)||decide ((db e.aU env).1.toInt< -2147483647)then .error 3 else .ok (⟨(db e.aU env).1,1⟩,O3))else tB mem env e
structure TL(e:au):Prop where
 l:e.aU.xL.length<=4611686018427387904
 x:∀x∈e.xIdx,ahz x
def auj(N:Nat)(l:2147483648<N)(mem:U aO)(m:mem.length<=4611686018427387904)(env:U aR)(e:au)(r:TL e)(i:U (so×bo))(u:CK mem i):
 ∃t f d,Iz N env e mem i=some (t,f,d)/\CK mem d/\oK (tB mem env e) f t (λx y=>y=(⟨x.1,x.2⟩:fG)):=by
 unfold Iz;obtain⟨t,f,d,w,j,g⟩:=acz N l mem m e.ar i u;rw[w,re];unfold tB;cases k:j7 mem e.ar with
 |error z=>
  rw[k]at g;obtain⟨rfl,n⟩:=g;simp only;rw[Ui.2 n,Tj];exact⟨_,_,_,rfl,j,rfl,n⟩
 |ok F=>
  rw[k]at g;obtain⟨rfl,rfl⟩:=g;simp only;rw[show((0:Int) !=0)=false from rfl,Tf];have A:=FM (N2 k).2;cases B:((e.xIdx.length:Int) !=(t.aJ.length:Int))with
  |true=>exact⟨_,_,_,rfl,j,rfl,by decide⟩
  |false=>
   rw[Tf,Tf];have C:e.xIdx.length=t.aJ.length:=by
     have:(e.xIdx.length:Int)=t.aJ.length:=by simpa using B
     omega
   obtain⟨y,f,G,q1,E,h⟩:=ahJ N l mem m env (t,0,d) A e.xIdx 0 t.aJ 0 1 d r.x rfl C gy gy (cH _) j;rw[q1];refine⟨_,_,_,rfl,E,?_⟩;cases o:ZD mem env e.xIdx t.aJ 0 with
   |error z=>rw[o]at h;exact h
   |ok b=>
    rw[o]at h;obtain⟨rfl,v,q,rfl⟩:=h;simp only at q ⊢;rw[q];exact⟨rfl,rfl⟩
def aj0(N:Nat)(j:2147483648<N)(mem:U aO)(n:mem.length<=4611686018427387904)(env:U aR)(e:au)(k:TL e)(g:U (so×bo))(d:CK mem g):
 ∃t h i,JY N env e mem g=some (t,h,i)/\CK mem i/\oK (l6 mem env e) h t (λx y=>y=(⟨x.1,x.2⟩:fG)):=by
 unfold JY l6;cases r:(e.aA==1)with
 |true=>exact⟨_,_,_,rfl,d,rfl,rfl⟩
 |false=>
  rw[Tf,Tf];cases u:(e.aA==2)with
  |true=>
   rw[Tj,Tj,GF N j _ _ k.l,re];unfold Py;cases m:((db e.aU env).2 !=0)with
   |true=>
    have f:(db e.aU env).2≠0:=by simpa using m
    rw[show((db e.aU env).2==0)=false by rw[Tn];exact f,Tf,re,Tf];exact⟨_,_,_,rfl,d,rfl,f⟩
   |false=>
    have f:(db e.aU env).2=0:=by simpa using m
    rw[f,show((0:Int)==0)=true from rfl,Tj,Tf];cases v:decide ((db e.aU env).1.toInt>2147483647)with
    |true=>exact⟨_,_,_,rfl,d,rfl,by decide⟩
    |false=>
     rw[Tf,re,c6];cases w:decide ((db e.aU env).1.toInt< -2147483647)with
     |true=>exact⟨_,_,_,rfl,d,rfl,by decide⟩
     |false=>exact⟨_,_,_,rfl,d,rfl,rfl⟩
  |false=>
   rw[Tf,Tf];obtain⟨t,h,i,q1,o,q⟩:=auj N j mem n env e k g d;rw[q1,re];exact⟨_,_,_,rfl,o,q⟩
def acr{mem:U aO}{env:U aR}{e:au}(h1:e.aA=1->dD e.aw=true/\dj e.aw e.cU=true){x:aH×aQ}(h:l6 mem env e= .ok x):dD x.2=true/\dj x.2 x.1=true:=by
 unfold l6 at h;cases d:(e.aA==1)with
 |true=>
  rw[d,Tj]at h;cases h;exact h1 (by simpa using d)
 |false=>
  rw[d,Tf]at h;cases j:(e.aA==2)with
  |true=>
   rw[j,Tj]at h;cases k:((db e.aU env).2 !=0)with
   |true=>rw[k]at h;cases h
   |false=>
    rw[k,Tf]at h;cases f:(decide ((db e.aU env).1.toInt>2147483647)||decide ((db e.aU env).1.toInt< -2147483647))with
    |true=>rw[f]at h;cases h
    |false=>
     rw[f,Tf]at h;cases h;rw[Yy,UF,UF]at f;refine⟨rfl,?_⟩;unfold dj O3;simp only;rw[show((3:Int)==2)=false from rfl,Tf,show((3:Int)==3)=true from rfl,Tj,eD (show(db e.aU env).1.toInt<=2147483647 by omega),eD (show-2147483647<=(db e.aU env).1.toInt by omega)];rfl
  |false=>
   rw[j,Tf]at h;unfold tB at h;cases g:j7 mem e.ar with
   |error z=>rw[g]at h;cases h
   |ok t=>
    rw[g]at h;simp only at h;have l:=FM (N2 g).2;cases m:((e.xIdx.length:Int) !=(t.aJ.length:Int))with
    |true=>rw[m]at h;cases h
    |false=>
     rw[m,Tf]at h;cases n:ZD mem env e.xIdx t.aJ 0 with
     |error z=>rw[n]at h;cases h
     |ok c=>
      rw[n]at h;simp only at h;cases i:t.fE[c.toNat]? with
      |none=>rw[i]at h;cases h
      |some v=>rw[i]at h;cases h;exact⟨l.ty,l.WC v (ZZ i)⟩
def ji(a b:aQ):Bool:=(a.bt==b.bt)&&((a.bW==b.bW)&&((a.bR==b.bR)&&((a.b9==b.b9)&&((a.b8==b.b8)&&true))))
def ER{a b:aQ}:ji a b=true↔a=b:=by
 unfold ji;simp only[Zo,TC,Bool.and_true];constructor;{rintro⟨d,f,g,h,i⟩;cases a;cases b;simp_all};{rintro rfl;exact⟨rfl,rfl,rfl,rfl,rfl⟩}
def pA(t:aQ)(r:aH×Int):Except Int (aH×aQ):=bif r.2 !=0 then .error r.2 else .ok (r.1,t)
def PZ(d c:Int):Bool:=bif d==13 then decide (c<0)else bif d==14 then decide (c<=0)else c==0
def iQ{α β:Type}(r:Except Int α)(f:α->Except Int β):Except Int β:=match r with
 | .ok x=>f x
 | .error z=>.error z
mutual
def dK(mem:U aO)(env:U aR)(e:au):Except Int (aH×aQ):=
 bif decide (e.aA<=3)then l6 mem env e else
 match h:e.bk with
 |[a]=>iQ (dK mem env a) λx=>bif e.aA==12 then pA e.aw (vl x.2 e.aw x.1)else pA x.2 (lr 8 x.2 x.1 x.1)
 |[a,b]=>iQ (dK mem env a) λx=>iQ (dK mem env b) λy=>bif ji x.2 y.2 then pA x.2 (lr e.aA x.2 x.1 y.1)else .error 10
 |[c,a,b]=>iQ (ke mem env c) λt=>bif t then dK mem env a else dK mem env b
 |_=>.error 1
termination_by SizeOf.sizeOf e
decreasing_by all_goals (exact lA (by rw[h];simp))
def ke(mem:U aO)(env:U aR)(e:au):Except Int Bool:=
 match h:e.bk with
 |[a]=>iQ (ke mem env a) λt=>.ok (!t)
 |[a,b]=>bif decide (e.aA<16)then iQ (dK mem env a) λx=>iQ (dK mem env b) λy=>(bif ji x.2 y.2 then .ok (PZ e.aA (qM x.2 x.1 y.1))else .error 10)else iQ (ke mem env a) λs=>iQ (ke mem env b) λt=>.ok (bif e.aA==16 then s&&t else s||t)
 |_=>.error 1
termination_by SizeOf.sizeOf e
decreasing_by all_goals (exact lA (by rw[h];simp))
end
def A6{mem:U aO}{env:U aR}{e:au}(h:e.aA<=3):dK mem env e=l6 mem env e:=by
 rw[dK,eD h,Tj]
def tK{mem:U aO}{env:U aR}{e a:au}(h:¬e.aA<=3)(ha:e.bk=[a]):dK mem env e=iQ (dK mem env a) λx=>bif e.aA==12 then pA e.aw (vl x.2 e.aw x.1)else pA x.2 (lr 8 x.2 x.1 x.1):=by
 rw[dK,Zn h,Tf];split<;>simp_all
def IN{mem:U aO}{env:U aR}{e a b:au}(h:¬e.aA<=3)(ha:e.bk=[a,b]):dK mem env e=iQ (dK mem env a) λx=>iQ (dK mem env b) λy=>bif ji x.2 y.2 then pA x.2 (lr e.aA x.2 x.1 y.1)else .error 10:=by
 rw[dK,Zn h,Tf];split<;>simp_all
def HJ{mem:U aO}{env:U aR}{e c a b:au}(h:¬e.aA<=3)(ha:e.bk=[c,a,b]):dK mem env e=iQ (ke mem env c) λt=>bif t then dK mem env a else dK mem env b:=by
 rw[dK,Zn h,Tf];split<;>simp_all
def Nb{mem:U aO}{env:U aR}{e a:au}(ha:e.bk=[a]):ke mem env e=iQ (ke mem env a) λt=>.ok (!t):=by
 rw[ke];split<;>simp_all
def xa{mem:U aO}{env:U aR}{e a b:au}(ha:e.bk=[a,b]):ke mem env e=bif decide (e.aA<16)then iQ (dK mem env a) λx=>iQ (dK mem env b) λy=>(bif ji x.2 y.2 then .ok (PZ e.aA (qM x.2 x.1 y.1))else .error 10)else iQ (ke mem env a) λs=>iQ (ke mem env b) λt=>.ok (bif e.aA==16 then s&&t else s||t):=by
 rw[ke];split<;>simp_all
structure Ev(e:au):Prop where
 v:∀y∈dx e,pN y=0
 f:∀y∈dx e,TL y
def Ev.arg{e x:au}(h:Ev e)(g:x∈e.bk):Ev x:=⟨λy d=>h.v y (rC g d),λy d=>h.f y (rC g d)⟩
def Ev.here{e:au}(h:Ev e):pN e=0:=h.v e Zt
structure FQ(e:au):Prop where
 lo:1<=e.aA
 hi:e.aA<=18
 acy:(e.bk.length:Int)=qR e.aA
 lit:e.aA=1->dD e.aw=true/\dj e.aw e.cU=true
 cast:e.aA=12->dD e.aw=true
 want:∀(i:Nat)(x:au),e.bk[i]?=some x->fc x=nE e.aA i
def aeA(f:Int):∀(l:U au)(k:Nat),DD f k l=true->∀(i:Nat)(x:au),l[i]?=some x->fc x=nE f (k+i)
 |[],_,_,i,x,d=>by simp at d
 |y::l,k,h,i,x,d=>by
  unfold DD at h;rw[Zo,TC]at h;cases i with
  |zero=>cases d;exact h.1
  |succ i=>
   rw[show k+(i+1)=k+1+i by omega];exact aeA f l (k+1) h.2 i x d
def Ev.n{e:au}(h:Ev e):FQ e:=by
 obtain⟨g,o,j,d,k⟩:=A2 h.here;unfold qN at g;unfold sP at j;unfold xZ at d;unfold Bg at k;simp only[Zo,UL,TC]at g j d k;refine⟨g.1,g.2.1,j.1,λh=> ?_,λh=> ?_,λi x m=> ?_⟩;{have f:=d.1;have l:=k.1;rw[h]at f l;exact⟨by simpa using f,by simpa using l⟩}
 ·have f:=d.1;rw[h]at f
  simpa using f
 ·have:=aeA e.aA e.bk 0 d.2 i x m
  rwa [ZQ]at this
def ag7{e:au}(h:FQ e):fc e=decide (13<=e.aA):=by
 unfold fc;rw[eD h.hi,Bool.and_true]
def QU{α:Type}{l:U α}(h:(l.length:Int)=1):∃a,l=[a]:=by
 match l,h with
 |[a],_=>exact⟨a,rfl⟩
 |[],h=>simp at h
 |_::_::_,h=>simp only[Zp]at h;omega
def abM{α:Type}{l:U α}(h:(l.length:Int)=2):∃a b,l=[a,b]:=by
 match l,h with
 |[a,b],_=>exact⟨a,b,rfl⟩
 |[],h=>simp at h
 |[_],h=>simp at h
 |_::_::_::_,h=>simp only[Zp]at h;omega
def atj{α:Type}{l:U α}(h:(l.length:Int)=3):∃a b c,l=[a,b,c]:=by
 match l,h with
 |[a,b,c],_=>exact⟨a,b,c,rfl⟩
 |[],h=>simp at h
 |[_],h=>simp at h
 |[_,_],h=>simp at h
 |_::_::_::_::_,h=>simp only[Zp]at h;omega
inductive aaL(e:au):Prop
 |leaf (h:e.aA<=3)
 |cast (a:au) (h:e.bk=[a]) (ho:e.aA=12)
 |neg (a:au) (h:e.bk=[a]) (ho:e.aA=8)
 |bin (a b:au) (h:e.bk=[a,b]) (ho:4<=e.aA/\e.aA<=10/\e.aA≠8)
 |ite (c a b:au) (h:e.bk=[c,a,b]) (ho:e.aA=11)
inductive aaG(e:au):Prop
 |not (a:au) (h:e.bk=[a]) (ho:e.aA=18)
 |cmp (a b:au) (h:e.bk=[a,b]) (ho:13<=e.aA/\e.aA<=15)
 |log (a b:au) (h:e.bk=[a,b]) (ho:e.aA=16\/e.aA=17)
def kd{e:au}(h:FQ e)(j:fc e=false):aaL e:=by
 rw[ag7 h,UF]at j;have m:=h.lo;have d:=h.acy;by_cases k:e.aA<=3;{exact .leaf k}
 ·unfold qR at d;rw[show(e.aA==1)=false by rw[Tn];omega,show(e.aA==2)=false by rw[Tn];omega,show(e.aA==3)=false by rw[Tn];omega]at d;simp only[Bool.or_false,c6,Tf]at d;by_cases f:e.aA=8
  ·rw[f]at d;obtain⟨a,ha⟩:=QU (l:=e.bk) d;exact .neg a ha f
  ·by_cases g:e.aA=12
   ·rw[g]at d;obtain⟨a,ha⟩:=QU (l:=e.bk) d;exact .cast a ha g
   ·rw[show(e.aA==8)=false by rw[Tn];exact f,show(e.aA==12)=false by rw[Tn];exact g,show(e.aA==18)=false by rw[Tn];omega]at d;simp only[Bool.or_false,c6,Tf]at d;by_cases i:e.aA=11
    ·rw[i]at d;obtain⟨a,b,c,ha⟩:=atj (l:=e.bk) d;exact .ite a b c ha i
    ·rw[show(e.aA==11)=false by rw[Tn];exact i,Tf]at d;obtain⟨a,b,ha⟩:=abM d;exact .bin a b ha ⟨by omega,by omega,f⟩
def kc{e:au}(h:FQ e)(g:fc e=true):aaG e:=by
 rw[ag7 h,UL]at g;have j:=h.hi;have d:=h.acy;unfold qR at d;rw[show(e.aA==1)=false by rw[Tn];omega,show(e.aA==2)=false by rw[Tn];omega,show(e.aA==3)=false by rw[Tn];omega,show(e.aA==8)=false by rw[Tn];omega,show(e.aA==12)=false by rw[Tn];omega,show(e.aA==11)=false by rw[Tn];omega]at d;simp only[Bool.or_false,c6,Tf]at d;by_cases f:e.aA=18;{rw[f]at d;obtain⟨a,ha⟩:=QU (l:=e.bk) d;exact .not a ha f}
 ·rw[show(e.aA==18)=false by rw[Tn];exact f,Tf]at d;obtain⟨a,b,ha⟩:=abM d;by_cases i:e.aA<=15
  ·exact .cmp a b ha ⟨g,i⟩
  ·exact .log a b ha k7
def Sq(r:Except Int (aH×aQ))(d:Int)(t:fG):Prop:=oK r d t λx y=>y.js=x.1/\y.gC=x.2/\dD x.2=true
def ahx(r:Except Int Bool)(d:Int)(b:Bool):Prop:=match r with
 | .ok x=>d=0/\b=x
 | .error z=>d=z/\z≠0/\b=false
def U2{t:aQ}{r:aH×Int}(ht:dD t=true):Sq (pA t r) r.2 (⟨r.1,t⟩:fG):=by
 unfold pA;cases h:(r.2 !=0)with
 |true=>exact⟨rfl,by simpa using h⟩
 |false=>exact⟨by simpa using h,rfl,rfl,ht⟩
structure NB(N:Nat)(mem:List aO)(env:List aR)(e:au):Prop where
 v:fc e=false->∀(d:Nat)(kv:List (ByteArray×bo)),3*SizeOf.sizeOf e<=d->CK mem kv->∃t er eZ,m8 N d e env mem kv=some (t,er,eZ)/\CK mem eZ/\Sq (dK mem env e) er t
 h:fc e=true->∀(d:Nat)(kv:List (ByteArray×bo)),3*SizeOf.sizeOf e<=d->CK mem kv->∃b er eZ,qX N d e env mem kv=some (b,er,eZ)/\CK mem eZ/\ahx (ke mem env e) er b
def atn(N:Nat)(env:U aR)(e:au)(mem:U aO)(f:U (so×bo))(d:Nat):m8 N (d+1) e env mem f=y6 N env e mem f (qX N d) (m8 N d) (sQ N d) (e.aA==1||(e.aA==2||e.aA==3)):=by
 rw[m8];cases g:(e.aA==1)with
 |true=>rfl
 |false=>
  cases h:(e.aA==2)with
  |true=>rfl
  |false=>rfl
def ajR{e:au}(h:FQ e):(e.aA==1||(e.aA==2||e.aA==3))=decide (e.aA<=3):=by
 have:=h.lo;by_cases d:e.aA<=3
 ·rw[eD d];have:e.aA=1\/e.aA=2\/e.aA=3:=by omega
  rcases this with h|h|h<;>rw[h]<;>rfl
 ·rw[Zn d,show(e.aA==1)=false by rw[Tn];omega,show(e.aA==2)=false by rw[Tn];omega,show(e.aA==3)=false by rw[Tn];omega];rfl
def aet{N:Nat}{mem:U aO}{env:U aR}{e a b:au}(ha:e.bk=[a,b])(A:NB N mem env a)(B:NB N mem env b)(F:fc a=false)(G:fc b=false)(d:Nat)(j:U (so×bo))(m:3*SizeOf.sizeOf a<=d/\3*SizeOf.sizeOf b<=d)(H:CK mem j):
 ∃x y f k,y0 N (d+1) e env mem j=some (x,y,f,k)/\CK mem k/\oK (iQ (dK mem env a) λp=>iQ (dK mem env b) λq=>bif ji p.2 q.2 then .ok (p,q)else .error 10) f (x,y) λp r=>r.1.js=p.1.1/\r.1.gC=p.1.2/\r.2.js=p.2.1/\r.2.gC=p.2.2/\dD p.1.2=true:=by
 rw[y0,ha];simp only[List.getElem?_cons_zero,Yx,re];obtain⟨t,f,J,K,n,h⟩:=A.v F d j m.1 H;rw[K,re];cases o:dK mem env a with
 |error z=>
  rw[o]at h;obtain⟨rfl,g⟩:=h;simp only;rw[Ui.2 g,Tj];exact⟨_,_,_,_,rfl,n,rfl,g⟩
 |ok p=>
  rw[o]at h;obtain⟨rfl,L,w,M⟩:=h;simp only;rw[show((0:Int) !=0)=false from rfl,Tf];obtain⟨u,f,R,q1,l,i⟩:=B.v G d J m.2 n;rw[q1,re];unfold Gf;cases C:dK mem env b with
  |error z=>
   rw[C]at i;obtain⟨rfl,g⟩:=i;simp only;rw[show(f==0)=false by rw[Tn];exact g,Tf,re,Tf];exact⟨_,_,_,_,rfl,l,rfl,g⟩
  |ok q=>
   rw[C]at i;obtain⟨rfl,Q,E,S⟩:=i;simp only;rw[show((0:Int)==0)=true from rfl,Tj,re];show ∃x y f k,(bif !(ji t.gC u.gC)then _ else _)=_/\_/\oK (bif ji p.2 q.2 then _ else _) _ _ _;rw[w,E];cases ji p.2 q.2 with
   |true=>exact⟨_,_,_,_,rfl,l,rfl,L,w,Q,E,M⟩
   |false=>exact⟨_,_,_,_,rfl,l,rfl,by decide⟩
def mch(N:Nat)(hN:9223372036854775808<N)(mem:U aO)(hm:mem.length<=4611686018427387904)(env:U aR):∀(n:Nat)(e:au),SizeOf.sizeOf e<=n->Ev e->NB N mem env e:=by
 intro n
 induction n with
 |zero=>intro e hs _;have:0<SizeOf.sizeOf e:=by cases e;simp;omega
        omega
 |succ n ih=>
  intro e hs hv;have E:=hv.n;have hsz:0<SizeOf.sizeOf e:=by cases e;simp;omega
  have l:∀x∈e.bk,NB N mem env x/\3*SizeOf.sizeOf x+3<=3*SizeOf.sizeOf e:=λx hx=>by
   have:=lA hx;exact⟨ih x k7 (hv.arg hx),by omega⟩
  constructor
  ·intro hc d L hd M;obtain⟨d,rfl⟩:∃J,d=J+1:=⟨d-1,by omega⟩;rw[atn,ajR E];unfold y6;cases kd E hc with
   |leaf G=>
    rw[eD G,Tj,A6 G];obtain⟨t,o,eZ,F,k,g⟩:=aj0 N k7 mem hm env e (hv.f e Zt) L M;rw[F,re];refine⟨_,_,_,rfl,k,?_⟩;cases hl:l6 mem env e with
    |error z=>rw[hl]at g;exact g
    |ok x=>
     rw[hl]at g;obtain⟨rfl,rfl⟩:=g;exact⟨rfl,rfl,rfl,(acr E.lit hl).1⟩
   |cast a ha m=>
    have G:¬e.aA<=3:=by omega
    have xy:a∈e.bk:=by rw[ha];simp
    obtain⟨A,Co⟩:=l a xy;have H:fc a=false:=by rw[E.want 0 a (by rw[ha];rfl),m];rfl
    rw[Zn G,Tf,show(e.aA==11)=false by rw[m];rfl,Tf,tK G ha,m];obtain⟨d,rfl⟩:∃J,d=J+1:=⟨d-1,by omega⟩;rw[sQ,ha,m];simp only[List.getElem?_cons_zero,re,Int.reduceBEq,Tf,Tj];obtain⟨t,o,oV,F,k,g⟩:=A.v H d L k7 M;rw[F,re];cases K:dK mem env a with
    |error z=>
     rw[K]at g;obtain⟨rfl,j⟩:=g;simp only;rw[Ui.2 j,Tj,re];exact⟨_,_,_,rfl,k,rfl,j⟩
    |ok p=>
     rw[K]at g;obtain⟨rfl,Q,R,S⟩:=g;simp only;rw[show((0:Int) !=0)=false from rfl,Tf,ar7 N hN,re,re,Q,R];exact⟨_,_,_,rfl,k,U2 (E.cast m)⟩
   |neg a ha m=>
    have G:¬e.aA<=3:=by omega
    have xy:a∈e.bk:=by rw[ha];simp
    obtain⟨A,Co⟩:=l a xy;have H:fc a=false:=by rw[E.want 0 a (by rw[ha];rfl),m];rfl
    rw[Zn G,Tf,show(e.aA==11)=false by rw[m];rfl,Tf,tK G ha,m];obtain⟨d,rfl⟩:∃J,d=J+1:=⟨d-1,by omega⟩;rw[sQ,ha,m];simp only[List.getElem?_cons_zero,re,Int.reduceBEq,Tf,Tj];obtain⟨t,o,oV,F,k,g⟩:=A.v H d L k7 M;rw[F,re];cases K:dK mem env a with
    |error z=>
     rw[K]at g;obtain⟨rfl,j⟩:=g;simp only;rw[Ui.2 j,Tj,re];exact⟨_,_,_,rfl,k,rfl,j⟩
    |ok p=>
     rw[K]at g;obtain⟨rfl,Q,R,S⟩:=g;simp only;rw[show((0:Int) !=0)=false from rfl,Tf,Rc N hN,re,re,Q,R];exact⟨_,_,_,rfl,k,U2 S⟩
   |bin a b ha m=>
    have G:¬e.aA<=3:=by omega
    obtain⟨A,Co⟩:=l a (by rw[ha];simp);obtain⟨B,Sp⟩:=l b (by rw[ha];simp);have w0:nE e.aA 0=false:=by
     unfold nE;rw[show(e.aA==11)=false by rw[Tn];omega,show(e.aA==16)=false by rw[Tn];omega,show(e.aA==17)=false by rw[Tn];omega,show(e.aA==18)=false by rw[Tn];omega];rfl
    have w1:nE e.aA 1=false:=by
     unfold nE;rw[show(e.aA==11)=false by rw[Tn];omega,show(e.aA==16)=false by rw[Tn];omega,show(e.aA==17)=false by rw[Tn];omega,show(e.aA==18)=false by rw[Tn];omega];rfl
    have H:fc a=false:=by rw[E.want 0 a (by rw[ha];rfl),w0]
    have cb:fc b=false:=by rw[E.want 1 b (by rw[ha];rfl),w1]
    rw[Zn G,Tf,show(e.aA==11)=false by rw[Tn];omega,Tf,IN G ha];obtain⟨d,rfl⟩:∃J,d=J+1+1:=⟨d-2,by omega⟩;rw[sQ,show(e.aA==8)=false by rw[Tn];omega,Tf,show(e.aA==12)=false by rw[Tn];omega,re,Tf];obtain⟨x,y,o,eZ,F,k,g⟩:=aet (e:=e) ha A B H cb d L ⟨by omega,by omega⟩ M;rw[F,re];cases K:dK mem env a with
    |error z=>
     rw[K]at g;obtain⟨rfl,j⟩:=g;simp only;rw[Ui.2 j,Tj,re];exact⟨_,_,_,rfl,k,rfl,j⟩
    |ok p=>
     rw[K]at g;cases Hc:dK mem env b with
     |error z=>
      rw[Hc]at g;obtain⟨rfl,j⟩:=g;simp only;rw[Ui.2 j,Tj,re];exact⟨_,_,_,rfl,k,rfl,j⟩
     |ok q=>
      rw[Hc]at g;show ∃t o eZ,_=_/\_/\Sq (bif ji p.2 q.2 then pA p.2 (lr e.aA p.2 p.1 q.1)else .error 10) o t;replace g:oK (bif ji p.2 q.2 then .ok (p,q)else .error 10) o (x,y) λp r=>r.1.js=p.1.1/\r.1.gC=p.1.2/\r.2.js=p.2.1/\r.2.gC=p.2.2/\dD p.1.2=true:=g;cases sc:ji p.2 q.2 with
      |false=>
       rw[sc]at g;obtain⟨rfl,j⟩:=g;simp only;rw[Ui.2 j,Tj,re];exact⟨_,_,_,rfl,k,rfl,j⟩
      |true=>
       rw[sc]at g;obtain⟨rfl,Q,R,S,e4,e5⟩:=g;simp only at Q R S e4 e5 ⊢;rw[show((0:Int) !=0)=false from rfl,Tf,Rc N hN,re,re,Q,R,S];exact⟨_,_,_,rfl,k,U2 e5⟩
   |ite c a b ha m=>
    have G:¬e.aA<=3:=by omega
    obtain⟨C,hsc⟩:=l c (by rw[ha];simp);obtain⟨A,Co⟩:=l a (by rw[ha];simp);obtain⟨B,Sp⟩:=l b (by rw[ha];simp);have cc:fc c=true:=by rw[E.want 0 c (by rw[ha];rfl),m];rfl
    have H:fc a=false:=by rw[E.want 1 a (by rw[ha];rfl),m];rfl
    have cb:fc b=false:=by rw[E.want 2 b (by rw[ha];rfl),m];rfl
    rw[Zn G,Tf,show(e.aA==11)=true by rw[m];rfl,Tj,HJ G ha,ha];simp only[List.getElem?_cons_zero,Yx,re];obtain⟨t,o,oV,F,k,g⟩:=C.h cc d L k7 M;rw[F,re];cases T:ke mem env c with
    |error z=>
     rw[T]at g;obtain⟨rfl,j,rfl⟩:=g;simp only;rw[Ui.2 j,Tj];exact⟨_,_,_,rfl,k,rfl,j⟩
    |ok s=>
     rw[T]at g;obtain⟨rfl,rfl⟩:=g;simp only;rw[show((0:Int) !=0)=false from rfl,Tf];cases t with
     |true=>
      obtain⟨u,o,MT,q1,q2,W⟩:=A.v H d oV k7 k;rw[Tj,q1,re];exact⟨_,_,_,rfl,q2,W⟩
     |false=>
      obtain⟨u,o,MT,q1,q2,W⟩:=B.v cb d oV k7 k;rw[Tf,q1,re];exact⟨_,_,_,rfl,q2,W⟩
  ·intro hc d L hd M;obtain⟨d,rfl⟩:∃J,d=J+1+1:=⟨d-2,by omega⟩;rw[qX,GM];cases kc E hc with
   |not a ha m=>
    obtain⟨A,Co⟩:=l a (by rw[ha];simp);have H:fc a=true:=by rw[E.want 0 a (by rw[ha];rfl),m];rfl
    rw[ha,m,Nb ha,Zn gy,Tf];simp only[List.getElem?_cons_zero,re];obtain⟨t,o,oV,F,k,g⟩:=A.h H d L k7 M;rw[F,re];cases T:ke mem env a with
    |error z=>
     rw[T]at g;obtain⟨rfl,j,rfl⟩:=g;simp only;rw[Ui.2 j,Tj,re,Tj,show(o==0)=false by rw[Tn];exact j,Tf,re,re];exact⟨_,_,_,rfl,k,rfl,j,rfl⟩
    |ok s=>
     rw[T]at g;obtain⟨rfl,rfl⟩:=g;exact⟨_,_,_,rfl,k,rfl,rfl⟩
   |cmp a b ha m=>
    obtain⟨A,Co⟩:=l a (by rw[ha];simp);obtain⟨B,Sp⟩:=l b (by rw[ha];simp);have w:∀i,nE e.aA i=false:=λi=>by
     unfold nE;rw[show(e.aA==11)=false by rw[Tn];omega,show(e.aA==16)=false by rw[Tn];omega,show(e.aA==17)=false by rw[Tn];omega,show(e.aA==18)=false by rw[Tn];omega];rfl
    have H:fc a=false:=by rw[E.want 0 a (by rw[ha];rfl),w]
    have cb:fc b=false:=by rw[E.want 1 b (by rw[ha];rfl),w]
    rw[eD (show e.aA<16 by omega),Tj,xa ha,eD (show e.aA<16 by omega),Tj];obtain⟨d,rfl⟩:∃J,d=J+1:=⟨d-1,by omega⟩;obtain⟨x,y,o,eZ,F,k,g⟩:=aet (e:=e) ha A B H cb d L ⟨by omega,by omega⟩ M;rw[F,re];cases K:dK mem env a with
    |error z=>
     rw[K]at g;obtain⟨rfl,j⟩:=g;simp only;rw[Ui.2 j,Tj,re];exact⟨_,_,_,rfl,k,rfl,j,rfl⟩
    |ok p=>
     rw[K]at g;cases Hc:dK mem env b with
     |error z=>
      rw[Hc]at g;obtain⟨rfl,j⟩:=g;simp only;rw[Ui.2 j,Tj,re];exact⟨_,_,_,rfl,k,rfl,j,rfl⟩
     |ok q=>
      rw[Hc]at g;show ∃b o eZ,_=_/\_/\ahx (bif ji p.2 q.2 then .ok (PZ e.aA (qM p.2 p.1 q.1))else .error 10) o b;replace g:oK (bif ji p.2 q.2 then .ok (p,q)else .error 10) o (x,y) λp r=>r.1.js=p.1.1/\r.1.gC=p.1.2/\r.2.js=p.2.1/\r.2.gC=p.2.2/\dD p.1.2=true:=g;cases sc:ji p.2 q.2 with
      |false=>
       rw[sc]at g;obtain⟨rfl,j⟩:=g;simp only;rw[Ui.2 j,Tj,re];exact⟨_,_,_,rfl,k,rfl,j,rfl⟩
      |true=>
       rw[sc]at g;obtain⟨rfl,Q,R,S,e4,e5⟩:=g;simp only at Q R S e4 e5 ⊢;rw[show((0:Int) !=0)=false from rfl,Tf,Q,R,S,af6 N k7 _ _ _ e5,re];unfold R5 PZ;cases (e.aA==13)with
       |true=>exact⟨_,_,_,rfl,k,rfl,rfl⟩
       |false=>
        cases (e.aA==14)with
        |true=>exact⟨_,_,_,rfl,k,rfl,rfl⟩
        |false=>exact⟨_,_,_,rfl,k,rfl,rfl⟩
   |log a b ha m=>
    obtain⟨A,Co⟩:=l a (by rw[ha];simp);obtain⟨B,Sp⟩:=l b (by rw[ha];simp);have w:∀i,nE e.aA i=true:=λi=>by
     unfold nE;rcases m with h|h<;>rw[h]<;>simp
    have H:fc a=true:=by rw[E.want 0 a (by rw[ha];rfl),w]
    have cb:fc b=true:=by rw[E.want 1 b (by rw[ha];rfl),w]
    rw[Zn (show ¬e.aA<16 by omega),Tf,xa ha,Zn (show ¬e.aA<16 by omega),Tf,ha];simp only[List.getElem?_cons_zero,Yx,re];obtain⟨t,o,oV,F,k,g⟩:=A.h H d L k7 M;rw[F,re];cases T:ke mem env a with
    |error z=>
     rw[T]at g;obtain⟨rfl,j,rfl⟩:=g;simp only;rw[Ui.2 j,Tj,re,Tj,show(o==0)=false by rw[Tn];exact j,Tf,re,re];exact⟨_,_,_,rfl,k,rfl,j,rfl⟩
    |ok s=>
     rw[T]at g;obtain⟨rfl,rfl⟩:=g;simp only;rw[show((0:Int) !=0)=false from rfl,Tf,show(e.aA==18)=false by rw[Tn];omega,re,Tf];obtain⟨u,o,MT,q1,q2,W⟩:=B.h cb d oV k7 k;rw[q1,re];cases hg:ke mem env b with
     |error z=>
      rw[hg]at W;obtain⟨rfl,j,rfl⟩:=W;simp only;rw[Ui.2 j,Tj,re];exact⟨_,_,_,rfl,q2,rfl,j,rfl⟩
     |ok s2=>
      rw[hg]at W;obtain⟨rfl,rfl⟩:=W;simp only;rw[show((0:Int) !=0)=false from rfl,Tf];unfold iQ;simp only;cases (e.aA==16)<;>cases t<;>exact⟨_,_,_,rfl,q2,rfl,rfl⟩
def XB(n:Nat):((n:Int) !=(n:Int))=false:=by rw[uq,Z3];rfl
structure DI(B:Nat)(x:aT):Prop where
 iN:x.aU.xL.length<=B
 at_:x.bC.length<=B
 q6:∀l∈x.bC,l.xL.length<=B
structure NX(B:Nat)(e:au):Prop where
 iN:e.aU.xL.length<=B
 idx:e.xIdx.length<=B
 each:∀x∈e.xIdx,DI B x
 args:e.bk.length<=B
def jR(B:Nat)(e:au):Prop:=∀y∈dx e,NX B y
def jR.arg{B:Nat}{e x:au}(h:jR B e)(d:x∈e.bk):jR B x:=λy f=>h y (rC d f)
def DI.mono{A B:Nat}(h:A<=B){x:aT}(k:DI A x):DI B x:=⟨Ze k.iN h,Ze k.at_ h,λl d=>Ze (k.q6 l d) h⟩
def NX.mono{A B:Nat}(h:A<=B){e:au}(k:NX A e):NX B e:=⟨Ze k.iN h,Ze k.idx h,λx d=>(k.each x d).mono h,Ze k.args h⟩
abbrev tc:Nat:=140737488355328
def zx{a b:Nat}(h:a+b<=9223372036854775807):aY ((a:Int)+(b:Int))=((a+b:Nat):Int):=by
 rw[<-Int.natCast_add];exact MO h
def Wt(m n:Nat)(Q:Prop)(r:O Int):Prop:=∃v:Nat,r=some (v:Int)/\n<=v/\v<=m+500000000000000/\(v<=m->Q)
def RF(N:Nat)(m:Nat)(r:m<=100000)(rec:au->Int->O Int)(g:au->Prop)(i:∀(x:au)(q:Nat),q<=m->g x->Wt q 1 (jR q x) (rec x (q:Int))):∀(l:U au)(k v:Nat),v<=m+500000000000000->(∀x∈l,g x)->
 Wt m v (v+l.length<=m/\∀x∈l,jR m x) (AF N (m:Int) rec l k (v:Int))/\Cy N (m:Int) rec l k (v:Int)=AF N (m:Int) rec l k (v:Int)
 |[],k,v,w,_=>⟨⟨v,rfl,Zx _,by omega,λh=>⟨h,λ_ h=>by cases h⟩⟩,rfl⟩
 |x::l,k,v,w,j=>by
  rw[AF,Cy,Es];by_cases h:v<=m
  ·rw[eD h,Tj,Tj,show aY ((m:Int)-(v:Int))=((m-v:Nat):Int) by rw[show(m:Int)-(v:Int)=((m-v:Nat):Int) by omega];exact MO k7];obtain⟨n,A,M,Q,B⟩:=i x (m-v) (Nat.sub_le _ _) (j x Zt);rw[A,re,re];dsimp only;rw[zx k7];by_cases o:v+n<=m
   ·obtain⟨⟨u,C,R,E,F⟩,G⟩:=RF N m r rec g i l (k+1) (v+n) k7 λy f=>j y (Zk _ f);refine⟨⟨u,C,by omega,E,λH=> ?_⟩,G⟩;obtain⟨S,J⟩:=F H;refine⟨by simp only[Zp];omega,λy f=> ?_⟩;rcases Za.1 f with rfl|f
    ·exact λz K=>(B k7 z K).mono k7
    ·exact J y f
   ·have d:∀(l:U au)(k:Nat),AF N (m:Int) rec l k ((v+n:Nat):Int)=some ((v+n:Nat):Int)/\Cy N (m:Int) rec l k ((v+n:Nat):Int)=some ((v+n:Nat):Int):=by
     intro l k;cases l with
     |nil=>exact⟨rfl,rfl⟩
     |cons y l=>rw[AF,Cy,Es,Zn o];exact⟨rfl,rfl⟩
    rw[(d l (k+1)).1,(d l (k+1)).2];exact⟨⟨v+n,rfl,by omega,by omega,λh=>absurd h o⟩,rfl⟩
  ·rw[Zn h];exact⟨⟨v,rfl,Zx _,by omega,λL=>absurd L h⟩,rfl⟩
def adk(N:Nat)(m:Nat)(A:m<=100000)(c:Int->O Int)(lo:Nat)(Q:Prop)(i:∀v:Nat,v<=m+500000000000000->lo<=v->Wt m v Q (c (v:Int))):∀(l:U aK)(k v:Nat),v<=m+500000000000000->lo<=v->(∀x∈l,x.xL.length<=tc)->
 Wt m v (Q/\∀x∈l,x.xL.length<=m) (NU N c (m:Int) l k (v:Int))
 |[],k,v,j,n,_=>by
  obtain⟨u,o,f,q,r⟩:=i v j n;exact⟨u,o,f,q,λh=>⟨r h,λ_ h=>by cases h⟩⟩
 |x::l,k,v,j,n,w=>by
  rw[NU,Es];by_cases h:v<=m
  ·have E:x.xL.length<=140737488355328:=w x Zt;rw[eD h,Tj];dsimp only;rw[zx k7];obtain⟨u,B,F,C,z⟩:=adk N m A c lo Q i l (k+1) (v+x.xL.length) k7 k7 λy d=>w y (Zk _ d);refine⟨u,B,by omega,C,λg=>⟨(z g).1,λy d=> ?_⟩⟩;rcases Za.1 d with rfl|d
   ·omega
   ·exact(z g).2 y d
  ·rw[Zn h,Tf];obtain⟨u,o,f,q,r⟩:=i v j n;exact⟨u,o,f,q,λg=>absurd (Ze f g) h⟩
def abt(N:Nat)(m:Nat)(j:m<=100000)(rec:au->Int->O Int)(d:au->Prop)(o:∀(x:au)(q:Nat),q<=m->d x->Wt q 1 (jR q x) (rec x (q:Int)))(e:au)(ha:∀x∈e.bk,d x):∀(l:U aT)(k v:Nat),v<=m+500000000000000->(∀x∈l,DI tc x)->
 Wt m v ((e.bk.length<=m/\∀x∈e.bk,jR m x)/\∀x∈l,DI m x) (Du N (m:Int) rec e l k (v:Int))
 |[],k,v,f,_=>by
  rw[Du];obtain⟨u,n,g,r,w⟩:=(RF N m j rec d o e.bk 0 v f ha).1;exact⟨u,n,g,r,λh=>⟨⟨by have:=(w h).1;omega,(w h).2⟩,λ_ h=>by cases h⟩⟩
 |x::l,k,v,f,B=>by
  rw[Du,Es];by_cases h:v<=m
  ·have z:=B x Zt;have n:x.aU.xL.length<=140737488355328:=z.iN;have g:x.bC.length<=140737488355328:=z.at_;rw[eD h,Tj,zx k7,zx k7];obtain⟨u,C,M,E,F⟩:=adk N m j (λG=>Du N (m:Int) rec e l (k+1) G) 0 _ (λv f _=>abt N m j rec d o e ha l (k+1) v f λy i=>B y (Zk _ i)) x.bC 0 (v+x.aU.xL.length+x.bC.length) k7 (Wl _) z.q6;refine⟨u,C,by omega,E,λA=> ?_⟩;obtain⟨⟨H,J⟩,K⟩:=F A;refine⟨H,λy i=> ?_⟩;rcases Za.1 i with rfl|i
   ·exact⟨by omega,by omega,K⟩
   ·exact J y i
  ·rw[Zn h,Tf];obtain⟨⟨u,n,g,r,w⟩,L⟩:=RF N m j rec d o e.bk 0 v f ha;rw[L];exact⟨u,n,g,r,λA=>absurd (Ze g A) h⟩
def ahs(N:Nat):∀(d:Nat)(e:au)(m:Nat),m<=100000->SizeOf.sizeOf e<d->jR tc e->Wt m 1 (jR m e) (wo N d e (m:Int))
 |0,_,_,_,h,_=>absurd h (ZJ _)
 |d+1,e,m,k,h,j=>by
  have i:=j e Zt;have A:e.aU.xL.length<=140737488355328:=i.iN;have B:e.xIdx.length<=140737488355328:=i.idx;rw[wo,show(1:Int)=((1:Nat):Int)from rfl,zx k7,zx k7];obtain⟨u,l,C,n,o⟩:=abt N m k (wo N d) (λx=>SizeOf.sizeOf x<d/\jR tc x) (λx q E f=>ahs N d x q k7 f.1 f.2) e (λx f=>⟨by have:=lA f;omega,j.arg f⟩) e.xIdx 0 (1+e.aU.xL.length+e.xIdx.length) k7 i.each;refine⟨u,l,by omega,n,λr=> ?_⟩;obtain⟨⟨v,w⟩,z⟩:=o r;intro y g;rcases Za.1 g with rfl|g
  ·exact⟨by omega,by omega,z,v⟩
  ·obtain⟨x,f,g⟩:=By g;exact w x f y g
structure Od(d:aF):Prop where
 Kf:d.aJ.length<=12
 red:d.bI.length<=12
 ary:∀a∈d.aJ++d.bI,a.dq.xL.length<=20
 body:jR 400 d.aX
structure Dp(p:aI):Prop where
 s:p.bj.length<=12
 w:p.cO.length<=12
 q:p.aS.length<=12
 d:p.ax.length<=12
 o:p.cB.length<=12
 W:∀c∈p.cO,c.aU.xL.length<=20
 P:∀x∈p.aS,x.aJ.length<=12/\∀y∈x.aJ,y.xL.length<=20
 D:∀d∈p.ax,Od d
def Bt(Q:Prop)(r:O Bool):Prop:=∃b,r=some b/\(b=false->Q)
def Bt.mono{Q R:Prop}{r:O Bool}(h:Bt Q r)(f:Q->R):Bt R r:=let ⟨b,d,g⟩:=h;⟨b,d,λe=>f (g e)⟩
def VU(n:Nat):decide ((n:Int)>20)= !decide (n<=20):=nS n 20
def yu(n:Nat):decide ((n:Int)>12)= !decide (n<=12):=nS n 12
def aaF(N:Nat):∀(l:U aK)(k:Nat),Bt (∀y∈l,y.xL.length<=20) (P7 N l k)
 |[],_=>⟨_,rfl,λ_ _ h=>by cases h⟩
 |x::l,k=>by
  rw[P7,VU];by_cases h:x.xL.length<=20
  ·rw[eD h];refine(aaF N l (k+1)).mono λg y d=> ?_;rcases Za.1 d with rfl|d
   ·exact h
   ·exact g y d
  ·rw[Zn h];exact⟨true,rfl,λh=>by cases h⟩
def ahM(N:Nat)(d:aF)(c:O Bool)(Q:Prop)(j:Bt Q c)(h1:d.aJ.length<=12)(m:d.bI.length<=12):∀(n k:Nat),k<=d.aJ.length+d.bI.length->d.aJ.length+d.bI.length-k<n->
 Bt (Q/\∀a∈(d.aJ++d.bI).drop k,a.dq.xL.length<=20) (Ie N d c n (k:Int))
 |0,k,_,h=>absurd h (ZJ _)
 |n+1,k,u,h=>by
  rw[Ie,zx k7];by_cases o:k<d.aJ.length+d.bI.length
  ·have l:k<(d.aJ++d.bI).length:=by rw[Zi];exact o
   rw[show decide ((k:Int)<((d.aJ.length+d.bI.length:Nat):Int))=true from eD k7,fi k7,fi k7,show decide ((0:Int)<=(k:Int))=true from eD k7,Tj,Tj,Tj,Tj,ZR,Zd l,re,VU,List.drop_eq_getElem_cons l,I5 k7];by_cases f:((d.aJ++d.bI)[k]).dq.xL.length<=20
   ·rw[eD f];refine(ahM N d c Q j h1 m n (k+1) k7 k7).mono fun⟨q,r⟩=>⟨q,λy i=> ?_⟩;rcases Za.1 i with rfl|i
    ·exact f
    ·exact r y i
   ·rw[Zn f];exact⟨true,rfl,λh=>by cases h⟩
  ·rw[show decide ((k:Int)<((d.aJ.length+d.bI.length:Nat):Int))=false from Zn k7,Tf,List.drop_eq_nil_of_le (by rw[Zi];omega)];exact j.mono λg=>⟨g,λ_ h=>by cases h⟩
def ahK(N m:Nat)(n:m<=400)(q:1000<N):∀(l:U aF)(k:Nat),(∀d∈l,jR tc d.aX/\SizeOf.sizeOf d.aX<N)->Bt (∀d∈l,Od d) (FK N (m:Int) l k)
 |[],_,_=>⟨_,rfl,λ_ _ h=>by cases h⟩
 |d::l,k,o=>by
  obtain⟨r,u⟩:=o d Zt;have w:=ahK N m n q l (k+1) λy f=>o y (Zk _ f);obtain⟨v,x,F,G,A⟩:=ahs N N d.aX m k7 u r;rw[FK,yu,yu];unfold WJ;rw[x,re,show decide ((v:Int)>(m:Int))= !decide (v<=m)from nS v m];by_cases g:d.aJ.length<=12
  ·rw[eD g];by_cases i:d.bI.length<=12
   ·rw[eD i];by_cases j:v<=m
    ·rw[eD j];have:=ahM N d _ _ w g i N 0 (Wl _) k7;rw[Yn]at this;refine Bt.mono this fun⟨B,C⟩ y f=> ?_;rcases Za.1 f with rfl|f
     ·exact⟨g,i,C,λz E=>(A j z E).mono n⟩
     ·exact B y f
    ·rw[Zn j];exact⟨true,rfl,λh=>by cases h⟩
   ·rw[Zn i];exact⟨true,rfl,λh=>by cases h⟩
  ·rw[Zn g];exact⟨true,rfl,λh=>by cases h⟩
def adA(N m:Nat)(i:m<=400)(j:1000<N)(p:aI)(n:∀d∈p.ax,jR tc d.aX/\SizeOf.sizeOf d.aX<N):∀(l:U cl)(k:Nat),Bt ((∀d∈p.ax,Od d)/\∀x∈l,x.aJ.length<=12/\∀y∈x.aJ,y.xL.length<=20) (K4 N (m:Int) p l k)
 |[],_=>(ahK N m i j p.ax 0 n).mono λg=>⟨g,λ_ h=>by cases h⟩
 |x::l,k=>by
  obtain⟨b,o,q⟩:=aaF N x.aJ 0;rw[K4,yu];unfold V3;rw[o,re];by_cases h:x.aJ.length<=12
  ·rw[eD h];cases b with
   |true=>exact⟨true,rfl,λh=>by cases h⟩
   |false=>
    refine(adA N m i j p n l (k+1)).mono fun⟨r,u⟩=>⟨r,λy f=> ?_⟩;rcases Za.1 f with rfl|f
    ·exact⟨h,q rfl⟩
    ·exact u y f
  ·rw[Zn h];exact⟨true,rfl,λh=>by cases h⟩
def ahi(N m:Nat)(i:m<=400)(j:1000<N)(p:aI)(n:∀d∈p.ax,jR tc d.aX/\SizeOf.sizeOf d.aX<N):∀(l:U cQ)(k:Nat),Bt (((∀d∈p.ax,Od d)/\∀x∈p.aS,x.aJ.length<=12/\∀y∈x.aJ,y.xL.length<=20)/\∀c∈l,c.aU.xL.length<=20) (NV N (m:Int) p l k)
 |[],_=>(adA N m i j p n p.aS 0).mono λg=>⟨g,λ_ h=>by cases h⟩
 |c::l,k=>by
  rw[NV,VU];by_cases h:c.aU.xL.length<=20
  ·rw[eD h];refine(ahi N m i j p n l (k+1)).mono fun⟨o,q⟩=>⟨o,λy f=> ?_⟩;rcases Za.1 f with rfl|f
   ·exact h
   ·exact q y f
  ·rw[Zn h];exact⟨true,rfl,λh=>by cases h⟩
def ame(N m:Nat)(l:m<=400)(n:1000<N)(p:aI)(o:∀d∈p.ax,jR tc d.aX/\SizeOf.sizeOf d.aX<N):Bt (Dp p) (Hh N p (m:Int)):=by
 unfold Hh;rw[yu,yu,yu,yu,yu];by_cases f:p.bj.length<=12
 ·by_cases g:p.cO.length<=12
  ·by_cases i:p.aS.length<=12
   ·by_cases j:p.ax.length<=12
    ·by_cases k:p.cB.length<=12
     ·rw[eD f,eD g,eD i,eD j,eD k];exact(ahi N m l n p o p.cO 0).mono fun⟨⟨q,r⟩,u⟩=>⟨f,g,i,j,k,u,r,q⟩
     ·rw[eD f,eD g,eD i,eD j,Zn k];exact⟨true,rfl,λh=>by cases h⟩
    ·rw[eD f,eD g,eD i,Zn j];exact⟨true,rfl,λh=>by cases h⟩
   ·rw[eD f,eD g,Zn i];exact⟨true,rfl,λh=>by cases h⟩
  ·rw[eD f,Zn g];exact⟨true,rfl,λh=>by cases h⟩
 ·rw[Zn f];exact⟨true,rfl,λh=>by cases h⟩
def jR.vi{B:Nat}(d:B<=100000){e:au}(h:jR B e):vi e:=λy i=>
 have f:100000<=maxLen:=by decide
 have H:=h y i
 ⟨Ze (Ze H.iN d) f,λx g=>⟨Ze (Ze (H.each x g).iN d) f,λl j=>Ze (Ze ((H.each x g).q6 l j) d) f⟩,Ze (Ze H.args d) f⟩
def jR.ev{B:Nat}(d:B<=100000){e:au}(h:jR B e)(j:lW e=0):Ev e:=
 have f:100000<=4611686018427387904:=by decide
 ⟨λy g=>xX j y g,λy g=>
  have H:=h y g
  ⟨Ze (Ze H.iN d) f,λx i=>⟨Ze (Ze (H.each x i).iN d) f,λl k=>Ze (Ze ((H.each x i).q6 l k) d) f⟩⟩⟩
def asr{N:Nat}{p:aI}(h:Dp p)(j:∀d∈p.ax,SizeOf.sizeOf d.aX<N):Bd N p:=
 ⟨Ze h.s gy,Ze h.w gy,Ze h.q gy,Ze h.d gy,Ze h.o gy,
  ⟨λx g=>Ze (h.P x g).1 gy,λx g y i=>Ze ((h.P x g).2 y i) gy⟩,
  ⟨λd f=>by have l:=(h.D d f).Kf;have m:=(h.D d f).red;omega,λd f y i=>Ze ((h.D d f).ary y i) gy⟩,
  λc k=>Ze (h.W c k) gy,λd f=>⟨(h.D d f).body.vi gy,j d f⟩⟩
def vm(v:Int64):Bool:=decide (1<=v.toInt)&&decide (v.toInt<=4096)
def RQ(env:U aR)(s:so):Bool:=match iz env s with
 |none=>false
 |some v=>vm v
def Ac(c:cQ)(env:U aR):Bool×Int:=
 let q:=db c.aU env
 bif q.2 !=0 then(false,q.2)else(bif q.1.toInt==0 then true else bif decide (q.1.toInt>0)then !c.l9 else false,0)
def Il(env:U aR):U cQ->Int
 |[]=>0
 |c::l=>bif (Ac c env).2 !=0 then(Ac c env).2 else bif (Ac c env).1 then Il env l else 16
def vW(p:aI)(env:U aR):Int:=bif (env.length:Int) !=(p.bj.length:Int)then 15 else bif p.bj.all (RQ env)then Il env p.cO else 15
def aoT(N:Nat)(d:2147483648<N)(c:cQ)(env:U aR)(h:c.aU.xL.length<=4611686018427387904):Ky N c env=some (Ac c env):=by
 unfold Ky Ac;rw[GF N d _ _ h,re];dsimp only;cases (db c.aU env).2 !=0 with
 |true=>rfl
 |false=>
  simp only[Tf];cases (db c.aU env).1.toInt==0 with
  |true=>rfl
  |false=>cases decide ((db c.aU env).1.toInt>0)<;>rfl
def ahE(N:Nat)(s:so):∀(env:U aR)(k:Nat),(iz env s=none->EC N s env k=some (-1))/\(∀v,iz env s=some v->∃i b,EC N s env k=some ((k+i:Nat):Int)/\env[i]?=some b/\b.cU=v)
 |[],k=>⟨λ_=>rfl,λv h=>by cases h⟩
 |b::r,k=>by
  obtain⟨d,f⟩:=ahE N s r (k+1);unfold iz EC Vr;simp only[re];cases hb:(bL b.ar==bL s)with
  |true=>exact⟨λh=>(by cases h),λv h=>by cases h;exact⟨0,b,rfl,rfl,rfl⟩⟩
  |false=>
   simp only[Tf];refine⟨d,λv h=> ?_⟩;obtain⟨i,c,q1,g,j⟩:=f v h;exact⟨i+1,c,by rw[q1];congr 2;omega,g,j⟩
def ah8(v:Int64):(bif decide (v.toInt<1)then some true else some (decide (v.toInt>4096)))=some (!vm v):=by
 unfold vm;by_cases d:v.toInt<1;{rw[eD d,Zn (show ¬1<=v.toInt by omega)];rfl}
 ·rw[Zn d,eD (show 1<=v.toInt by omega)];by_cases f:v.toInt>4096
  ·rw[eD f,Zn (show ¬v.toInt<=4096 by omega)];rfl
  ·rw[Zn f,eD (show v.toInt<=4096 by omega)];rfl
def adh(N:Nat)(d:2147483648<N)(env:U aR):∀(l:U cQ)(k:Nat),(∀c∈l,c.aU.xL.length<=4611686018427387904)->K3 N env l k=some (Il env l)
 |[],k,_=>rfl
 |c::l,k,h=>by
  rw[K3,aoT N d c env (h c Zt),re,adh N d env l (k+1) λx f=>h x (Zk _ f),Il];cases (Ac c env).2 !=0 with
  |true=>rfl
  |false=>cases (Ac c env).1<;>rfl
def aaA(N:Nat)(d:2147483648<N)(env:U aR)(p:aI)(f:∀c∈p.cO,c.aU.xL.length<=4611686018427387904):∀(l:U so)(k:Nat),Ns N env p l k=some (bif l.all (RQ env)then Il env p.cO else 15)
 |[],k=>adh N d env p.cO 0 f
 |s::l,k=>by
  rw[Ns,aaA N d env p f l (k+1),Z4];unfold WI RQ;obtain⟨q1,h⟩:=ahE N s env 0;cases g:iz env s with
  |none=>rw[q1 g];rfl
  |some v=>
   obtain⟨i,b,j,m,rfl⟩:=h v g;rw[j];simp only[re,ZQ];rw[Zn (show ¬(i:Int)<0 by omega),eD (show(0:Int)<=(i:Int) by omega),ZR,m];simp only[re,Tj,Tf];rw[ah8];cases vm b.cU<;>rfl
def agq(N:Nat)(d:2147483648<N)(env:U aR)(p:aI)(f:∀c∈p.cO,c.aU.xL.length<=4611686018427387904):MW N p env=some (vW p env):=by
 unfold MW vW;rw[aaA N d env p f p.bj 0];cases (env.length:Int) !=(p.bj.length:Int)<;>rfl
def fx(env:U aR):U aK->U Int->U Int×Int
 |[],d=>(d,0)
 |f::l,d=>bif (db f env).2 !=0 then([],(db f env).2)else bif vm (db f env).1 then fx env l (d++[(db f env).1.toInt])else([],15)
def SE(N:Nat)(g:2147483648<N)(env:U aR):∀(l:U aK)(k:Nat)(d:U Int),(∀x∈l,iT 1000000000 x)->d.length+l.length<=1000000000->KQ N env l k d=some (fx env l d)
 |[],k,d,_,_=>rfl
 |f::l,k,d,h,i=>by
  simp only[Zp]at i;have j:f.xL.length<=4611686018427387904:=Ze (h f Zt) gy;have m:=SE N g env l (k+1) (d++[(db f env).1.toInt]) (λx n=>h x (Zk _ n)) (by simp only[Zi,Zp,Zg];omega);rw[KQ,GF N g f env j,re,ah8,re,fi k7,Tj];dsimp only;rw[m,fx];cases (db f env).2 !=0 with
  |true=>rfl
  |false=>cases vm (db f env).1<;>rfl
def B9(env:U aR):∀(l:U aK)(g:U Int),(∀x∈g,1<=x/\x<=4096)->∀x∈(fx env l g).1,1<=x/\x<=4096
 |[],g,h=>h
 |f::l,g,h=>by
  rw[fx];cases (db f env).2 !=0 with
  |true=>exact λx d=>by cases d
  |false=>
   rw[Tf];cases i:vm (db f env).1 with
   |false=>exact λx d=>by cases d
   |true=>
    rw[Tj];refine B9 env l _ λx d=> ?_;rcases ZM.1 d with d|d
    ·exact h x d
    ·rw[ah]at d;subst d;unfold vm at i;rw[Zo,UL,UL]at i;exact i
def de:U Int->Int
 |[]=>1
 |x::l=>x*de l
def sC:∀{l:U Int},(∀x∈l,1<=x/\x<=4096)->1<=de l
 |[],_=>by decide
 |x::l,h=>by
  rw[de];have d:=sC λy f=>h y (Zk _ f);have g:=(h x Zt).1;have:=br g d gy k7;omega
def acX(N:Nat)(d:Int)(n:d<=65536):∀(l:U Int)(k:Nat)(v:Int),(∀x∈l,1<=x/\x<=4096)->1<=v->v<=d->HK N d l k v=some (if v*de l<=d then v*de l else d+1)
 |[],k,v,_,g,i=>by
  rw[HK,de,Int.mul_one,ae i]
 |x::l,k,v,h,g,i=>by
  have j:=h x Zt;have o:=sC (l:=l) λy f=>h y (Zk _ f);have q:v*x<=65536*4096:=br k7 j.2 k7 k7;have r:1*1<=v*x:=br g j.1 gy k7;rw[HK,de,nD k7 k7,<-b5];by_cases m:v*x>d
  ·rw[eD m,Tj,nD k7 k7,af];have:v*x*1<=v*x*de l:=Y3 o k7;omega
  ·rw[Zn m,Tf];dsimp only;exact acX N d n l (k+1) (v*x) (λy f=>h y (Zk _ f)) k7 k7
def avq(N:Nat)(d:Int)(h1:1<=d)(f:d<=65536)(l:U Int)(h:∀x∈l,1<=x/\x<=4096):Xt N l d=some (if de l<=d then de l else d+1):=by
 have:=acX N d f l 0 1 h gy h1
 rwa [cH]at this
def aaf(d:Int)(h1:1<=d)(f:d<=65536)(n:Int):decide ((if n<=d then n else d+1)>d)=decide (n>d):=by
 by_cases h:n<=d;{rw[ae h]};{rw[af h,eD (show d+1>d by omega),eD (show n>d by omega)]}
def aq3{P:U cl}{D:U aF}(g:lZ P)(h:hO D)(s:so):(dt P D s).2.1.length<=1000000000/\∀y∈(dt P D s).2.1,iT 1000000000 y:=by
 unfold dt;cases j:P.find? (λx=>bL x.ar==bL s)with
 |some x=>
  have:=List.mem_of_find?_eq_some j;exact⟨g.len x this,g.iu x this⟩
 |none=>
  dsimp only;cases k:D.find? (eW s)with
  |some d=>
   have i:=List.mem_of_find?_eq_some k;refine⟨?_,λy f=> ?_⟩;{have:=h.len d i;dsimp only;rw[Zw];omega};{obtain⟨a,ha,rfl⟩:=UZ.1 f;exact h.Kf i a ha}
  |none=>exact⟨by simp,λy f=>by cases f⟩
def dp(p:aI)(env:U aR)(s:so):U Int×aQ×Int:=
 let q:=dt p.aS p.ax s
 bif q.2.2 then
  (let x:=fx env q.2.1 []
   bif x.2 !=0 then([],q.1,x.2)else bif decide (de x.1>4096)then([],q.1,15)else(x.1,q.1,0))
 else([],q.1,9)
def yP(N:Nat)(h:2147483648<N)(p:aI)(env:U aR)(s:so)(d:lZ p.aS)(f:hO p.ax):Ec N p env s=some (dp p env s):=by
 unfold Ec dp GN;rw[Xq N p s d f,re];obtain⟨i,j⟩:=aq3 d f s;rw[SE N h env (dt p.aS p.ax s).2.1 0 [] j (by simpa using i)];dsimp only;cases (dt p.aS p.ax s).2.2 with
 |false=>rfl
 |true=>
  simp only[Tj,re];cases g:(fx env (dt p.aS p.ax s).2.1 []).2 !=0 with
  |true=>rfl
  |false=>
   rw[Tf,Tf,avq N 4096 gy gy _ (B9 env _ [] λx g=>by cases g),re,aaf 4096 gy gy];cases decide (de (fx env (dt p.aS p.ax s).2.1 []).1>4096)<;>rfl
def ahk(N:Nat)(L:U Int):xG N L L=some true:=by
 have d:∀(l:U Int)(k:Nat),L.drop k=l->wR N L l k=some true:=by
  intro l
  induction l with
  |nil=>intro k _;rfl
  |cons x l f=>intro k h;rw[wR,ZR,bA h,re,bne_self_eq_false,Tf];exact f (k+1) (ie h)
 unfold xG;rw[XB,Tf];exact d L 0 rfl
def iR:U Int->Int->U Int×Int
 |[],n=>([],n)
 |x::l,n=>((iR l n).2.tmod x::(iR l n).1,(iR l n).2.tdiv x)
def nC(ext:U Int)(n:Int):U Int:=(iR ext n).1
def MU:∀(l:U Int)(n:Int),(iR l n).1.length=l.length
 |[],_=>rfl
 |x::l,n=>by rw[iR];simp only[Zp];rw[MU l n]
def alQ(l:U Int)(n:Int):(nC l n).length=l.length:=MU l n
structure rR(l:List Int):Prop where
 r:∀x∈l,1<=x/\x<=4096
 n:l.length<=16
 p:de l<=65536
def Pt:∀{l:U Int}{n:Int},(∀x∈l,1<=x/\x<=4096)->0<=n->n<=65537->(0<=(iR l n).2/\(iR l n).2<=65537)/\∀x∈(iR l n).1,0<=x/\x<4096
 |[],n,_,g,i=>⟨⟨g,i⟩,λx j=>by cases j⟩
 |x::l,n,h,g,i=>by
  obtain⟨⟨f,k⟩,m⟩:=Pt (l:=l) (λy d=>h y (Zk _ d)) g i;have j:=h x Zt;rw[iR];refine⟨⟨Int.tdiv_nonneg f k7,?_⟩,λy d=> ?_⟩;{rw[aj f];exact Int.le_trans (Int.ediv_le_self _ f) k}
  ·rcases Za.1 d with rfl|d
   ·rw[Int.tmod_eq_emod_of_nonneg f];have:=Int.emod_nonneg (iR l n).2 (show x≠0 by omega);have:=Int.emod_lt_of_pos (iR l n).2 (show 0<x by omega);omega
   ·exact m y d
def alS{l:U Int}{n:Int}(h:∀x∈l,1<=x/\x<=4096)(h1:0<=n)(d:n<=65537):∀x∈nC l n,0<=x/\x<4096:=(Pt h h1 d).2
def XD{α:Type}{l:U α}{j:Nat}{x:α}(h:l[j]?=some x):l.drop j=x::l.drop (j+1):=by
 obtain⟨d,rfl⟩:=Zj.1 h;exact List.drop_eq_getElem_cons d
def akz{α:Type}(a b:α)(j:Nat)(l:U α):(List.replicate (j+1) a++l).set j b=List.replicate j a++(b::l):=by
 rw[List.replicate_succ',ZU,List.set_append_right _ _ gj];simp
def amm{α:Type}(a:α)(j:Nat)(l:U α):(List.replicate (j+1) a++l)[j]?=some a:=by
 rw[ZT gj];simp [List.getElem?_replicate]
def abp{z:Int}(h1:0<=z)(d:z<=65537):IntKind.i64.wrap z=z:=by
 rw[cR];omega
def acm(N:Nat)(ext:U Int)(n:Int)(h:∀x∈ext,1<=x/\x<=4096)(h1:0<=n)(d:n<=65537):∀(j f:Nat),j<=ext.length->j<f->j<=1000->
 Db N ext f (iR (ext.drop j) n).2 ((j:Int)-1) (List.replicate j 0++(iR (ext.drop j) n).1)=some (nC ext n,true)
 |0,f,o,q,_=>by
  obtain⟨f,rfl⟩:∃g,f=g+1:=⟨f-1,by omega⟩;rw[Db,Zn gy,Tf,Yn,List.replicate_zero,W5,show Nat.beq (iR ext n).1.length ext.length=true by rw[MU];exact Nat.beq_refl _];rfl
 |j+1,f,o,q,v=>by
  obtain⟨f,rfl⟩:∃g,f=g+1:=⟨f-1,by omega⟩;obtain⟨x,i⟩:∃x,ext[j]?=some x:=⟨_,Zd k7⟩;have w:=h x (ZZ i);have m:=XD i;have z:=(Pt (l:=ext.drop (j+1)) (n:=n) (λy k=>h y (a6 k)) h1 d).1;rw[Db,show((j+1:Nat):Int)-1=(j:Int) by omega,eD (show(j:Int)>=0 by omega),Tj,Tj,ZR,i,re,Ui.2 (show x≠0 by omega),Tj];have hb:(List.replicate (j+1) (0:Int)++(iR (ext.drop (j+1)) n).1).length=ext.length:=by
   rw[Zi,Ym,MU,ca];omega
  rw[hb,Nat.beq_refl,Tj,eD (show(j:Int)<(ext.length:Int) by omega),Tj,amm,re,akz];have r:IntKind.i64.wrap ((iR (ext.drop (j+1)) n).2.tdiv x)=(iR (ext.drop j) n).2:=by
    have e:=(Pt (l:=ext.drop j) (n:=n) (λy k=>h y (a6 k)) h1 d).1;rw[m,iR]at e ⊢;exact abp e.1 e.2
  have u:(iR (ext.drop (j+1)) n).2.tmod x::(iR (ext.drop (j+1)) n).1=(iR (ext.drop j) n).1:=by rw[m,iR]
  rw[r,u,nD k7 k7];exact acm N ext n h h1 d j f k7 k7 k7
def ahX(N:Nat)(ext:U Int):∀(l:U Int)(k:Nat),(∀x∈l,1<=x/\x<=4096)->MQ N ext l k false=C6 N false ext 0 1
 |[],k,_=>rfl
 |x::l,k,h=>by
  have f:=h x Zt;rw[MQ,Zn (show ¬x<0 by omega),Tf,Tf,re];dsimp only;rw[show(x==0)=false by rw[Tn];omega];exact ahX N ext l (k+1) λy d=>h y (Zk _ d)
def aeG(N:Nat):∀(l:U Int)(k:Nat)(v:Int),(∀x∈l,1<=x/\x<=4096)->1<=v->v*de l<=65536->C6 N false l k v=some 0
 |[],k,v,_,_,_=>rfl
 |x::l,k,v,h,i,f=>by
  have g:=h x Zt;have j:=sC (l:=l) λy d=>h y (Zk _ d);rw[de,<-b5]at f;have m:1*1<=v*x:=br i g.1 gy k7;have n:v*x*1<=v*x*de l:=Y3 j k7;have o:v*1<=v*x:=Y3 g.1 k7;have q:x<=(65536:Int).tdiv v:=by
   rw[aj gy];refine(Int.le_ediv_iff_mul_le k7).2 ?_;rw[Int.mul_comm];omega
  have r:(65536:Int).tdiv v<=65536:=by
   rw[aj gy];exact Int.ediv_le_self _ gy
  rw[C6,Tf,Ui.2 (show v≠0 by omega),Tj,re,abp k7 k7,Zn (show ¬x>(65536:Int).tdiv v by omega),Tf,Tf,nD k7 k7];exact aeG N l (k+1) (v*x) (λy d=>h y (Zk _ d)) k7 f
def ah4(N:Nat):∀(l:U Int)(k:Nat)(v:Int),(∀x∈l,1<=x/\x<=4096)->1<=v->v*de l<=65536->BH N l k v=some (v*de l)
 |[],k,v,_,_,_=>by rw[BH,de,Int.mul_one]
 |x::l,k,v,h,g,f=>by
  have i:=h x Zt;have j:=sC (l:=l) λy d=>h y (Zk _ d);rw[de,<-b5]at f ⊢;have m:1*1<=v*x:=br g i.1 gy k7;have n:v*x*1<=v*x*de l:=Y3 j k7;rw[BH,nD k7 k7];exact ah4 N l (k+1) (v*x) (λy d=>h y (Zk _ d)) k7 f
def aeN(N:Nat)(ext:U Int):∀(l:U Int)(k:Nat),(∀x∈l,1<=x/\x<=4096)->Mg N ext l k=BH N ext 0 1
 |[],k,_=>rfl
 |x::l,k,h=>by
  have f:=h x Zt;rw[Mg,show(x==0)=false by rw[Tn];omega,Tf];exact aeN N ext l (k+1) λy d=>h y (Zk _ d)
def agf(N:Nat)(l:U Int)(h:rR l):GJ N l=some (de l):=by
 have d:=h.n;unfold GJ QA;rw[Zn (show ¬(l.length:Int)>16 by omega),Tf,ahX N l l 0 h.r,aeG N l 0 1 h.r gy (by rw[cH];exact h.p),re,show((0:Int) !=0)=false from rfl,Tf,aeN N l l 0 h.r,ah4 N l 0 1 h.r gy (by rw[cH];exact h.p),cH]
def arV(N:Nat)(d:2147483648<N)(l:U Int)(h:rR l)(n:Int)(h1:0<=n)(f:n<de l):FV N l n=some (nC l n,true):=by
 have g:=h.n;have i:=h.p;unfold FV;rw[Zn (show ¬n<0 by omega),Tf,agf N l h,re,Zn (show ¬n>=de l by omega),re,Tf,fi k7,Tj];have:=acm N l n h.r h1 k7 l.length N (Zx _) k7 k7;rw[List.drop_length,iR]at this;rw[nD k7 k7]
 simpa using this
def lu(l:U Int)(k n:Nat):U (U Int):=(List.range' k n).map λ(i:Nat)=>nC l (i:Int)
def I8(l:U Int)(k n:Nat):lu l k (n+1)=nC l (k:Int)::lu l (k+1) n:=by
 unfold lu;rw[List.range'_succ,ZY]
def agy(N:Nat)(d:2147483648<N)(l:U Int)(h:rR l):∀(n k:Nat),(k:Int)+n<=de l->BT N l n k=some (lu l k n)
 |0,k,_=>rfl
 |n+1,k,f=>by
  rw[BT,arV N d l h (k:Int) k7 k7,re,Tj,agy N d l h n (k+1) k7,re,I8]
def ahW(N:Nat)(d:2147483648<N)(l:U Int)(h:rR l):Jl N l=some (lu l 0 (de l).toNat):=by
 have f:=h.p;have g:=sC h.r;unfold Jl;rw[agf N l h,re,eD (show(0:Int)<=de l by omega),fi (show(de l).toNat<=9223372036854775807 by omega),Bool.and_self,Tj];exact agy N d l h _ 0 k7
def agr(N:Nat)(l:U Int)(h:rR l):C2 N l=some l:=by
 have d:=h.n;unfold C2;rw[fi k7,Tj]
def bindN(names:U so)(d:U Int):U aR:=List.zipWith (λs v=>(⟨s,Int64.ofInt v⟩:aR)) names d
def anm(names:U so)(d:U Int)(h:names.length=d.length):(bindN names d).length=names.length:=by
 unfold bindN;rw[List.length_zipWith];omega
def agj(N:Nat)(env:U aR)(f:U Int)(h:∀x∈f,0<=x/\x<4096)(i:env.length<=1000000000):∀(l:U cq)(k:Nat)(d:U aR),l.length+k=f.length->d.length+l.length<=1000000000->JM N env f l k d=some (d++bindN (l.map (·.ar)) (f.drop k)++env)
 |[],k,d,_,ha=>by
  rw[JM,fi (by simp only[Zg]at ha;omega),Tj];unfold bindN;simp
 |x::l,k,d,j,ha=>by
  simp only[Zp]at j ha;obtain⟨v,g⟩:∃v,f[k]?=some v:=⟨_,Zd k7⟩;have m:=h v (ZZ g);rw[JM,ZR,g,re,nD k7 k7,Z3,Tj,fi k7,Tj];dsimp only;rw[agj N env f h i l (k+1) _ k7 (by simp only[Zi,Zp,Zg];omega),XD g];unfold bindN;simp
def abl(N:Nat)(l:U cq)(d:U Int)(env:U aR)(h:l.length=d.length)(h1:l.length<=1000000)(f:∀x∈d,0<=x/\x<4096)(g:env.length<=1000000000):OY N l d env=some (bindN (l.map (·.ar)) d++env):=by
 have:=agj N env d f g l 0 [] k7 (by simp only[Zg];omega);rw[Yn,W5]at this;exact this
def ag4:∀{ext:U Int}{n:Int}{e:Int},ext[ext.length-1]?=some e->(nC ext n)[ext.length-1]?=some (n.tmod e)
 |[],n,e,h=>by simp at h
 |[x],n,e,h=>by
  simp only[Zp,Zg,ZQ,Nat.sub_self,List.getElem?_cons_zero,Vg]at h;subst h;rfl
 |x::y::l,n,e,h=>by
  have d:(y::l)[(y::l).length-1]?=some e:=by
   simp only[Zp,Nat.add_sub_cancel]at h ⊢
   rwa [Yx]at h
  have:=ag4 (n:=n) d;simp only[Zp,Nat.add_sub_cancel]at this ⊢;show(((iR (y::l) n).2.tmod x::(iR (y::l) n).1):U Int)[l.length+1]?=_;rw[Yx];exact this
abbrev acC(l:U so):Prop:=l.Pairwise λa b=>lt a b=true
def abx(d:Array (U UInt8))(l:∀i j,i<j->j<d.size->d[i]! <=d[j]!):∀m,m<=d.size->(Lib.compactUpTo d m).Pairwise (·<·)/\(∀x∈Lib.compactUpTo d m,∃j,j<m/\d[j]! =x)/\∀j,j<m->d[j]! ∈Lib.compactUpTo d m
 |0,_=>by
  have v:Lib.compactUpTo d 0=[]:=rfl;rw[v];exact⟨List.Pairwise.nil,(λx f=>by cases f),(λj k=>by omega)⟩
 |m+1,E=>by
  obtain⟨r,n,o⟩:=abx d l m k7;rw[Lib.compactUpTo_succ];cases g:Lib.keeps d m with
  |true=>
   rw[ae rfl];refine⟨List.pairwise_append.2 ⟨r,List.pairwise_singleton _ _,λx f y u=> ?_⟩,λx f=> ?_,λj k=> ?_⟩
   ·rw[ah]at u;subst u;obtain⟨j,k,rfl⟩:=n x f;refine Classical.byContradiction λw=> ?_;have q:d[m]! <=d[j]! :=List.not_lt.mp w;have z:d[j]! <=d[m-1]! :=by
      by_cases e:j=m-1;{rw[e];exact List.le_refl _};{exact l j (m-1) k7 k7}
    have A:d[m-1]! <=d[m]! :=l (m-1) m k7 k7;have B:d[m]! =d[m-1]! :=List.le_antisymm (List.le_trans q z) A;unfold Lib.keeps at g;rw[UL]at g;rcases g with g|g
    ·omega
    ·exact g B
   ·rcases ZM.1 f with f|f
    ·obtain⟨j,k,e⟩:=n x f;exact⟨j,by omega,e⟩
    ·rw[ah]at f;exact⟨m,by omega,f.symm⟩
   ·by_cases e:j=m
    ·subst e;exact aa _ (ah.2 rfl)
    ·exact aq _ (o j k7)
  |false=>
   rw[af gj,ZW];refine⟨r,λx f=> ?_,λj k=> ?_⟩;{obtain⟨j,k,e⟩:=n x f;exact⟨j,by omega,e⟩}
   ·by_cases e:j=m
    ·subst e;unfold Lib.keeps at g;rw[UF]at g;have F:j≠0:=λh=>g (.inl h);have C:d[j]! =d[j-1]! :=Classical.byContradiction λh=>g (.inr h);rw[C];exact o (j-1) k7
    ·exact o j k7
def ant(d:U so):(jy d).Pairwise λx y=>x<=y:=by
 have:=List.pairwise_mergeSort (le:=λx y:U UInt8=>decide (x<=y)) (λa b c f g=>by rw[UL]at*;exact List.le_trans f g) (λa b=>by rw[bh,UL,UL];exact List.le_total a b) (d.map bL);exact this.imp λh=>by rwa [UL]at h
def agn(ss:U so):acC (jH ss)/\∀s,s∈jH ss↔s∈ss:=by
 have h:=ant ss;obtain⟨k,l,m⟩:=abx (jy ss).toArray (λi j n f=>by
  have o:j<(jy ss).length:=by simpa using f
  have:=List.pairwise_iff_getElem.1 h i j k7 o n;rw[getElem!_pos _ i (by simp;omega),getElem!_pos _ j f]
  simpa using this) (jy ss).length gj
 have mem:∀x,x∈Lib.compact (jy ss)↔x∈jy ss:=λx=>by
  constructor;{intro d;obtain⟨j,f,rfl⟩:=l x d;rw[getElem!_pos _ j (by simpa using f)];simp}
  ·intro d;obtain⟨j,f,rfl⟩:=ak.1 d;have:=m j f;rw[getElem!_pos _ j (by simpa using f)]at this;unfold Lib.compact
   simpa using this
 unfold jH;constructor;{rw[acC,List.pairwise_map];refine List.Pairwise.imp ?_ k;intro a b g;rw[XE];exact g}
 ·intro s;rw[UZ];constructor
  ·rintro⟨x,d,rfl⟩;rw[mem]at d;unfold jy at d;rw[List.mem_mergeSort,UZ]at d;obtain⟨y,q,rfl⟩:=d;exact q
  ·intro r;refine⟨bL s,(mem _).2 ?_,rfl⟩;unfold jy;rw[List.mem_mergeSort,UZ];exact⟨s,r,rfl⟩
def oC:U aT->U so
 |[]=>[]
 |x::l=>bif bL x.bp==bL (bs [])then oC l else x.bp::oC l
def wP(e:au):U so:=(bif e.aA==3 then[e.ar]else[])++oC e.xIdx
def l5:U au->U so
 |[]=>[]
 |e::l=>wP e++l5 l
def af5:∀l:U aT,(oC l).length<=l.length
 |[]=>Zx _
 |x::l=>by
  have:=af5 l;rw[oC];cases bL x.bp==bL (bs [])with
  |true=>simp only[Tj,Zp];omega
  |false=>simp only[Tf,Zp];omega
def V2(B:Nat):∀l:U au,(∀x∈l,x.xIdx.length<=B)->(l5 l).length<=l.length*(B+1)
 |[],_=>by simp [l5]
 |e::l,h=>by
  have f:=V2 B l λx d=>h x (Zk _ d);have g:=h e Zt;have i:=af5 e.xIdx;rw[l5];unfold wP;simp only[Zi,Zp,Nat.succ_mul];have j:(bif e.aA==3 then[e.ar]else[]).length<=1:=by cases e.aA==3<;>simp
  omega
def Nk(N:Nat)(c:Nat->U so->O (U so)):∀(l:U aT)(k:Nat)(d:U so),d.length+(oC l).length<=1000000000->uX N c l k d.length d=c (d++oC l).length (d++oC l)
 |[],k,d,_=>by rw[uX,oC,ZW]
 |x::l,k,d,h=>by
  rw[uX];rw[oC]at h ⊢;cases hb:(bL x.bp==bL (bs []))with
  |true=>
   rw[hb,Tj]at h;rw[Tj,Tj];exact Nk N c l (k+1) d h
  |false=>
   rw[hb,Tf,Zp]at h;rw[Tf,Tf,Nat.beq_refl,Tj,fi k7,Tj];have:=Nk N c l (k+1) (d++[x.bp]) (by simp only[Zi,Zp,Zg];omega);rw[show d++x.bp::oC l=(d++[x.bp])++oC l by simp,<-this,Zi];rfl
def Uo(N:Nat):∀(l:U au)(d:U so),d.length+(l5 l).length<=1000000000->qc N l d.length d=some (jH (d++l5 l))
 |[],d,h=>by
  rw[qc,l5,ZW];unfold TZ;rw[Nat.beq_refl,show Nat.blt d.length 4611686018427387904=true from X7 k7];rfl
 |e::l,d,h=>by
  rw[qc];rw[l5]at h ⊢;unfold wP at h ⊢;simp only[Zi]at h;cases hb:(e.aA==3)with
  |true=>
   rw[hb]at h;simp only[Tj,Zp,Zg]at h;rw[Tj,Tj,Nat.beq_refl,Tj,fi k7,Tj];unfold Bj;have q:=Nk N (λf g=>qc N l f g) e.xIdx 0 (d++[e.ar]) (by simp only[Zi,Zp,Zg];omega);rw[show(d++[e.ar]).length=d.length+1 by simp]at q;rw[q,Uo N l _ (by simp only[Zi,Zp,Zg];omega)];simp
  |false=>
   rw[hb]at h;simp only[Tf,Zg]at h;rw[Tf,Tf];unfold Bj;have q:=Nk N (λf g=>qc N l f g) e.xIdx 0 d k7;rw[q,Uo N l _ (by simp only[Zi];omega)];simp
def agV{e:au}(h:lW e=0):(dx e).length<=2000:=by
 unfold lW at h;cases d:decide (40<ov 40 e)with
 |true=>rw[d]at h;cases h
 |false=>
  rw[d,Tf]at h;cases f:decide (2000<(dx e).length)with
  |true=>rw[f]at h;cases h
  |false=>rw[UF]at f;omega
noncomputable def rk(e:au):U so:=jH (l5 (dx e))
def auf{e:au}(d:lW e=0)(f:jR 400 e):(l5 (dx e)).length<=1000000:=by
 have g:=agV d;have hb:=V2 400 (dx e) λx h=>(f x h).idx;have:(dx e).length*(400+1)<=2000*401:=Nat.mul_le_mul g (Zx _);omega
def aia(N:Nat)(e:au)(hb:(l5 (dx e)).length<=1000000):Gy N e=some (rk e):=by
 unfold Gy yr;rw[re];have:=Uo N (dx e) [] (by simp only[Zg];omega);rw[W5]at this;exact this
def vH(f:Int):Int:=bif f==1||f==5 then 4 else bif f==2 then 6 else bif f==3 then 9 else 10
def mW(f:Int)(t:aQ)(a b:aH):Except Int aH:=bif decide (1<=f)&&decide (f<=5)then(bif dj t a&&dj t b then(bif (lr (vH f) t a b).2 !=0 then .error (lr (vH f) t a b).2 else .ok (lr (vH f) t a b).1)else .error 1)else .error 1
def AgD(r:Except Int aH)(q:aH×Int):Prop:=match r with
 | .ok x=>q=(x,0)
 | .error z=>q.2=z/\z≠0
def anO(N:Nat)(f:Int):Lh N f=some (bif decide (1<=f)&&decide (f<=5)then(vH f,true)else(0,false)):=by
 unfold Lh K1 vH;by_cases h:1<=f/\f<=5
 ·rw[eD h.1,eD h.2];have:f=1\/f=2\/f=3\/f=4\/f=5:=by omega
  rcases this with h|h|h|h|h<;>rw[h]<;>rfl
 ·have e:(decide (1<=f)&&decide (f<=5))=false:=by
   by_cases d:1<=f;{rw[Zn (show ¬f<=5 by omega),Bool.and_false]};{rw[Zn d];rfl}
  rw[e,show(f==1)=false by rw[Tn];omega,show(f==2)=false by rw[Tn];omega,show(f==3)=false by rw[Tn];omega,show(f==4)=false by rw[Tn];omega,show(f==5)=false by rw[Tn];omega];rfl
def agA(N:Nat)(d:9223372036854775808<N)(f:Int)(t:aQ)(a b:aH)(ht:dD t=true):∃q,HX N f t [a,b]=some q/\AgD (mW f t a b) q:=by
 unfold HX mW;rw[anO,re];cases h:(decide (1<=f)&&decide (f<=5))with
 |false=>exact⟨_,rfl,rfl,by decide⟩
 |true=>
  rw[Tj,Tj,Tj,sS,re,ht,Tj];show ∃q,Option.bind (nR N t a) _=some q/\_;rw[rI N k7 t a ht,re];cases i:dj t a with
  |false=>exact⟨_,rfl,rfl,by decide⟩
  |true=>
   rw[Tj];show ∃q,Option.bind (nR N t b) _=some q/\_;rw[rI N k7 t b ht,re];cases j:dj t b with
   |false=>exact⟨_,rfl,rfl,by decide⟩
   |true=>
    rw[Tj];show ∃q,Option.bind (z6 N (vH f) t a b) _=some q/\_;rw[Rc N d,re];cases g:((lr (vH f) t a b).2 !=0)with
    |true=>exact⟨_,rfl,rfl,by simpa using g⟩
    |false=>exact⟨_,rfl,rfl⟩
def aaY(N:Nat)(v:U Int):∀(l:U Int)(k:Nat),LI N v l k=wR N v l k
 |[],_=>rfl
 |x::l,k=>by rw[LI,wR,aaY N v l (k+1)]
def abm(N:Nat)(a b:U Int):Pa N a b=xG N a b:=by
 unfold Pa xG;rw[aaY]
def ag2(N:Nat)(v:U Int):∀(l:U Int)(k:Nat),l.length+k<=v.length->∃b,wR N v l k=some b
 |[],_,_=>⟨_,rfl⟩
 |x::l,k,h=>by
  simp only[Zp]at h;rw[wR,ZR,Zd (show k<v.length by omega),re];cases x !=v[k]with
  |true=>exact⟨_,rfl⟩
  |false=>exact ag2 N v l (k+1) k7
def atg(N:Nat)(a b:U Int):∃q,xG N a b=some q:=by
 unfold xG;cases h:((a.length:Int) !=(b.length:Int))with
 |true=>exact⟨_,rfl⟩
 |false=>
  rw[bne_eq_false_iff_eq]at h;exact ag2 N b a 0 k7
def PX(N:Nat)(f:2147483648<N)(mem:U aO)(s:so)(t:aQ)(d:U Int):∃x,qO N mem s t d=some x/\(x=0->∃y,dY mem s=some y/\jD y=true/\y.aw=t):=by
 unfold qO;rw[CQ,re];cases k:dY mem s with
 |none=>exact⟨9,rfl,λh=>by cases h⟩
 |some y=>
  simp only[Tj];obtain⟨l,g,i⟩:=WE N f y;rw[g,re,i];cases ht:jD y with
  |false=>exact⟨1,rfl,λh=>by cases h⟩
  |true=>
   simp only[VX,Tf];show ∃x,(bif ji y.aw t then _ else _)=some x/\_;cases j:ji y.aw t with
   |false=>exact⟨10,rfl,λh=>by cases h⟩
   |true=>
    obtain⟨b,hb⟩:=atg N y.aJ d;rw[abm,hb];cases b with
    |true=>exact⟨0,rfl,λ_=>⟨y,rfl,ht,ER.1 j⟩⟩
    |false=>exact⟨15,rfl,λh=>by cases h⟩
def aeO(p:aI)(env:U aR)(s:so):(dp p env s).2.1=(dt p.aS p.ax s).1:=by
 unfold dp;dsimp only;cases (dt p.aS p.ax s).2.2 with
 |false=>rfl
 |true=>
  rw[Tj];cases (fx env (dt p.aS p.ax s).2.1 []).2 !=0 with
  |true=>rfl
  |false=>cases decide (de (fx env (dt p.aS p.ax s).2.1 []).1>4096)<;>rfl
def zD(p:aI)(mem:U aO)(s:so):Prop:=∃y,dY mem s=some y/\jD y=true/\y.aw=(dt p.aS p.ax s).1
def ahV(N:Nat)(d:2147483648<N)(p:aI)(env:U aR)(mem:U aO)(i:lZ p.aS)(j:hO p.ax):∀(l:U so)(k:Nat),∃x,CF N p env mem l k=some x/\(x=0->∀s∈l,zD p mem s)
 |[],k=>⟨0,rfl,λ_ s n=>by cases n⟩
 |s::l,k=>by
  rw[CF,yP N d p env s i j,re];cases m:((dp p env s).2.2 !=0)with
  |true=>exact⟨_,rfl,λh=>by have o:(dp p env s).2.2=0:=h;rw[o]at m;cases m⟩
  |false=>
   rw[Tf];obtain⟨x,q1,q⟩:=PX N d mem s (dp p env s).2.1 (dp p env s).1;rw[q1,re];cases f:x !=0 with
   |true=>exact⟨x,rfl,λh=>by rw[h]at f;cases f⟩
   |false=>
    obtain⟨z,r,v⟩:=ahV N d p env mem i j l (k+1);refine⟨z,r,λh u g=> ?_⟩;rcases Za.1 g with rfl|g
    ·have:=q (by simpa using f)
     rwa [aeO]at this
    ·exact v h u g
def ahO(N:Nat)(f:2147483648<N)(p:aI)(env:U aR)(mem:U aO)(g:lZ p.aS)(h:hO p.ax)(d:aF)(hb:(l5 (dx d.aX)).length<=1000000):∃x,tD N p env mem d.aX=some x/\(x=0->∀s∈rk d.aX,zD p mem s):=by
 unfold tD;rw[aia N d.aX hb,re];exact ahV N f p env mem g h _ 0
def qT{l:U so}{s:so}:cy l s=true↔s∈l:=by
 unfold cy;rw[List.any_eq_true];constructor;{rintro⟨w,d,e⟩;rw[TC]at e;rw[<-Yk e];exact d};{intro h;exact⟨s,h,by simp⟩}
def US{α:Type}{f:α->Int}:∀{l:U α},ir f l=0->∀x∈l,f x=0
 |x::l,h,y,d=>by
  rw[ir]at h;cases e:f x !=0 with
  |true=>rw[e]at h;simp only[Tj]at h;rw[h]at e;cases e
  |false=>
   rw[e]at h;simp only[Tf]at h;rcases Za.1 d with rfl|d
   ·exact gw e
   ·exact US h y d
def Jv(S:U so):U so->U cl->Prop
 |_,[]=>True
 |T,x::l=>A4 S T x=0/\Jv S (T++[x.ar]) l
def QE:U so->U aF->Prop
 |_,[]=>True
 |T,d::l=>ja T d.ar=0/\QE (T++[d.ar]) l
structure aa8(p:aI):Prop where
 names:qm [] p.bj=0
 wh:∀c∈p.cO,jA p.bj c.aU=0
 wG:Jv p.bj [] p.aS
 defs:QE (p.bj++p.aS.map (·.ar)) p.ax
 outs:∀s∈p.cB,s∈p.aS.map (·.ar)++p.ax.map (·.ar)
section
variable {N:Nat} {p:aI}
def adx(f:hO p.ax):∀(l:U so)(k:Nat)(at_:Int){a:Int},oP N p l k at_=some (a,0)->∀s∈l,s∈p.aS.map (·.ar)++p.ax.map (·.ar)
 |s::l,k,at_,a,h,y,d=>by
  rw[oP,Nu N p s f,re,KT]at h;cases e:cy (p.aS.map (·.ar)++p.ax.map (·.ar)) s with
  |false=>rw[e]at h;cases h
  |true=>
   rw[e]at h;simp only[Tj]at h;obtain⟨_,h⟩:=kA h;rw[OL,re]at h;cases g:cy ((p.cB.take ((k:Int)).toNat).drop 0) s with
   |true=>rw[g]at h;cases h
   |false=>
    rw[g]at h;rcases Za.1 d with rfl|d
    ·exact qT.1 e
    ·exact adx f l (k+1) (aY (at_+1)) h y d
def aov(f:16<N){k:Nat}{d:aF}{T:U so}(g:p.ax[k]?=some d)(h:uC N p (k:Int) T=some 0):ja T d.ar=0:=by
 unfold uC at h;obtain⟨_,h⟩:=kA h;rw[ZR,g,re,Gt N f,re]at h;cases e:ja T d.ar !=0 with
 |false=>exact gw e
 |true=>rw[e]at h;simp only[Tj]at h;rw[Zl h]at e;cases e
def afu(i:16<N):∀(l:U aF)(k:Nat)(at_:Int)(T:U so){a:Int},p.ax.drop k=l->nH N p l k T at_=some (a,0)->QE T l/\∃g a',oP N p p.cB 0 g=some (a',0)
 |[],k,at_,T,a,_,h=>⟨trivial,at_,a,h⟩
 |d::l,k,at_,T,a,j,h=>by
  rw[nH]at h;obtain⟨x,e,h⟩:=bJ h;cases f:x !=0 with
  |true=>rw[f]at h;simp only[Tj]at h;rw[(Prod.mk.inj (Zl h)).2]at f;cases f
  |false=>
   rw[f]at h;obtain⟨_,h⟩:=kA h;have m:=gw f;rw[m]at e;obtain⟨n,o⟩:=afu i l (k+1) _ _ (ie j) h;exact⟨⟨aov i (bA j) e,n⟩,o⟩
def V5(j:16<N):∀(l:U cl)(k:Nat)(at_:Int)(T:U so){a:Int},lZ l->p8 N p l k (p.bj++T) at_=some (a,0)->Jv p.bj T l/\∃g a',nH N p p.ax 0 (p.bj++(T++l.map (·.ar))) g=some (a',0)
 |[],k,at_,T,a,_,h=>⟨trivial,at_,a,by rw[ai,ZW];exact h⟩
 |x::l,k,at_,T,a,i,h=>by
  rw[p8,Q3 N j x p.bj T (λy d=>(i.iu x Zt y d).ok),re]at h;cases f:A4 p.bj T x !=0 with
  |true=>rw[f]at h;simp only[Tj]at h;rw[(Prod.mk.inj (Zl h)).2]at f;cases f
  |false=>
   rw[f]at h;obtain⟨_,h⟩:=kA h;dsimp only at h;rw[ZU]at h;obtain⟨n,m⟩:=V5 j l (k+1) _ (T++[x.ar]) ⟨λy d=>i.len y (Zk _ d),λy d=>i.iu y (Zk _ d)⟩ h;rw[ZU]at m;exact⟨⟨gw f,n⟩,m⟩
def amd(g:16<N)(B:Bd N p){a:Int}(h:w9 N p=some (a,0)):aa8 p:=by
 have j:=B.s;unfold w9 Hz at h;rw[Ll,re]at h;cases e:rh p with
 |false=>rw[e]at h;cases h
 |true=>
  rw[e]at h;simp only[VX,Tf]at h;rw[Hi g p.bj 0 rfl,re,List.take_zero]at h;cases d:qm [] p.bj !=0 with
  |true=>rw[d]at h;simp only[Tj]at h;rw[(Prod.mk.inj (Zl h)).2]at d;cases d
  |false=>
   rw[d]at h;simp only[Tf]at h;rw[Gu g j p.cO 0 B.W]at h;cases f:ir (λc:cQ=>jA p.bj c.aU) p.cO !=0 with
   |true=>rw[f]at h;simp only[Tj]at h;rw[(Prod.mk.inj (Zl h)).2]at f;cases f
   |false=>
    rw[f]at h;simp only[Tf]at h;obtain⟨k,l,q,i⟩:=V5 g p.aS 0 2 [] B.P (by rw[ZW];exact h);rw[W5]at i;obtain⟨m,n,r,o⟩:=afu g p.ax 0 l _ rfl i;exact⟨gw d,US (gw f),k,m,adx B.D p.cB 0 n o⟩
end
structure DQ(N:Nat)(p:aI)(k:Nat)(T:List ByteArray)(d:aF):Prop where
 name:ja T d.ar=0
 type:dD d.aw=true
 l1:d.aJ.length<=6
 l2:d.bI.length<=6
 Uz:p9 p.bj [] (d.aJ++d.bI)=0
 fold:wN d=0
 tp:∃t:aQ,uZ N (⟨p.bj,[],p.aS,((p.ax.take k).drop 0),[]⟩:aI) (rf d) d.aX=some (t,0)/\((t.bt==d.aw.bt)&&((t.bW==d.aw.bW)&&((t.bR==d.aw.bR)&&((t.b9==d.aw.b9)&&((t.b8==d.aw.b8)&&true)))))=true
structure VQ(N:Nat)(p:aI):Prop where
 names:qm [] p.bj=0
 wh:∀c∈p.cO,jA p.bj c.aU=0
 wG:Jv p.bj [] p.aS
 defs:∀k d,p.ax[k]?=some d->DQ N p k (p.bj++p.aS.map (·.ar)++(p.ax.take k).map (·.ar)) d
 outs:∀k s,p.cB[k]?=some s->cy (p.aS.map (·.ar)++p.ax.map (·.ar)) s=true/\cy (p.cB.take k) s=false
def ahT{c m:Nat}{α:Type}{x:O α}{z:α}(h:(bif Nat.ble c m then x else none)=some z):x=some z:=by
 cases e:Nat.ble c m with
 |false=>rw[e]at h;cases h
 |true=>rw[e]at h;exact h
def ahe{b:Bool}{α:Type}{x:O α}{z:α}(h:(bif b then x else none)=some z):b=true/\x=some z:=by
 cases b with
 |false=>cases h
 |true=>exact⟨rfl,h⟩
def P3{a:Int}{x:O Int}(h:(bif a !=0 then some a else x)=some 0):a=0/\x=some 0:=by
 cases e:a !=0 with
 |true=>rw[e]at h;simp only[Tj]at h;rw[Zl h]at e;cases e
 |false=>rw[e]at h;exact⟨gw e,h⟩
section
variable {N:Nat} {p:aI}
def apB(i:16<N){k:Nat}{d:aF}{T:U so}(l:p.ax[k]?=some d)(v:p.bj.length<=1000)(m:∀x∈d.aJ++d.bI,lv x.dq)(h:uC N p (k:Int) T=some 0):DQ N p k T d:=by
 unfold uC at h;obtain⟨_,h⟩:=ahe h;rw[ZR,l,re,Gt N i,re]at h;obtain⟨n,h⟩:=P3 h;rw[Ur,re]at h;cases g:dD d.aw with
 |false=>rw[g]at h;cases h
 |true=>
  rw[g,Tj,xS,xS,sD,re]at h;cases f: !decide (d.aJ.length<=6)|| !decide (d.bI.length<=6)with
  |true=>rw[f]at h;cases h
  |false=>
   rw[f,Tf]at h;simp only[Yy,Bool.not_eq_false',UL]at f;have h:=ahT (ahT h);rw[Vk N i p.bj _ m (by rw[Zi];omega),re]at h;obtain⟨o,h⟩:=P3 h;rw[QN,re]at h;obtain⟨q,h⟩:=P3 h;obtain⟨_,h⟩:=ahe h;rw[Xw N d k7,re]at h;obtain⟨⟨t,x⟩,r,h⟩:=bJ h;obtain⟨j,h⟩:=P3 h;dsimp only at j h;subst j;refine⟨n,g,f.1,f.2,o,q,t,r,?_⟩;cases u:((t.bt==d.aw.bt)&&((t.bW==d.aw.bW)&&((t.bR==d.aw.bR)&&((t.b9==d.aw.b9)&&((t.b8==d.aw.b8)&&true)))))with
   |true=>rfl
   |false=>rw[u]at h;cases h
def aka(f:16<N){k:Nat}{d:aF}{T:U so}(g:p.ax[k]?=some d)(v:p.bj.length<=1000)(i:∀x∈d.aJ++d.bI,lv x.dq)(h:DQ N p k T d):uC N p (k:Int) T=some 0:=by
 obtain⟨j,l,m,n,o,q,t,r,u⟩:=h;have w:k<p.ax.length:=(Zj.1 g).1;unfold uC;rw[ZR,g,re,Gt N f,re,j,Ur,re,l,xS,xS,sD,re,Vk N f p.bj _ i (by rw[Zi];omega),re,o,QN,re,q,Xw N d k7,re];have e:uZ N (⟨p.bj,[],p.aS,(p.ax.take k).drop 0,[]⟩:aI) ((d.aJ++d.bI).map (·.ar)) d.aX=some (t,0):=r;rw[e,re,eD (show(0:Int)<=(k:Int) by omega),eD m,eD n,eD (show k<=p.ax.length by omega),X7 (show(0+d.aJ.length)*48<=140737488355328 by omega),X7 (show(d.aJ.length+d.bI.length)*48<=140737488355328 by omega)];simp only[Tj,Tf,VX,Bool.or_self,bne_self_eq_false,u]
def afk(j:hO p.ax):∀(l:U so)(k:Nat)(at_:Int){a:Int},p.cB.drop k=l->oP N p l k at_=some (a,0)->∀i s,k<=i->p.cB[i]?=some s->cy (p.aS.map (·.ar)++p.ax.map (·.ar)) s=true/\cy (p.cB.take i) s=false
 |[],k,at_,a,d,h,i,s,m,n=>by
  have:=(Zj.1 n).1;have:=List.drop_eq_nil_iff.1 d;omega
 |s::l,k,at_,a,d,h,i,y,m,f=>by
  rw[oP,Nu N p s j,re,KT]at h;cases e:cy (p.aS.map (·.ar)++p.ax.map (·.ar)) s with
  |false=>rw[e]at h;cases h
  |true=>
   rw[e]at h;simp only[Tj]at h;obtain⟨_,h⟩:=kA h;rw[OL,re]at h;cases g:cy ((p.cB.take ((k:Int)).toNat).drop 0) s with
   |true=>rw[g]at h;cases h
   |false=>
    rw[g]at h;rcases Nat.lt_or_ge k i with o|q
    ·exact afk j l (k+1) (aY (at_+1)) (ie d) h i y o f
    ·have:i=k:=by omega
     subst this;rw[bA d]at f;cases f
     exact⟨e,g⟩
def afe(f:hO p.ax)(h:∀i s,p.cB[i]?=some s->cy (p.aS.map (·.ar)++p.ax.map (·.ar)) s=true/\cy (p.cB.take i) s=false):∀(l:U so)(k:Nat)(at_:Int),p.cB.drop k=l->∃a,oP N p l k at_=some (a,0)
 |[],k,at_,d=>⟨_,by rw[oP]⟩
 |s::l,k,at_,d=>by
  obtain⟨a,ha⟩:=afe f h l (k+1) (aY (at_+1)) (ie d);obtain⟨g,j⟩:=h k s (bA d);have m:=mg d;refine⟨a,?_⟩;rw[oP,Nu N p s f,re,KT,g,Tj,OL,re,ZR,Yn,j,eD (show k<=p.cB.length by omega)];exact ha
def afQ(o:16<N)(q:hO p.ax)(r:p.bj.length<=1000):∀(l:U aF)(k:Nat)(at_:Int){a:Int},p.ax.drop k=l->nH N p l k (p.bj++p.aS.map (·.ar)++(p.ax.take k).map (·.ar)) at_=some (a,0)->
 (∀i d,k<=i->p.ax[i]?=some d->DQ N p i (p.bj++p.aS.map (·.ar)++(p.ax.take i).map (·.ar)) d)/\∃j a',oP N p p.cB 0 j=some (a',0)
 |[],k,at_,a,f,h=>⟨λi d u v=>by
    have:=(Zj.1 v).1;have:=List.drop_eq_nil_iff.1 f;omega,at_,a,h⟩
 |d::l,k,at_,a,f,h=>by
  rw[nH]at h;obtain⟨x,e,h⟩:=bJ h;cases g:x !=0 with
  |true=>rw[g]at h;simp only[Tj]at h;rw[(Prod.mk.inj (Zl h)).2]at g;cases g
  |false=>
   rw[g]at h;obtain⟨_,h⟩:=kA h;have m:=gw g;rw[m]at e;have w:p.bj++p.aS.map (·.ar)++(p.ax.take k).map (·.ar)++[d.ar]=p.bj++p.aS.map (·.ar)++(p.ax.take (k+1)).map (·.ar):=by
     rw[Qa f,ab,ZU (p.bj++p.aS.map (·.ar))];rfl
   dsimp only at h;rw[w]at h;obtain⟨z,A⟩:=afQ o q r l (k+1) _ (ie f) h;refine⟨λi B u n=> ?_,A⟩;rcases Nat.lt_or_ge k i with C|E
   ·exact z i B C n
   ·have:i=k:=by omega
    subst this;rw[bA f]at n;cases n
    exact apB o (bA f) r (λx m=>(q.iu d (yg (bA f)) x m).ok) e
def afW(i:16<N)(g:hO p.ax)(j:p.bj.length<=1000)(m:p.aS.length<=1000)(n:p.ax.length<=1000)(h:VQ N p):∀(l:U aF)(k:Nat)(at_:Int),p.ax.drop k=l->∃a,nH N p l k (p.bj++p.aS.map (·.ar)++(p.ax.take k).map (·.ar)) at_=some (a,0)
 |[],k,at_,f=>by
  obtain⟨a,ha⟩:=afe (N:=N) g h.outs p.cB 0 at_ rfl;exact⟨a,by rw[nH];exact ha⟩
 |d::l,k,at_,f=>by
  obtain⟨a,ha⟩:=afW i g j m n h l (k+1) (aY (at_+1)) (ie f);have r:=mg f;have o:p.bj++p.aS.map (·.ar)++(p.ax.take k).map (·.ar)++[d.ar]=p.bj++p.aS.map (·.ar)++(p.ax.take (k+1)).map (·.ar):=by
   rw[Qa f,ab,ZU (p.bj++p.aS.map (·.ar))];rfl
  rw[<-o]at ha;refine⟨a,?_⟩;rw[nH,aka i (bA f) j (λx q=>(g.iu d (yg (bA f)) x q).ok) (h.defs k d (bA f)),re,X7 (show((p.bj++p.aS.map (·.ar)++(p.ax.take k).map (·.ar)).length+1)*16<=140737488355328 by
    simp only[Zi,Zw,b6];omega)]
  exact ha
def arF(f:16<N):∀(l:U cl)(k:Nat)(at_:Int)(T:U so){a:Int},lZ l->p8 N p l k (p.bj++T) at_=some (a,0)->∃d a',nH N p p.ax 0 (p.bj++(T++l.map (·.ar))) d=some (a',0):=λl k at_ T a g h=>(V5 f l k at_ T g h).2
def agp(f:16<N)(i:hO p.ax)(j:p.bj.length<=1000)(m:p.aS.length<=1000)(n:p.ax.length<=1000)(h:VQ N p):∀(l:U cl)(k:Nat)(at_:Int)(T:U so),T++l.map (·.ar)=p.aS.map (·.ar)->lZ l->Jv p.bj T l->∃a,p8 N p l k (p.bj++T) at_=some (a,0)
 |[],k,at_,T,ht,_,_=>by
  obtain⟨a,ha⟩:=afW f i j m n h p.ax 0 at_ rfl;refine⟨a,?_⟩;rw[ai,ZW]at ht;rw[List.take_zero,ai,ZW]at ha;rw[p8,ht];exact ha
 |x::l,k,at_,T,ht,g,o=>by
  obtain⟨a,ha⟩:=agp f i j m n h l (k+1) (aY (at_+1)) (T++[x.ar]) (by rw[<-ht,ZU];rfl) ⟨λy d=>g.len y (Zk _ d),λy d=>g.iu y (Zk _ d)⟩ o.2;have q:T.length<=1000:=by
   have:=congrArg List.length ht;rw[Zi,Zw,Zw]at this;omega
  refine⟨a,?_⟩;rw[p8,Q3 N f x p.bj T (λy d=>(g.iu x Zt y d).ok),re,o.1,X7 (show((p.bj++T).length+1)*16<=140737488355328 by rw[Zi];omega)];show p8 N p l (k+1) (p.bj++T++[x.ar]) (aY (at_+1))=_;rw[ZU];exact ha
def Wz{α:Type}{f:α->Int}:∀{l:U α},(∀x∈l,f x=0)->ir f l=0
 |[],_=>rfl
 |x::l,h=>by
  rw[ir,h x Zt];exact Wz λy d=>h y (Zk _ d)
def agU(f:16<N)(B:Bd N p){a:Int}(h:w9 N p=some (a,0)):VQ N p:=by
 have g:=B.s;have V:=amd f B h;unfold w9 Hz at h;rw[Ll,re]at h;cases e:rh p with
 |false=>rw[e]at h;cases h
 |true=>
  rw[e]at h;simp only[VX,Tf]at h;rw[Hi f p.bj 0 rfl,re,List.take_zero,V.names]at h;simp only[bne_self_eq_false,Tf]at h;rw[Gu f g p.cO 0 B.W,Wz V.wh]at h;simp only[bne_self_eq_false,Tf]at h;obtain⟨j,o,i⟩:=arF f p.aS 0 2 [] B.P (by rw[ZW];exact h);rw[W5]at i;obtain⟨l,m,q,n⟩:=afQ f B.D g p.ax 0 j rfl (by rw[List.take_zero,ai,ZW];exact i);exact⟨V.names,V.wh,V.wG,λk d=>l k d (Wl _),λk s=>afk B.D p.cB 0 m rfl n k s (Wl _)⟩
def auS(f:16<N)(B:Bd N p)(i:rh p=true)(h:VQ N p):∃a,w9 N p=some (a,0):=by
 have g:=B.s;obtain⟨a,ha⟩:=agp f B.D g B.q B.d h p.aS 0 2 [] rfl B.P h.wG;rw[ZW]at ha;refine⟨a,?_⟩;unfold w9 Hz;rw[Ll,re,i];simp only[VX,Tf];rw[Hi f p.bj 0 rfl,re,List.take_zero,h.names];simp only[bne_self_eq_false,Tf];rw[Gu f g p.cO 0 B.W,Wz h.wh];simp only[bne_self_eq_false,Tf];exact ha
end
structure Df(N:Nat)(d:aF):Prop where
 ty:dD d.aw=true
 ev:Ev d.aX
 cond:fc d.aX=false
 size:3*SizeOf.sizeOf d.aX<N
 l1:d.aJ.length<=6
 l2:d.bI.length<=6
 plain:(d.cE==0||d.cE==5)=true->d.bI=[]
 scan:d.cE=5->d.aJ≠ []
def nX(f:U Int->Except Int (aH×aQ))(d:aF):U (U Int)->O aH->Except Int aH
 |[],g=>.ok (g.getD dB)
 |q::l,g=>match f q with
  | .error z=>.error z
  | .ok x=>match g with
    |none=>nX f d l (some x.1)
    |some a=>match mW d.cE d.aw a x.1 with
     | .error z=>.error z
     | .ok v=>nX f d l (some v)
def sA(d:aF):U so:=d.bI.map (·.ar)
def jZ(d:aF):U so:=d.aJ.map (·.ar)
noncomputable def tT(mem:U aO)(env:U aR)(d:aF)(q:U Int):Except Int (aH×aQ):=dK mem (bindN (sA d) q++env) d.aX
noncomputable def Ad(mem:U aO)(env:U aR)(d:aF)(f:U Int):Except Int aH:=nX (tT mem env d) d (lu f 0 (de f).toNat) none
def SC{l:U Int}(h:rR l):∀(m k:Nat),(k:Int)+m<=de l->∀q∈lu l k m,q.length=l.length/\∀x∈q,0<=x/\x<4096
 |0,k,_,q,d=>by cases d
 |m+1,k,f,q,d=>by
  rw[I8]at d;rcases Za.1 d with rfl|d
  ·have:=h.p;exact⟨alQ _ _,alS h.r k7 k7⟩
  ·exact SC h m (k+1) k7 q d
def acp(N:Nat)(n:9223372036854775808<N)(mem:U aO)(A:mem.length<=4611686018427387904)(env:U aR)(J:env.length<=1000000)(d:aF)(H:Df N d):∀(h:U (U Int))(f:O aH)(g:U (so×bo)),(∀q∈h,q.length=d.bI.length/\∀x∈q,0<=x/\x<4096)->CK mem g->
 ∃v k i,wE N d env mem h (f.getD dB).xN (f.getD dB).xD f.isNone g=some (v,k,i)/\CK mem i/\oK (nX (tT mem env d) d h f) k v (λa b=>b=a)
 |[],f,g,_,o=>⟨_,_,_,rfl,o,rfl,rfl⟩
 |q::h,f,g,B,o=>by
  have C:=B q Zt;have S:=H.l2;have T:=H.size;rw[wE,abl N d.bI q env C.1.symm k7 C.2 k7,re];unfold DM Gd;rw[re];obtain⟨t,k,i,K,u,l⟩:=(mch N n mem A (bindN (sA d) q++env) _ d.aX (Zx _) H.ev).v H.cond N g k7 o;have L:m8 N N d.aX (bindN (d.bI.map (·.ar)) q++env) mem g=some (t,k,i):=K;rw[L,re,nX];unfold tT;cases E:dK mem (bindN (sA d) q++env) d.aX with
  |error z=>
   rw[E]at l;obtain⟨rfl,j⟩:=l;dsimp only;rw[Ui.2 j,Tj];exact⟨_,_,_,rfl,u,rfl,j⟩
  |ok x=>
   rw[E]at l;obtain⟨rfl,M,W,e3⟩:=l;dsimp only;rw[show((0:Int) !=0)=false from rfl,Tf,M];have F:=λf=>acp N n mem A env J d H h f i (λy Q=>B y (Zk _ Q)) u;cases f with
   |none=>exact F (some x.1)
   |some a=>
    simp only[Option.isNone_some,Tf,Option.getD_some];obtain⟨r,R,m⟩:=agA N n d.cE d.aw a x.1 H.ty;rw[R,re];cases G:mW d.cE d.aw a x.1 with
    |error z=>
     rw[G]at m;obtain⟨w,j⟩:=m;rw[w,Ui.2 j,Tj];exact⟨_,_,_,rfl,u,rfl,j⟩
    |ok v=>
     rw[G]at m;have w:r=(v,0):=m;subst w;exact F (some v)
def ams(N:Nat)(m:9223372036854775808<N)(mem:U aO)(n:mem.length<=4611686018427387904)(env:U aR)(u:env.length<=1000000)(d:aF)(H:Df N d)(f:U Int)(g:rR f)(j:f.length=d.bI.length)(h:U (so×bo))(o:CK mem h):
 ∃v k l,CL N d f env mem h=some (v,k,l)/\CK mem l/\oK (Ad mem env d f) k v (λa b=>b=a):=by
 have J:=H.size;have K:=g.p;have L:=sC g.r;unfold CL Ad;have w:(bif (d.cE==0)then some true else some (d.cE==5))=some (d.cE==0||d.cE==5):=by cases d.cE==0<;>rfl
 rw[w,re];cases hb:(d.cE==0||d.cE==5)with
 |true=>
  have A:f=[]:=by
   have:=H.plain hb;rw[this]at j;exact VC j
  subst A;rw[Tj];unfold DM Gd;rw[re];obtain⟨t,k,l,B,C,i⟩:=(mch N m mem n env _ d.aX (Zx _) H.ev).v H.cond N h k7 o;rw[B,re];refine⟨_,_,_,rfl,C,?_⟩;have e:lu [] 0 (de []).toNat=[[]]:=rfl;rw[e,nX];have E:tT mem env d []=dK mem env d.aX:=by
   unfold tT bindN;rw[List.zipWith_nil_right,W5]
  rw[E];cases q:dK mem env d.aX with
  |error z=>rw[q]at i;exact i
  |ok x=>
   rw[q]at i;obtain⟨F,G,M,Q⟩:=i;exact⟨F,G⟩
 |false=>
  rw[Tf,agr N f g,re,ahW N k7 f g,re];exact acp N m mem n env u d H _ none h (by rw[<-j];exact SC g _ 0 k7) o
def B4(q:U Int):Int:=(q[q.length-1]?).getD 0
noncomputable def pV(mem:U aO)(env:U aR)(d:aF)(f:U Int)(q:U Int):Except Int aH:=Ad mem (bindN (jZ d) q++env) d f
def kh(f:U Int->Except Int aH)(d:aF):U (U Int)->U aH->Except Int (U aH)
 |[],g=>.ok g
 |q::l,g=>match f q with
  | .error z=>.error z
  | .ok v=>bif d.cE==5&&decide (B4 q>0)then(match g[g.length-1]? with
   |none=>.error 1
   |some w=>match mW 1 d.aw w v with
    | .error z=>.error z
    | .ok u=>kh f d l (g++[u]))else kh f d l (g++[v])
def aa5(t:aQ)(ext:U Int)(r:Except Int (U aH)):bo×Int:=match r with
 | .ok d=>(⟨t,ext,d⟩,0)
 | .error z=>(nQ,z)
def anc{ext:U Int}(h:ext≠ []):∃e,ext[ext.length-1]?=some e:=by
 have:0<ext.length:=List.length_pos_iff.2 h;exact⟨_,Zd k7⟩
def ajk{d:U aH}(h:0<d.length):∃w,d[d.length-1]?=some w:=⟨_,Zd k7⟩
def ad8(N:Nat)(C:9223372036854775808<N)(mem:U aO)(G:mem.length<=4611686018427387904)(env:U aR)(he:env.length<=100000)(d:aF)(H:Df N d)(D:U Int×aQ×Int)(g:rR D.1)(o:D.1.length=d.aJ.length)(R:U Int×Int)(J:rR R.1)(i:R.1.length=d.bI.length)(j:U (so×bo)):∀(m k:Nat)(acc:U aH)(f:U (so×bo)),(k:Int)+m=de D.1->acc.length=k->CK mem f->
 vD N d D env R (mem,j) (lu D.1 k m) acc f=some (aa5 d.aw D.1 (kh (pV mem env d R.1) d (lu D.1 k m) acc))
 |0,k,acc,f,_,_,_=>rfl
 |m+1,k,acc,f,hk,ha,hc=>by
  have hp:=g.p;have IB:=H.l1;have l:=SC g (m+1) k k7 (nC D.1 (k:Int)) (by rw[I8];exact Zt);rw[I8,vD,abl N d.aJ _ env (by rw[l.1,o]) k7 l.2 k7,re];obtain⟨v,K,L,h1,h2,q⟩:=ams N C mem G (bindN (jZ d) (nC D.1 (k:Int))++env) (by rw[Zi,anm _ _ (by unfold jZ;rw[Zw,l.1,o])];unfold jZ;rw[Zw];omega) d H R.1 J i f hc;have o8:CL N d R.1 (bindN (d.aJ.map (·.ar)) (nC D.1 (k:Int))++env) mem f=some (v,K,L):=h1;rw[o8,re,kh];have E:=λM(hh:M.length=k+1)=>ad8 N C mem G env he d H D g o R J i j m (k+1) M L k7 hh h2;unfold pV;cases Q:Ad mem (bindN (jZ d) (nC D.1 (k:Int))++env) d R.1 with
  |error z=>
   rw[Q]at q;obtain⟨rfl,A⟩:=q;dsimp only;rw[show(K==0)=false by rw[Tn];exact A,Tf,re,Tf];unfold xr;rw[Ui.2 A];rfl
  |ok x=>
   rw[Q]at q;obtain⟨rfl,rfl⟩:=q;dsimp only;rw[show((0:Int)==0)=true from rfl,Tj];cases h5:(d.cE==5)with
   |false=>
    rw[Tf,re,Tf,Bool.false_and,Tf];unfold xr;rw[show((0:Int) !=0)=false from rfl,Tf,fi k7,Tj];exact E _ (by simp [ha])
   |true=>
    have S:D.1≠ []:=λh=>H.scan (by simpa using h5) (VC (by rw[<-o,h];rfl));have NJ:0<D.1.length:=List.length_pos_iff.2 S;obtain⟨e,C8⟩:=anc S;have T:=ag4 (n:=(k:Int)) C8;have Jn:B4 (nC D.1 (k:Int))=(k:Int).tmod e:=by unfold B4;rw[l.1,T];rfl
    rw[Tj,l.1,nD (by have:=g.n;omega) (by have:=g.n;omega),eD (show(0:Int)<=(D.1.length:Int)-1 by omega),Tj,show((D.1.length:Int)-1).toNat=D.1.length-1 by omega,T,re,re,Jn,Z0];cases W:decide ((k:Int).tmod e>0)with
    |false=>
     rw[Tf,Tf];unfold xr;rw[show((0:Int) !=0)=false from rfl,Tf,fi k7,Tj];exact E _ (by simp [ha])
    |true=>
     have iF:0<acc.length:=by
      rw[ha];refine Classical.byContradiction λh=> ?_;have:k=0:=by omega
      subst this;rw[UL]at W;simp at W
     obtain⟨w,hw⟩:=ajk iF;rw[Tj,Tj,nD k7 k7,eD (show(0:Int)<=(acc.length:Int)-1 by omega),Tj,show((acc.length:Int)-1).toNat=acc.length-1 by omega,hw,re];obtain⟨r,r1,B⟩:=agA N C 1 d.aw w v H.ty;rw[r1,re];unfold xr;dsimp only;cases hr:mW 1 d.aw w v with
     |error z=>
      rw[hr]at B;obtain⟨F,A⟩:=B;rw[F,Ui.2 A];rfl
     |ok u=>
      rw[hr]at B;have F:r=(u,0):=B;subst F;rw[show((0:Int) !=0)=false from rfl,Tf,fi k7,Tj];exact E _ (by simp [ha])
def Jk(env:U aR):∀(l:U aK)(d:U Int),(fx env l d).2=0->(fx env l d).1.length=d.length+l.length
 |[],d,_=>rfl
 |f::l,d,h=>by
  rw[fx]at h ⊢;cases g:(db f env).2 !=0 with
  |true=>rw[g,Tj]at h;simp only at h;rw[h]at g;cases g
  |false=>
   rw[g,Tf]at h;rw[Tf];cases i:vm (db f env).1 with
   |false=>rw[i,Tf]at h;cases h
   |true=>
    rw[i,Tj]at h;rw[Tj,Jk env l _ h];simp only[Zi,Zp,Zg];omega
def O7{p:aI}{i:Nat}{d:aF}(k:p.ax[i]?=some d)(G:iG p i d):dt p.aS p.ax d.ar=(d.aw,d.aJ.map (·.dq),true):=by
 unfold dt;have f:=Dw (·.ar) d.ar p.aS;rw[G.par]at f;have h:=Dw (·.ar) d.ar (p.ax.take i);rw[G.Ia]at h;have l:p.aS.find? (λx=>bL x.ar==bL d.ar)=none:=by
  cases g:p.aS.find? (λx=>bL x.ar==bL d.ar)with
  |none=>rfl
  |some y=>rw[g]at f;cases f
 rw[l];have e:p.ax=p.ax.take i++(d::p.ax.drop (i+1)):=by rw[<-XD k,Yl]
 have m:p.ax.find? (eW d.ar)=some d:=by
  rw[e,List.find?_append];have:(p.ax.take i).find? (eW d.ar)=none:=by
    cases g:(p.ax.take i).find? (eW d.ar)with
    |none=>rfl
    |some y=>
     have j:false=((p.ax.take i).find? (eW d.ar)).isSome:=h;rw[g]at j;cases j
  rw[this,Option.none_or,List.find?_cons_of_pos];unfold eW;exact Z3 _
 rw[m]
def am0{N:Nat}(u:9223372036854775808<N){p:aI}(B:Bd N p)(V:VQ N p){i:Nat}{d:aF}(k:p.ax[i]?=some d)(G:iG p i d)(m:Ev d.aX)(n:vi d.aX)(o:3*SizeOf.sizeOf d.aX<N):Df N d:=by
 have Q:=V.defs i d k;have v:=ZZ k;have f:=Q.fold;refine⟨Q.type,m,?_,o,Q.l1,Q.l2,λh=> ?_,λh=> ?_⟩
 ·obtain⟨t,j,w⟩:=Q.tp;unfold uZ at j;rw[Sk N k7 d.aX k7 n,re,G.body,show((0:Int) !=0)=false from rfl,Tf,Px,re]at j;cases q:fc d.aX with
  |false=>rfl
  |true=>rw[q,Tj]at j;cases j
 ·unfold wN at f;cases l:(d.cE==0)with
  |true=>
   rw[l,Tj]at f;cases g:(d.bI.length==0)with
   |true=>rw[TC]at g;exact VC g
   |false=>rw[g]at f;cases f
  |false=>
   rw[l,c6,TC]at h;rw[h]at f;cases g:(d.bI.length==0)with
   |true=>rw[TC]at g;exact VC g
   |false=>rw[g]at f;cases f
 ·unfold wN at f;rw[h]at f;intro r;rw[r]at f;simp at f
def aeY(N:Nat):∀(l:U cq)(k:Nat)(d:U aK),d.length+l.length<=1000000000->Hv N l k d=some (d++l.map (·.dq))
 |[],k,d,_=>by rw[Hv,ai,ZW]
 |a::l,k,d,h=>by
  simp only[Zp]at h;rw[Hv,fi k7,Tj];dsimp only;rw[aeY N l (k+1) _ (by simp only[Zi,Zp,Zg];omega),ZY,ZU];rfl
def aed:∀a b:U Int,de (a++b)=de a*de b
 |[],b=>by rw[W5,de,cH]
 |x::a,b=>by rw[List.cons_append,de,de,aed a b,b5]
def afT(N:Nat)(d:Int)(u:d<=65536)(L:U Int)(w:L.length<=1000000):∀(l:U Int)(k f:Nat)(v:Int),L.drop k=l->k<=L.length->l.length<f->(∀x∈l,1<=x/\x<=4096)->1<=v->v<=d->wM N L.length L d f v (k:Int)=some (if v*de l<=d then v*de l else d+1)
 |[],k,f,v,g,A,m,_,n,o=>by
  obtain⟨f,rfl⟩:∃i,f=i+1:=⟨f-1,by omega⟩;have:L.length<=k:=List.drop_eq_nil_iff.1 g;rw[wM,Zn (show ¬(k:Int)<(L.length:Int) by omega),Tf,de,Int.mul_one,ae o]
 |x::l,k,f,v,g,A,m,h,n,o=>by
  obtain⟨f,rfl⟩:∃i,f=i+1:=⟨f-1,by omega⟩;have q:=h x Zt;have B:=sC (l:=l) λy j=>h y (Zk _ j);have E:v*x<=65536*4096:=br k7 q.2 k7 k7;have F:1*1<=v*x:=br n q.1 gy k7;have C:k<L.length:=by
   refine Classical.byContradiction λh=> ?_;rw[List.drop_of_length_le k7]at g;cases g
  simp only[Zp]at m;rw[wM,eD (show(k:Int)<(L.length:Int) by omega),Tj,eD (show(0:Int)<=(k:Int) by omega),Tj,ZR,bA g,re,de,nD (z:=v*x) k7 k7,<-b5];by_cases r:v*x>d;{rw[eD r,Tj,nD k7 k7,af];have:v*x*1<=v*x*de l:=Y3 B k7;omega};{rw[Zn r,Tf,nD k7 k7,show(k:Int)+1=((k+1:Nat):Int) by omega];exact afT N d u L w l (k+1) f (v*x) (by rw[<-List.drop_drop,g];rfl) C k7 (λy j=>h y (Zk _ j)) k7 k7}
def arS(N:Nat)(f:2147483648<N)(L:U Int)(d:L.length<=1000000)(h:∀x∈L,1<=x/\x<=4096):Jz N L.length 65536 L=some (if de L<=65536 then de L else 65537):=by
 unfold Jz;rw[Nat.beq_refl,Tj];have:=afT N 65536 gy L d L 0 N 1 rfl k7 k7 h gy gy;rw[cH]at this;exact this
def QO{p:aI}{env:U aR}{s:so}(h:(dp p env s).2.2=0):(dp p env s).1=(fx env (dt p.aS p.ax s).2.1 []).1/\(fx env (dt p.aS p.ax s).2.1 []).2=0/\de (dp p env s).1<=4096:=by
 unfold dp at h ⊢;dsimp only at h ⊢;cases f:(dt p.aS p.ax s).2.2 with
 |false=>rw[f]at h;cases h
 |true=>
  rw[f,Tj]at h;rw[Tj];cases d:(fx env (dt p.aS p.ax s).2.1 []).2 !=0 with
  |true=>rw[d,Tj]at h;simp only at h;rw[h]at d;cases d
  |false=>
   rw[d,Tf]at h;rw[Tf];cases g:decide (de (fx env (dt p.aS p.ax s).2.1 []).1>4096)with
   |true=>rw[g]at h;cases h
   |false=>
    rw[UF]at g;exact⟨rfl,by simpa using d,by simp only[Tf];omega⟩
noncomputable def mP(p:aI)(env:U aR)(mem:U aO)(d:aF)(f:Int):bo×Int:=bif (dp p env d.ar).2.2 !=0 then(nQ,(dp p env d.ar).2.2)else bif (fx env (d.bI.map (·.dq)) []).2 !=0 then(nQ,(fx env (d.bI.map (·.dq)) []).2)else bif decide (de (dp p env d.ar).1*de (fx env (d.bI.map (·.dq)) []).1>65536)then(nQ,2)else bif f !=0 then(nQ,f)else aa5 d.aw (dp p env d.ar).1 (kh (pV mem env d (fx env (d.bI.map (·.dq)) []).1) d (lu (dp p env d.ar).1 0 (de (dp p env d.ar).1).toNat) [])
def asW(N:Nat)(L:U aH):MI N L L=some true:=by
 have d:∀(l:U aH)(k:Nat),L.drop k=l->Ki N L l k=some true:=by
  intro l
  induction l with
  |nil=>intro k _;rfl
  |cons x l f=>intro k h;rw[Ki,ZR,bA h,re,Z3,Z3];exact f (k+1) (ie h)
 unfold MI;rw[XB,Tf];exact d L 0 rfl
def ajq(N:Nat)(t:bo):MN N t t=some true:=by
 unfold MN;rw[ahk,asW];simp
structure Lw(N:Nat)(p:aI)(env:List aR):Prop where
 hN:9223372036854775808<N
 sh:Dp p
 env:env.length<=20
 size:∀d∈p.ax,3*SizeOf.sizeOf d.aX<N
def Lw.bd{N:Nat}{p:aI}{env:U aR}(W:Lw N p env):Bd N p:=asr W.sh λd h=>by have:=W.size d h;omega
def Lw.wh{N:Nat}{p:aI}{env:U aR}(W:Lw N p env):∀c∈p.cO,c.aU.xL.length<=4611686018427387904:=λc d=>Ze (W.sh.W c d) gy
structure tN(t:bo):Prop where
 d:t.aJ.length<=1000000
 v:t.fE.length<=1000000
def BY:tN nQ:=⟨by decide,by decide⟩
def aim(N:Nat){t:bo}(h:tN t):BS N t=some t:=by
 have f:=h.d;have g:=h.v;unfold BS QB Sz;rw[fi k7,Tj,re,fi k7,Tj,re]
def Mi(f:U Int->Except Int aH)(d:aF):∀(l:U (U Int))(g i:U aH),kh f d l g= .ok i->i.length=g.length+l.length
 |[],g,i,h=>by rw[kh]at h;cases h;rfl
 |q::l,g,i,h=>by
  rw[kh]at h;cases j:f q with
  |error z=>rw[j]at h;cases h
  |ok v=>
   rw[j]at h;dsimp only at h;cases hb:(d.cE==5&&decide (B4 q>0))with
   |false=>
    rw[hb,Tf]at h;have:=Mi f d l _ i h;simp only[Zi,Zp,Zg]at this ⊢;omega
   |true=>
    rw[hb,Tj]at h;cases ha:g[g.length-1]? with
    |none=>rw[ha]at h;cases h
    |some w=>
     rw[ha]at h;dsimp only at h;cases k:mW 1 d.aw w v with
     |error z=>rw[k]at h;cases h
     |ok u=>
      rw[k]at h;have:=Mi f d l _ i h;simp only[Zi,Zp,Zg]at this ⊢;omega
def ahg(l:U Int)(k n:Nat):(lu l k n).length=n:=by unfold lu;rw[Zw,List.length_range']
def aoY{N:Nat}{p:aI}{env:U aR}{i:Nat}{d:aF}(k:p.ax[i]?=some d)(G:iG p i d)(H:Df N d)(mem:U aO)(f:Int):tN (mP p env mem d f).1:=by
 unfold mP;cases g:((dp p env d.ar).2.2 !=0)with
 |true=>exact BY
 |false=>
  rw[bne_eq_false_iff_eq]at g;obtain⟨h,j,n⟩:=QO g;rw[O7 k G]at h j;have o:(dp p env d.ar).1.length=d.aJ.length:=by rw[h,Jk env _ [] j];simp
  have q:=H.l1;rw[Tf];cases (fx env (d.bI.map (·.dq)) []).2 !=0 with
  |true=>exact BY
  |false=>
   rw[Tf];cases decide (de (dp p env d.ar).1*de (fx env (d.bI.map (·.dq)) []).1>65536)with
   |true=>exact BY
   |false=>
    rw[Tf];cases f !=0 with
    |true=>exact BY
    |false=>
     rw[Tf];cases l:kh (pV mem env d (fx env (d.bI.map (·.dq)) []).1) d (lu (dp p env d.ar).1 0 (de (dp p env d.ar).1).toNat) []with
     |error z=>exact BY
     |ok m=>
      have:=Mi _ _ _ _ _ l;rw[ahg,Zg]at this;exact⟨by show(dp p env d.ar).1.length<=1000000;omega,by show m.length<=1000000;omega⟩
def Hn(l:U aO):Prop:=∀x∈l,tN x.gg
def rB(l:U aO)(s:so):bo×Bool:=match dY l s with|none=>(nQ,false)|some t=>(t,true)
def WN(N:Nat)(l:U aO)(s:so):wH N l s=some (rB l s):=by
 rw[CQ];unfold rB;cases dY l s<;>rfl
def Hn.find{l:U aO}(h:Hn l)(s:so):tN (rB l s).1:=by
 unfold rB;cases d:dY l s with
 |none=>exact BY
 |some t=>
  obtain⟨x,f,e,_⟩:=ID d;have:=h x f;rw[e]at this;exact this
def afS(N:Nat)(L:U aO):H3 N L L=some true:=by
 have d:∀(l:U aO)(k:Nat),L.drop k=l->OM N L l k=some true:=by
  intro l
  induction l with
  |nil=>intro k _;rfl
  |cons x l f=>intro k h;rw[OM,ZR,bA h,re,Z3,Tj,ajq,re,re,VX,Tf];exact f (k+1) (ie h)
 unfold H3;rw[XB,Tf];exact d L 0 rfl
def amr(N:Nat)(E:9223372036854775808<N)(p:aI)(env:U aR)(F:env.length<=100000)(mem:U aO)(J:mem.length<=4611686018427387904)(B:Bd N p){i:Nat}{d:aF}(j:p.ax[i]?=some d)(G:iG p i d)(H:Df N d)(hb:(l5 (dx d.aX)).length<=1000000):∃g,tD N p env mem d.aX=some g/\(g=0->∀s∈rk d.aX,zD p mem s)/\BR N p env mem (i:Int)=some (mP p env mem d g):=by
 have hs:=H.size;have hi:i<p.ax.length:=(Zj.1 j).1;have K:=ZZ j;have IB:=H.l1;have zP:=H.l2;obtain⟨g,v,L⟩:=ahO N k7 p env mem B.P B.D d hb;refine⟨g,v,L,?_⟩;unfold BR mP;have n:∀y∈d.bI.map (·.dq),iT 1000000000 y:=λy M=>by
  obtain⟨a,ha,rfl⟩:=UZ.1 M;exact B.D.iu d K a (aa _ ha)
 have Q:=SE N k7 env (d.bI.map (·.dq)) 0 [] n (by simp only[Zg,Zw];omega);rw[Zn (show ¬(i:Int)<0 by omega),Tf,Zn (show ¬(i:Int)>=(p.ax.length:Int) by omega),re,Tf,eD (show(0:Int)<=(i:Int) by omega),Tj,ZR,j,re,yP N k7 p env d.ar B.P B.D,re];cases o:((dp p env d.ar).2.2 !=0)with
 |true=>rfl
 |false=>
  rw[bne_eq_false_iff_eq]at o;obtain⟨q,w,S⟩:=QO o;rw[O7 j G]at q w;have k:∀x∈(dp p env d.ar).1,1<=x/\x<=4096:=by rw[q];exact B9 env _ [] λx f=>by cases f
  have z:(dp p env d.ar).1.length=d.aJ.length:=by rw[q,Jk env _ [] w];simp
  have l:rR (dp p env d.ar).1:=⟨k,by omega,by omega⟩;have A:=sC k;unfold WB GN;rw[Tf,Tf,aeY N d.bI 0 [] (by simp only[Zg];omega)];simp only[W5,re];rw[Q,re];cases r:((fx env (d.bI.map (·.dq)) []).2 !=0)with
  |true=>rfl
  |false=>
   rw[bne_eq_false_iff_eq]at r;have m:∀x∈(fx env (d.bI.map (·.dq)) []).1,1<=x/\x<=4096:=B9 env _ [] λx f=>by cases f
   have h:(fx env (d.bI.map (·.dq)) []).1.length=d.bI.length:=by rw[Jk env _ [] r];simp
   have u:=sC m;generalize T:fx env (d.bI.map (·.dq)) []=R at m h u r ⊢;generalize W:dp p env d.ar=D at k z l A S o ⊢;unfold Qt;rw[Tf,Tf,fi (show D.1.length*8<=140737488355328 by omega),Tj,re,fi (show(D.1.length+R.1.length)*8<=140737488355328 by omega),Tj];have C:=arS N k7 (D.1++R.1) (by rw[Zi];omega) (λx f=>by
    rcases ZM.1 f with f|f
    ·exact k x f
    ·exact m x f)
   rw[Zi,aed]at C;rw[C,re];have pE:1*de R.1<=de D.1*de R.1:=Int.mul_le_mul_of_nonneg_right A k7;have e1:decide ((if de D.1*de R.1<=65536 then de D.1*de R.1 else 65537)>65536)=decide (de D.1*de R.1>65536):=aaf 65536 gy gy _;rw[e1];cases hp:decide (de D.1*de R.1>65536)with
   |true=>rfl
   |false=>
    rw[UF]at hp;have hR:rR R.1:=⟨m,by omega,by omega⟩;rw[Tf,Tf,v,re];cases g !=0 with
    |true=>rfl
    |false=>
     rw[Tf,Tf];unfold OC;rw[re,agr N D.1 l,re,ahW N k7 D.1 l,re];exact ad8 N E mem J env F d H D l z R hR h [] _ 0 [] [] k7 rfl (CK.nil mem)
def abz(N:Nat)(g:2147483648<N)(p:aI)(env:U aR)(B:Bd N p)(j:∀c∈p.cO,c.aU.xL.length<=4611686018427387904):∃x,BL N p env=some x/\(x=0->vW p env=0/\VQ N p/\∀i d,p.ax[i]?=some d->iG p i d):=by
 obtain⟨a,x,k,l,m⟩:=CO g B;unfold BL;rw[k,agq N g env p j,re];cases f:(x !=0)with
 |true=>exact⟨x,rfl,λh=>by rw[h]at f;cases f⟩
 |false=>
  have n:x=0:=by simpa using f
  subst n;exact⟨vW p env,rfl,λh=>⟨h,agU k7 B l,m rfl⟩⟩
structure Lr(N:Nat)(p:aI)(env:List aR):Prop where
 hN:9223372036854775808<N
 bd:Bd N p
 wh:∀c∈p.cO,c.aU.xL.length<=4611686018427387904
 env:env.length<=100000
 q:p.aS.length<=1000
 d:p.ax.length<=1000
 o:p.cB.length<=1000
 size:∀d∈p.ax,3*SizeOf.sizeOf d.aX<N
 ev:∀d∈p.ax,lW d.aX=0->Ev d.aX
 rd:∀d∈p.ax,lW d.aX=0->(l5 (dx d.aX)).length<=1000000
def Lw.r{N:Nat}{p:aI}{env:U aR}(W:Lw N p env):Lr N p env:=
 ⟨W.hN,W.bd,W.wh,Ze W.env gy,Ze W.sh.q gy,Ze W.sh.d gy,Ze W.sh.o gy,W.size,
  λd f g=>(W.sh.D d f).body.ev gy g,λd f g=>auf g (W.sh.D d f).body⟩
def Lr.df{N:Nat}{p:aI}{env:U aR}(W:Lr N p env)(V:VQ N p){i:Nat}{d:aF}(g:p.ax[i]?=some d)(G:iG p i d):Df N d:=by
 have f:=ZZ g;exact am0 W.hN W.bd V g G (W.ev d f G.body) (W.bd.E d f).1 (W.size d f)
def afJ{N:Nat}{p:aI}{env:U aR}(W:Lr N p env)(V:VQ N p)(G:∀i d,p.ax[i]?=some d->iG p i d)(mem:U aO)(h:mem.length<=4611686018427387904){i:Nat}{d:aF}(f:p.ax[i]?=some d):∃g,tD N p env mem d.aX=some g/\(g=0->∀s∈rk d.aX,zD p mem s)/\BR N p env mem (i:Int)=some (mP p env mem d g):=by
 have j:=ZZ f;have k:=W.env;exact amr N W.hN p env k7 mem h W.bd f (G i d f) (W.df V f (G i d f)) (W.rd d j (G i d f).body)
def uV(s:so):∀a b:U aO,dY (a++b) s=(dY a s).or (dY b s)
 |[],b=>by rw[W5,dY,Option.none_or]
 |x::a,b=>by
  rw[List.cons_append,dY,dY,uV s a b];cases bL x.ar==bL s<;>rfl
structure bdX(x:aT):Prop where
 iN:iT 1000000 x.aU
 at_:x.bC.length<=1000000
 q6:∀l∈x.bC,iT 1000000 l
structure bdN(e:au):Prop where
 iN:iT 1000000 e.aU
 idx:e.xIdx.length<=1000000
 each:∀x∈e.xIdx,bdX x
 args:e.bk.length<=1000000
def ph(e:au):Prop:=∀y∈dx e,bdN y
def ph.arg{e x:au}(h:ph e)(d:x∈e.bk):ph x:=λy f=>h y (rC d f)
def ph.ok{e:au}(h:ph e):vi e:=λy d=>
 ⟨Ze (h y d).iN gy,λx f=>⟨Ze ((h y d).each x f).iN gy,λl g=>Ze (((h y d).each x f).q6 l g) gy⟩,Ze (h y d).args gy⟩
def Uc(N:Nat)(l:aK)(h:iT 1000000 l):Ck N l=some (l,0):=by
 unfold Ck EO;rw[fi (by have:=h;unfold iT at this;omega)];rfl
def E0{α:Type}:∀(L:U α)(k:Nat)(x:α),L[k]?=some x->L.set k x=L
 |[],_,_,_=>rfl
 |y::L,0,x,h=>by cases h;rfl
 |y::L,k+1,x,h=>by rw[List.set_cons_succ,E0 L k x (by rw[Yx]at h;exact h)]
def ml(n:Nat):Nat.beq n n=true:=Nat.beq_refl n
def ain(N:Nat)(e:au)(rec:au->O (au×Int))(d:U aT)(g:aK×Int):∀(l:U au)(k:Nat),e.bk.drop k=l->(∀x∈l,rec x=some (x,0))->d.length=e.xIdx.length->
 wQ N d e.xIdx e.bk e g rec l k e.bk=some (⟨e.aA,e.ar,e.cU,e.aw,g.1,d,e.bk⟩,0)
 |[],k,_,_,h=>by rw[wQ,h,ml,ml];rfl
 |x::l,k,f,i,h=>by
  rw[wQ,i x Zt,re,ml,show decide ((k:Int)<(e.bk.length:Int))=true from eD (by have:=mg f;omega),bA f];simp only[Tj,re,bne_self_eq_false,Tf];rw[E0 _ _ _ (bA f)];exact ain N e rec d g l (k+1) (ie f) (λy j=>i y (Zk _ j)) h
def ac7(N:Nat)(c:U aT->O (au×Int))(d:U aT)(f:Nat)(x:aT)(h:d[f]?=some x):∀(l:U aK)(k:Nat),x.bC.drop k=l->(∀y∈l,iT 1000000 y)->
 wi N x.bC c d f (x.aU,0) x l k x.bC=c d
 |[],k,_,_=>by
  rw[wi,ml,Tj];dsimp only;rw[E0 d f x h,E0 d f x h]
 |y::l,k,g,i=>by
  rw[wi,Uc N y (i y Zt),re,ml,show decide ((k:Int)<(x.bC.length:Int))=true from eD (by have:=mg g;omega),bA g];simp only[Tj,re,bne_self_eq_false,Tf];rw[E0 _ _ _ (bA g)];exact ac7 N c d f x h l (k+1) (ie g) λz j=>i z (Zk _ j)
def air(N:Nat)(e:au)(rec:au->O (au×Int))(d:aK×Int)(ha:e.bk.length<=1000000)(h:∀x∈e.bk,rec x=some (x,0)):∀(l:U aT)(k:Nat),e.xIdx.drop k=l->(∀y∈l,bdX y)->
 vg N e e.xIdx d rec l k e.xIdx=some (⟨e.aA,e.ar,e.cU,e.aw,d.1,e.xIdx,e.bk⟩,0)
 |[],k,_,_=>by
  rw[vg];unfold Rf;rw[fi k7,Tj,re];exact ain N e rec e.xIdx d e.bk 0 rfl h rfl
 |x::l,k,f,i=>by
  have g:=i x Zt;have m:=g.at_;rw[vg,Uc N x.aU g.iN,re,ml,show decide ((k:Int)<(e.xIdx.length:Int))=true from eD (by have:=mg f;omega),bA f];unfold WL;simp only[Tj,re,bne_self_eq_false,Tf];rw[fi k7,Tj,re,Zf,ml,Tj,ac7 N _ e.xIdx k x (bA f) x.bC 0 rfl g.q6];exact air N e rec d ha h l (k+1) (ie f) λz j=>i z (Zk _ j)
def agc(N:Nat):∀(d:Nat)(e:au),SizeOf.sizeOf e<d->ph e->tq N d e=some (e,0)
 |0,_,h,_=>absurd h (ZJ _)
 |d+1,e,h,hb=>by
  have f:=hb e Zt;have i:=f.idx;rw[tq,Uc N e.aU f.iN,re];unfold Xl;rw[fi k7];refine Eq.trans (air N e _ (e.aU,0) f.args (λx g=>agc N d x (by have:=lA g;omega) (hb.arg g)) e.xIdx 0 rfl f.each) ?_;cases e;rfl
def aog(N:Nat)(e:au)(h:SizeOf.sizeOf e<N)(hb:ph e):N6 N e=some e:=by
 unfold N6 U6;rw[agc N N e h hb];rfl
def RP(N:Nat):∀(l:U cq)(k:Nat)(d:U cq),d.length+l.length<=1000000000->(∀x∈l,iT 1000000000 x.dq)->Fe N l k d=some (d++l)
 |[],_,d,_,_=>by rw[Fe,ZW]
 |a::l,k,d,h,f=>by
  simp only[Zp]at h;rw[Fe,O1 N a.dq (f a Zt),re,fi k7,Tj];dsimp only;rw[RP N l (k+1) _ (by simp only[Zi,Zp,Zg];omega) λy g=>f y (Zk _ g),ZU];rfl
section
variable {N:Nat} {p:aI}
def adr(S:U so)(W:U cQ)(P:U cl)(f:U so):∀(l:U aF)(k n:Nat)(g:U aF),g.length=n->n+l.length<=1000->hO l->(∀d∈l,ph d.aX/\SizeOf.sizeOf d.aX<N)->
 xW N S W P f l k n g=some (S,W,P,n+l.length,f,g++l)
 |[],_,n,g,_,_,_,_=>by rw[xW,ZW];rfl
 |d::l,k,n,g,ha,hb,i,j=>by
  simp only[Zp]at hb;have q:=i.len d Zt;have m:yX N d.aJ=some d.aJ:=by
   unfold yX;rw[RP N _ _ _ (by simp only[Zg];omega) λy h=>i.iu d Zt y (aq _ h)];rfl
  have o:yX N d.bI=some d.bI:=by
   unfold yX;rw[RP N _ _ _ (by simp only[Zg];omega) λy h=>i.iu d Zt y (aa _ h)];rfl
  rw[xW,m,o,aog N d.aX (j d Zt).2 (j d Zt).1,re,re,re,ha,ml,fi k7,Tj,Tj];refine Eq.trans (adr S W P f l (k+1) (n+1) (g++[d]) (by simp only[Zi,Zp,Zg];omega) k7 ⟨λy h=>i.len y (Zk _ h),λy h=>i.iu y (Zk _ h)⟩ λy h=>j y (Zk _ h)) ?_;rw[ZU,Zp,Nat.add_assoc,Nat.add_comm 1 l.length];rfl
structure Bc(N:Nat)(p:aI):Prop where
 b:Bd N p
 E:∀d∈p.ax,ph d.aX/\SizeOf.sizeOf d.aX<N
def aci(B:Bc N p)(S:U so)(W:U cQ)(f:U so):∀(l:U cl)(k:Nat)(g:U cl),g.length+l.length<=1000->lZ l->
 ye N S W f p l k g=some (S,W,g++l,p.ax.length,f,p.ax)
 |[],k,g,_,_=>by
  have:=B.b.d;rw[ye,adr S W g f p.ax 0 0 [] rfl k7 B.b.D B.E,ZW,ZQ];rfl
 |x::l,k,g,h,i=>by
  simp only[Zp]at h;rw[ye,adX N x.aJ (i.len x Zt) (i.iu x Zt),re,fi k7,Tj];refine Eq.trans (aci B S W f l (k+1) (g++[x]) (by simp only[Zi,Zp,Zg];omega) ⟨λy j=>i.len y (Zk _ j),λy j=>i.iu y (Zk _ j)⟩) ?_;rw[ZU];rfl
def aho(B:Bc N p)(S:U so)(d:U so):∀(l:U cQ)(k:Nat)(f:U cQ),f.length+l.length<=1000->(∀c∈l,iT 1000000000 c.aU)->
 xt N S d p l k f=some (S,f++l,p.aS,p.ax.length,d,p.ax)
 |[],k,f,_,_=>by
  have:=B.b.q;rw[xt,aci B S f d p.aS 0 [] (by simp only[Zg];omega) B.b.P,ZW];rfl
 |c::l,k,f,h,g=>by
  simp only[Zp]at h;rw[xt,O1 N c.aU (g c Zt),re,fi k7,Tj];refine Eq.trans (aho B S d l (k+1) (f++[c]) (by simp only[Zi,Zp,Zg];omega) λy i=>g y (Zk _ i)) ?_;rw[ZU];rfl
def Pj(B:Bc N p):xg N p=some (p.bj,p.cO,p.aS,p.ax.length,p.cB,p.ax):=by
 have d:=B.b.s;have f:=B.b.o;have g:=B.b.w;unfold xg OG;rw[fi k7,fi k7,Tj,Tj,re,re,aho B _ _ p.cO 0 [] (by simp only[Zg];omega) B.b.W];rfl
end
def eP{α:Type}(t:α->α->Bool):U α->U α->Bool
 |[],[]=>true
 |x::a,y::b=>t x y&&eP t a b
 |_,_=>false
def sf{α:Type}(t:α->α->Bool):∀a b:U α,(a.length==b.length)=false->eP t a b=false
 |[],[],h=>by cases h
 |[],y::b,_=>rfl
 |x::a,[],_=>rfl
 |x::a,y::b,h=>by
  rw[eP,sf t a b (by simpa using h),Bool.and_false]
def tk(x y:bD):Bool:=(bL x.ar==bL y.ar)&&((x.dh.toInt==y.dh.toInt)&&true)
def xJ(x y:so):Bool:=bL x==bL y
def mv(a b:aK):Bool:=(a.xK.toInt==b.xK.toInt)&&eP tk a.xL b.xL
def Ao(a b:cQ):Bool:=(a.l9==b.l9)&&mv a.aU b.aU
def ur(a b:aQ):Bool:=(a.bt==b.bt)&&((a.bW==b.bW)&&((a.bR==b.bR)&&((a.b9==b.b9)&&((a.b8==b.b8)&&true))))
def ahQ(a b:aH):Bool:=(a.xN.toInt==b.xN.toInt)&&((a.xD.toInt==b.xD.toInt)&&true)
def ze(a b:cl):Bool:=(bL a.ar==bL b.ar)&&(ur a.aw b.aw&&eP mv a.aJ b.aJ)
def vL(a b:cq):Bool:=(bL a.ar==bL b.ar)&&mv a.dq b.dq
def Aj(a b:aT):Bool:=(bL a.bp==bL b.bp)&&(mv a.aU b.aU&&eP mv a.bC b.bC)
def IY:Nat->au->au->Bool
 |0,_,_=>false
 |d+1,a,b=>(a.aA==b.aA)&&((bL a.ar==bL b.ar)&&(ahQ a.cU b.cU&&(ur a.aw b.aw&&(mv a.aU b.aU&&(eP Aj a.xIdx b.xIdx&&eP (IY d) a.bk b.bk)))))
def m7{α:Type}{L:U α}{k:Nat}(h:L.drop k=[]):L.length<=k:=by
 by_cases d:L.length<=k;{exact d};{have:=congrArg List.length h;simp at this;omega}
def ahl:∀l r:U UInt8,(Lib.compareBytes l r==0)=(l==r)
 |[],[]=>rfl
 |[],_::_=>rfl
 |_::_,[]=>rfl
 |a::l,b::r=>by
  rw[Lib.compareBytes,List.cons_beq_cons];by_cases h:a<b;{rw[ae h,show(a==b)=false from Tn.2 λe=>by rw[e]at h;exact absurd h (UInt8.lt_irrefl b)];rfl}
  ·rw[af h];by_cases d:b<a
   ·rw[ae d,show(a==b)=false from Tn.2 λe=>by rw[e]at d;exact absurd d (UInt8.lt_irrefl b)];rfl
   ·rw[af d,ahl l r,show a=b from UInt8.le_antisymm (UInt8.not_lt.1 d) (UInt8.not_lt.1 h),Z3,Z0]
def Cz(t:Bool)(r:O Int):Prop:=∃c,r=some c/\(c==0)=t
def UB(N:Nat)(a b:so):Cz (bL a==bL b) (Ft N a b):=⟨_,rfl,ahl _ _⟩
def uD(N:Nat)(a b:Int):Cz (a==b) (qo N a b):=by
 unfold qo LQ;rw[bne_self_eq_false,bne_self_eq_false];simp only[re,Tf];by_cases h:a<b;{rw[eD h];exact⟨-1,rfl,(Tn.2 k7).symm⟩}
 ·rw[Zn h];by_cases d:a>b
  ·rw[eD d];exact⟨1,rfl,(Tn.2 k7).symm⟩
  ·rw[Zn d];exact⟨0,rfl,(TC.2 k7).symm⟩
def aah(N:Nat)(a b:Int64):Cz (a.toInt==b.toInt) (Ir N a b):=by
 unfold Ir OQ;rw[bne_self_eq_false,bne_self_eq_false];simp only[re,Tf];by_cases h:a.toInt<b.toInt;{rw[eD h];exact⟨-1,rfl,(Tn.2 k7).symm⟩}
 ·rw[Zn h];by_cases d:a.toInt>b.toInt
  ·rw[eD d];exact⟨1,rfl,(Tn.2 k7).symm⟩
  ·rw[Zn d];exact⟨0,rfl,(TC.2 k7).symm⟩
def afn(N:Nat)(a b:Int64):Cz (a.toInt==b.toInt) (F2 N a b):=by
 unfold F2;by_cases h:a.toInt<b.toInt;{rw[eD h];exact⟨-1,rfl,(Tn.2 k7).symm⟩}
 ·rw[Zn h];by_cases d:a.toInt>b.toInt
  ·rw[eD d];exact⟨1,rfl,(Tn.2 k7).symm⟩
  ·rw[Zn d];exact⟨0,rfl,(TC.2 k7).symm⟩
def XC(N:Nat):∀(l:U Int)(k:Nat),Cz (l.all (·==0)) (KI N l k)
 |[],_=>⟨0,rfl,rfl⟩
 |x::l,k=>by
  rw[KI,Z4];cases h:x==0 with
  |false=>rw[show(x !=0)=true by unfold bne;rw[h];rfl];exact⟨x,rfl,h⟩
  |true=>rw[show(x !=0)=false by unfold bne;rw[h];rfl];exact XC N l (k+1)
def qy{c:Int}{t:Bool}(h:(c==0)=t):(c !=0)= !t:=by unfold bne;rw[h]
def atU(N:Nat)(a b:bD):Cz (tk a b) (Pg N a b):=by
 unfold Pg tk;cases h:bL a.ar==bL b.ar with
 |true=>
  obtain⟨c,d,f⟩:=afn N a.dh b.dh;rw[d];exact⟨c,rfl,by rw[f];cases a.dh.toInt==b.dh.toInt<;>rfl⟩
 |false=>
  obtain⟨c,d,f⟩:=UB N a.ar b.ar;rw[d];exact⟨c,rfl,by rw[f,h];rfl⟩
def ahw(N:Nat)(A B:U bD):∀(l r:U bD)(k:Nat),k<=A.length->A.drop k=l->B.drop k=r->Cz (eP tk l r) (zy N A B l k)
 |[],[],k,d,ha,hb=>by
  have i:=m7 ha;have f:=m7 hb;rw[zy,Zn (show ¬(A.length:Int)<(B.length:Int) by omega)];exact⟨0,rfl,rfl⟩
 |[],y::r,k,d,ha,hb=>by
  have i:=m7 ha;have f:=mg hb;rw[zy,eD (show(A.length:Int)<(B.length:Int) by omega)];exact⟨-1,rfl,rfl⟩
 |x::l,[],k,d,ha,hb=>by
  have f:=m7 hb;rw[zy,eD (show(k:Int)>=(B.length:Int) by omega)];exact⟨1,rfl,rfl⟩
 |x::l,y::r,k,d,ha,hb=>by
  have f:=mg hb;have m:=mg ha;obtain⟨c,j,g⟩:=atU N x y;rw[zy,Zn (show ¬(k:Int)>=(B.length:Int) by omega),Tf,ZR,bA hb,re,j,re,qy g,eP];cases h:tk x y with
  |false=>rw[h]at g;exact⟨c,rfl,g⟩
  |true=>exact ahw N A B l r (k+1) k7 (ie ha) (ie hb)
def U1(N:Nat)(a b:aK):Cz (mv a b) (De N a b):=by
 unfold De Vc mv;obtain⟨c,f,d⟩:=ahw N a.xL b.xL a.xL b.xL 0 (Wl _) rfl rfl;rw[f,re,qy d];cases h:eP tk a.xL b.xL with
 |false=>rw[h]at d;exact⟨c,rfl,by rw[d,Bool.and_false]⟩
 |true=>
  obtain⟨g,i,j⟩:=afn N a.xK b.xK;rw[i];exact⟨g,rfl,by rw[j,Bool.and_true]⟩
def abU(N:Nat)(A B:U aK):∀(l r:U aK)(k:Nat),k<=A.length->A.drop k=l->B.drop k=r->Cz (eP mv l r) (zp N A B l k)
 |[],[],k,d,ha,hb=>by
  have i:=m7 ha;have f:=m7 hb;rw[zp,Zn (show ¬(A.length:Int)<(B.length:Int) by omega)];exact⟨0,rfl,rfl⟩
 |[],y::r,k,d,ha,hb=>by
  have i:=m7 ha;have f:=mg hb;rw[zp,eD (show(A.length:Int)<(B.length:Int) by omega)];exact⟨-1,rfl,rfl⟩
 |x::l,[],k,d,ha,hb=>by
  have f:=m7 hb;rw[zp,eD (show(k:Int)>=(B.length:Int) by omega)];exact⟨1,rfl,rfl⟩
 |x::l,y::r,k,d,ha,hb=>by
  have f:=mg hb;have m:=mg ha;obtain⟨c,j,g⟩:=U1 N x y;rw[zp,Zn (show ¬(k:Int)>=(B.length:Int) by omega),Tf,ZR,bA hb,re,j,re,qy g,eP];cases h:mv x y with
  |false=>rw[h]at g;exact⟨c,rfl,g⟩
  |true=>exact abU N A B l r (k+1) k7 (ie ha) (ie hb)
def avc(N:Nat)(a b:U aK):Cz (eP mv a b) (J8 N a b):=by
 unfold J8 R8;obtain⟨c,f,d⟩:=uD N (a.length:Int) (b.length:Int);rw[ry]at d;rw[f,re,qy d];cases h:a.length==b.length with
 |false=>rw[h]at d;exact⟨c,rfl,by rw[d,sf _ _ _ h]⟩
 |true=>
  obtain⟨g,i,j⟩:=abU N a b a b 0 (Wl _) rfl rfl;rw[i];exact⟨g,rfl,j⟩
def atq(N:Nat)(a b:aT):Cz (Aj a b) (OI N a b):=by
 unfold OI Aj;obtain⟨c,g,d⟩:=UB N a.bp b.bp;obtain⟨i,j,f⟩:=U1 N a.aU b.aU;obtain⟨k,l,m⟩:=avc N a.bC b.bC;rw[g,j,l,re,re,re,qy d,qy f];cases h:bL a.bp==bL b.bp with
 |false=>rw[h]at d;exact⟨c,rfl,d⟩
 |true=>
  cases n:mv a.aU b.aU with
  |false=>rw[n]at f;exact⟨i,rfl,f⟩
  |true=>exact⟨k,rfl,m⟩
def adV(N:Nat)(A B:U aT):∀(l r:U aT)(k:Nat),k<=A.length->A.drop k=l->B.drop k=r->Cz (eP Aj l r) (AG N A B l k)
 |[],[],k,d,ha,hb=>by
  have i:=m7 ha;have f:=m7 hb;rw[AG,Zn (show ¬(A.length:Int)<(B.length:Int) by omega)];exact⟨0,rfl,rfl⟩
 |[],y::r,k,d,ha,hb=>by
  have i:=m7 ha;have f:=mg hb;rw[AG,eD (show(A.length:Int)<(B.length:Int) by omega)];exact⟨-1,rfl,rfl⟩
 |x::l,[],k,d,ha,hb=>by
  have f:=m7 hb;rw[AG,eD (show(k:Int)>=(B.length:Int) by omega)];exact⟨1,rfl,rfl⟩
 |x::l,y::r,k,d,ha,hb=>by
  have f:=mg hb;have m:=mg ha;obtain⟨c,j,g⟩:=atq N x y;rw[AG,Zn (show ¬(k:Int)>=(B.length:Int) by omega),Tf,ZR,bA hb,re,j,re,qy g,eP];cases h:Aj x y with
  |false=>rw[h]at g;exact⟨c,rfl,g⟩
  |true=>exact adV N A B l r (k+1) k7 (ie ha) (ie hb)
def aoa(N:Nat)(a b:U aT):Cz (eP Aj a b) (MX N a b):=by
 unfold MX RV;obtain⟨c,f,d⟩:=uD N (a.length:Int) (b.length:Int);rw[ry]at d;rw[f,re,qy d];cases h:a.length==b.length with
 |false=>rw[h]at d;exact⟨c,rfl,by rw[d,sf _ _ _ h]⟩
 |true=>
  obtain⟨g,i,j⟩:=adV N a b a b 0 (Wl _) rfl rfl;rw[i];exact⟨g,rfl,j⟩
def anF(N:Nat)(a b:aQ):Cz (ur a b) (OV N a b):=by
 unfold OV IL ur;obtain⟨d,g,h⟩:=uD N a.bt b.bt;obtain⟨i,j,k⟩:=uD N a.bW b.bW;obtain⟨l,m,n⟩:=uD N a.bR b.bR;obtain⟨o,q,r⟩:=uD N a.b9 b.b9;obtain⟨u,v,w⟩:=uD N a.b8 b.b8;obtain⟨c,e,f⟩:=XC N [d,i,l,o,u] 0;rw[g,j,m,q,v];simp only[re];rw[e];refine⟨c,rfl,?_⟩;rw[f];simp only[Z4,List.all_nil,h,k,n,r,w]
def af8(N:Nat)(A B:U au)(rec:au->au->O Int)(t:au->au->Bool)(i:∀x∈A,∀y,Cz (t x y) (rec x y)):∀(l r:U au)(k:Nat),k<=A.length->A.drop k=l->B.drop k=r->Cz (eP t l r) (yF N A B rec l k)
 |[],[],k,d,ha,hb=>by
  have j:=m7 ha;have f:=m7 hb;rw[yF,Zn (show ¬(A.length:Int)<(B.length:Int) by omega)];exact⟨0,rfl,rfl⟩
 |[],y::r,k,d,ha,hb=>by
  have j:=m7 ha;have f:=mg hb;rw[yF,eD (show(A.length:Int)<(B.length:Int) by omega)];exact⟨-1,rfl,rfl⟩
 |x::l,[],k,d,ha,hb=>by
  have f:=m7 hb;rw[yF,eD (show(k:Int)>=(B.length:Int) by omega)];exact⟨1,rfl,rfl⟩
 |x::l,y::r,k,d,ha,hb=>by
  have f:=mg hb;have n:=mg ha;obtain⟨c,m,g⟩:=i x (yg (bA ha)) y;rw[yF,Zn (show ¬(k:Int)>=(B.length:Int) by omega),Tf,ZR,bA hb,re,m,re,qy g,eP];cases h:t x y with
  |false=>rw[h]at g;exact⟨c,rfl,g⟩
  |true=>exact af8 N A B rec t i l r (k+1) k7 (ie ha) (ie hb)
def adU(N:Nat):∀(d:Nat)(a b:au)(D:Nat),SizeOf.sizeOf a<d->3*d<=D->Cz (IY d a b) (xP N D a b)
 |0,_,_,_,h,_=>absurd h (ZJ _)
 |d+1,a,b,D,h,hD=>by
  obtain⟨D,rfl⟩:∃k,D=k+3:=⟨D-3,by omega⟩;rw[xP,Ii,EI,IY];obtain⟨v,w,z⟩:=uD N a.aA b.aA;obtain⟨A,B,C⟩:=UB N a.ar b.ar;obtain⟨E,F,G⟩:=aah N a.cU.xN b.cU.xN;obtain⟨H,J,K⟩:=aah N a.cU.xD b.cU.xD;obtain⟨L,M,Q⟩:=anF N a.aw b.aw;obtain⟨R,S,T⟩:=U1 N a.aU b.aU;obtain⟨c,e,f⟩:=XC N [v,A,E,H,L,R] 0;obtain⟨W,e7,q⟩:=aoa N a.xIdx b.xIdx;obtain⟨c8,e8,g⟩:=uD N (a.bk.length:Int) (b.bk.length:Int);obtain⟨c9,e9,f9⟩:=af8 N a.bk b.bk (xP N D) (IY d) (λx hx y=>adU N d x y D (by have:=lA hx;omega) k7) a.bk b.bk 0 (Wl _) rfl rfl;rw[ry]at g;unfold IL;rw[w,B,F,J,M,S];simp only[re];rw[e,e7,e8,e9];simp only[re];simp only[Z4,List.all_nil,z,C,G,K,Q,T]at f;rw[qy f,qy q,qy g];unfold ahQ;generalize (a.aA==b.aA)=i at*;generalize (bL a.ar==bL b.ar)=j at*;generalize (a.cU.xN.toInt==b.cU.xN.toInt)=l at*;generalize (a.cU.xD.toInt==b.cU.xD.toInt)=m at*;generalize ur a.aw b.aw=n at*;generalize mv a.aU b.aU=o at*;cases r:i&&(j&&(l&&(m&&(n&&(o&&true)))))with
  |false=>
   rw[r]at f;refine⟨c,rfl,?_⟩;rw[f];revert r;cases i<;>cases j<;>cases l<;>cases m<;>cases n<;>cases o<;>first|(intro _;rfl)|(intro h;cases h)
  |true=>
   have ht:i=true/\j=true/\l=true/\m=true/\n=true/\o=true:=by
    revert r;cases i<;>cases j<;>cases l<;>cases m<;>cases n<;>cases o<;>first|(intro _;exact⟨rfl,rfl,rfl,rfl,rfl,rfl⟩)|(intro h;cases h)
   obtain⟨rfl,rfl,rfl,rfl,rfl,rfl⟩:=ht;cases h7:eP Aj a.xIdx b.xIdx with
   |false=>rw[h7]at q;exact⟨W,rfl,q⟩
   |true=>
    cases u:a.bk.length==b.bk.length with
    |false=>rw[u]at g;exact⟨c8,rfl,by rw[g,sf _ _ _ u];rfl⟩
    |true=>exact⟨c9,rfl,by rw[f9];rfl⟩
def Et(d:Nat)(a b:aF):Bool:=(bL a.ar==bL b.ar)&&(ur a.aw b.aw&&((a.cE==b.cE)&&(eP vL a.aJ b.aJ&&(eP vL a.bI b.bI&&IY d a.aX b.aX))))
def Sw(d:Nat)(p q:aI):Bool:=eP xJ p.bj q.bj&&(eP xJ p.cB q.cB&&(eP Ao p.cO q.cO&&(eP ze p.aS q.aS&&eP (Et d) p.ax q.ax)))
set_option linter.unusedSectionVars false
def TF(n:Int):aH×Int:=bif decide (-2147483647<=n)&&decide (n<=2147483647)then(⟨Int64.ofInt n,1⟩,0)else(dB,3)
def aqh{n:Int}(h:(TF n).2=0): -2147483647<=n/\n<=2147483647/\(TF n).1=⟨Int64.ofInt n,1⟩:=by
 unfold TF at h ⊢;cases d:(decide (-2147483647<=n)&&decide (n<=2147483647))with
 |false=>rw[d]at h;cases h
 |true=>
  rw[Zo,UL,UL]at d;exact⟨d.1,d.2,rfl⟩
def acZ{t:aQ}(F:AT t)(n:Int):(oe t n).xN.toInt=sY (t.b8==2) (iV t) n:=by
 have d:=H6 F;have:=agN (w:=t.b8==2) (h:=iV t) (n:=n) k7;exact pf k7 k7
def abN{t:aQ}(F:AT t)(n:Int):ML t (oe t n):=by
 have d:=H6 F;have:=agN (w:=t.b8==2) (h:=iV t) (n:=n) k7;exact⟨rfl,by rw[acZ F];exact this.1,by rw[acZ F];exact this.2⟩
def acs{t:aQ}(g:t.bt=2){v:aH}(V:ML t v):dj t v=true:=by
 unfold dj;have f:=V.n1;have h:=V.n2;unfold iV at f h;rw[g,V.d,show((2:Int)==2)=true from rfl,Tj,eD f,eD k7];rfl
def RY{t:aQ}(d:t.bt=1){v:aH}(V:jS v):dj t v=true:=by
 unfold dj;rw[d,show((1:Int)==2)=false from rfl,Tf,eD V.n1,eD V.n2,eD V.d1,eD V.d2,V.g];rfl
def aax{t:aQ}(d:t.bt=3){n:Int}(h1: -2147483647<=n)(f:n<=2147483647):dj t ⟨Int64.ofInt n,1⟩=true:=by
 unfold dj;have e:=pf (n:=n) k7 k7;simp only[e];rw[d,show((3:Int)==2)=false from rfl,Tf,eD h1,eD f];rfl
section
variable {t:aQ} {a b c:aH} (ht:dD t=true) (ha:dj t a=true) (hb:dj t b=true)
include ht ha
theorem auZ(d:t.bt=1):jS (⟨-a.xN,a.xD⟩:aH)/\(⟨-a.xN,a.xD⟩:aH).xN.toInt= -a.xN.toInt:=by
 have A:=ua ha k7;have f:=A.n1;have h:=A.n2;have e:(-a.xN).toInt= -a.xN.toInt:=LV k7;refine⟨⟨by show _<=(-a.xN).toInt;omega,by show(-a.xN).toInt<=_;omega,A.d1,A.d2,?_⟩,e⟩;show Nat.gcd (-a.xN).toInt.natAbs _=1;rw[e,Int.natAbs_neg];exact A.g
end
section
variable {t:aQ} {a:aH} (ht:dD t=true) (ha:dj t a=true)
include ht ha
end
def Oi{t:aQ}(i:t.bt=1){n d:Int}(h:(l4 n d).2=0):dj t (l4 n d).1=true:=by
 obtain⟨x,f⟩:∃x,l4 n d=(x,0):=⟨_,Prod.ext rfl h⟩;have L:=ac9 f;rw[f];exact RY i ⟨L.n1,L.n2,L.d1,L.d2,L.g⟩
def Js{d:Int}{t:aQ}{a b:aH}(h:(lr d t a b).2=0):dD t=true/\dj t a=true/\dj t (lr d t a b).1=true:=by
 unfold lr at h ⊢;cases l:(decide (d<4)||decide (d>10))with
 |true=>rw[l]at h;cases h
 |false=>
  rw[l,Tf]at h;rw[Yy,UF,UF]at l;cases ht:dD t with
  |false=>rw[ht]at h;cases h
  |true=>
   rw[ht,VX,Tf]at h;cases ha:dj t a with
   |false=>rw[ha]at h;cases h
   |true=>
    rw[ha,VX,c6]at h;cases hb:(!(d==8)&& !dj t b)with
    |true=>rw[hb]at h;cases h
    |false=>
     rw[hb,Tf]at h;simp only[Tf,VX,c6,true_and];cases m:(d==9)with
     |true=>
      rw[TC]at m;subst m;have o:dj t b=true:=by simpa using hb
      rw[Tj];dsimp only;cases decide (qM t a b>0);{exact ha};{exact o}
     |false=>
      rw[m,Tf]at h;rw[Tf];cases q:(d==10)with
      |true=>
       rw[TC]at q;subst q;have o:dj t b=true:=by simpa using hb
       rw[Tj];dsimp only;cases decide (qM t a b<0);{exact ha};{exact o}
      |false=>
       rw[q,Tf]at h;rw[Tf];rcases kinds ht with f|f|f
       ·rw[f,show((1:Int)==2)=false from rfl,Tf,show((1:Int)==3)=false from rfl,Tf]at h ⊢;unfold Aa at h ⊢;cases g:(d==4)with
        |true=>rw[g,Tj]at h;exact Oi f h
        |false=>
         rw[g,Tf]at h;rw[Tf];cases i:(d==5)with
         |true=>rw[i,Tj]at h;exact Oi f h
         |false=>
          rw[i,Tf]at h;rw[Tf];cases j:(d==6)with
          |true=>rw[j,Tj]at h;exact Oi f h
          |false=>
           rw[j,Tf]at h;rw[Tf];cases k:(d==7)with
           |true=>rw[k,Tj]at h;exact Oi f h
           |false=>exact RY f (auZ ht ha f).1
       ·rw[f,show((2:Int)==2)=true from rfl,Tj]at h ⊢;have F:=λn=>acs f (abN (ni ht f) n);unfold M1 at h ⊢;cases g:(d==4)with
        |true=>exact F _
        |false=>
         cases i:(d==5)with
         |true=>exact F _
         |false=>
          cases j:(d==6)with
          |true=>exact F _
          |false=>
           cases r:(d==8)with
           |true=>exact F _
           |false=>
            rw[g,i,j,r,Tf,Tf,Tf,Tf]at h;cases u:(b.xN.toInt==0)with
            |true=>rw[u]at h;cases h
            |false=>exact F _
       ·rw[f,show((3:Int)==2)=false from rfl,Tf,show((3:Int)==3)=true from rfl,Tj]at h ⊢;unfold zQ at h ⊢;cases k:(d==7&&b.xN.toInt==0)with
        |true=>rw[k]at h;cases h
        |false=>
         rw[k,Tf]at h;rw[Tf];obtain⟨q1,v,w⟩:=aqh h;exact(congrArg (dj t ·) w).trans (aax f q1 v)
def aqi{s t:aQ}{v:aH}(h:(vl s t v).2=0):dD t=true/\dj t (vl s t v).1=true:=by
 unfold vl at h ⊢;cases f:dD s with
 |false=>rw[f]at h;cases h
 |true=>
  cases ht:dD t with
  |false=>rw[f,ht]at h;cases h
  |true=>
   rw[f,ht,VX,Bool.or_self,Tf]at h;rw[VX,Bool.or_self,Tf];cases g:dj s v with
   |false=>rw[g]at h;cases h
   |true=>
    have R:=abY f g;have k:=R.n1;have l:=R.n2;have i:=R.d1;rw[VX,Tf];dsimp only;refine⟨rfl,?_⟩;rcases kinds ht with d|d|d
    ·rw[d];exact RY d R
    ·rw[d];exact acs d (abN (ni ht d) _)
    ·rw[d];have q1:(sT s v).xN.toInt /(sT s v).xD.toInt<=2147483647:=by
       refine Int.ediv_le_of_le_mul k7 ?_;have:=Y3 i (show(0:Int)<=2147483647 by decide);omega
     have j: -2147483647<=(sT s v).xN.toInt /(sT s v).xD.toInt:=by
      refine(Int.le_ediv_iff_mul_le k7).2 ?_;have:=Y3 i (show(0:Int)<=2147483647 by decide);omega
     exact aax d j q1
def vt{α β:Type}{b:Bool}{x:Except α β}{e:α}{y:β}(h:(bif b then x else .error e)= .ok y):b=true/\x= .ok y:=by
 cases b with
 |true=>exact⟨rfl,h⟩
 |false=>cases h
def E2{α β:Type}{r:Except Int α}{f:α->Except Int β}{y:β}(h:iQ r f= .ok y):∃x,r= .ok x/\f x= .ok y:=by
 cases r with
 |error z=>cases h
 |ok x=>exact⟨x,rfl,h⟩
def Wg{t:aQ}{r:aH×Int}{x:aH×aQ}(h:pA t r= .ok x):r.2=0/\x=(r.1,t):=by
 unfold pA at h;cases d:r.2 !=0 with
 |true=>rw[d]at h;cases h
 |false=>rw[d]at h;cases h;exact⟨by simpa using d,rfl⟩
def S4{d:Int}{i:Nat}(h:d≠11\/i≠0)(f:d<16):nE d i=false:=by
 unfold nE;rw[show(d==16)=false by rw[Tn];omega,show(d==17)=false by rw[Tn];omega,show(d==18)=false by rw[Tn];omega];rcases h with h|h
 ·rw[show(d==11)=false by rw[Tn];exact h];rfl
 ·rw[show(i==0)=false by rw[Tn];exact h,Bool.and_false];rfl
def Ev.c1{e a:au}(H:Ev e)(ha:e.bk=[a])(d:e.aA<16)(f:e.aA≠11):fc a=false:=by
 rw[H.n.want 0 a (by rw[ha];rfl)];exact S4 (.inl f) d
def Ev.c2{e a b:au}(H:Ev e)(ha:e.bk=[a,b])(d:e.aA<16)(f:e.aA≠11):fc a=false/\fc b=false:=by
 refine⟨?_,?_⟩;{rw[H.n.want 0 a (by rw[ha];rfl)];exact S4 (.inl f) d};{rw[H.n.want 1 b (by rw[ha];rfl)];exact S4 (.inl f) d}
def Ev.c3{e c a b:au}(H:Ev e)(ha:e.bk=[c,a,b])(d:e.aA=11):fc c=true/\fc a=false/\fc b=false:=by
 refine⟨?_,?_,?_⟩;{rw[H.n.want 0 c (by rw[ha];rfl),d];rfl};{rw[H.n.want 1 a (by rw[ha];rfl),d];rfl};{rw[H.n.want 2 b (by rw[ha];rfl),d];rfl}
def Ev.k1{e a:au}(H:Ev e)(ha:e.bk=[a])(d:e.aA=18):fc a=true:=by
 rw[H.n.want 0 a (by rw[ha];rfl),d];rfl
def Ev.k2{e a b:au}(H:Ev e)(ha:e.bk=[a,b])(d:e.aA=16\/e.aA=17):fc a=true/\fc b=true:=by
 refine⟨?_,?_⟩;{rw[H.n.want 0 a (by rw[ha];rfl)];rcases d with h|h<;>rw[h]<;>rfl};{rw[H.n.want 1 b (by rw[ha];rfl)];rcases d with h|h<;>rw[h]<;>rfl}
def WZ{e a:au}(ha:e.bk=[a]):SizeOf.sizeOf a<SizeOf.sizeOf e:=lA (by rw[ha];simp)
def Q6{e a b:au}(ha:e.bk=[a,b]):SizeOf.sizeOf a<SizeOf.sizeOf e/\SizeOf.sizeOf b<SizeOf.sizeOf e:=⟨lA (by rw[ha];simp),lA (by rw[ha];simp)⟩
def af7{e c a b:au}(ha:e.bk=[c,a,b]):SizeOf.sizeOf c<SizeOf.sizeOf e/\SizeOf.sizeOf a<SizeOf.sizeOf e/\SizeOf.sizeOf b<SizeOf.sizeOf e:=⟨lA (by rw[ha];simp),lA (by rw[ha];simp),lA (by rw[ha];simp)⟩
def Ev.a1{e a:au}(H:Ev e)(ha:e.bk=[a]):Ev a:=H.arg (by rw[ha];simp)
def Ev.a2{e a b:au}(H:Ev e)(ha:e.bk=[a,b]):Ev a/\Ev b:=⟨H.arg (by rw[ha];simp),H.arg (by rw[ha];simp)⟩
def Ev.a3{e c a b:au}(H:Ev e)(ha:e.bk=[c,a,b]):Ev c/\Ev a/\Ev b:=⟨H.arg (by rw[ha];simp),H.arg (by rw[ha];simp),H.arg (by rw[ha];simp)⟩
section
variable {mem:U aO} {env:U aR}
def agG{e a:au}{x:aH×aQ}(ha:e.bk=[a])(f:e.aA=12)(h:dK mem env e= .ok x):∃y,dK mem env a= .ok y/\(vl y.2 e.aw y.1).2=0/\x=((vl y.2 e.aw y.1).1,e.aw):=by
 rw[tK k7 ha]at h;obtain⟨y,g,d⟩:=E2 h;rw[f,show((12:Int)==12)=true from rfl,Tj]at d;exact⟨y,g,Wg d⟩
def afE{e a:au}{x:aH×aQ}(ha:e.bk=[a])(f:e.aA=8)(h:dK mem env e= .ok x):∃y,dK mem env a= .ok y/\(lr 8 y.2 y.1 y.1).2=0/\x=((lr 8 y.2 y.1 y.1).1,y.2):=by
 rw[tK k7 ha]at h;obtain⟨y,g,d⟩:=E2 h;rw[f,show((8:Int)==12)=false from rfl,Tf]at d;exact⟨y,g,Wg d⟩
def af1{e a b:au}{x:aH×aQ}(ha:e.bk=[a,b])(d:¬e.aA<=3)(h:dK mem env e= .ok x):∃y z,dK mem env a= .ok y/\dK mem env b= .ok z/\y.2=z.2/\(lr e.aA y.2 y.1 z.1).2=0/\x=((lr e.aA y.2 y.1 z.1).1,y.2):=by
 rw[IN d ha]at h;obtain⟨y,f,g⟩:=E2 h;obtain⟨z,i,j⟩:=E2 g;obtain⟨k,l⟩:=vt j;exact⟨y,z,f,i,ER.1 k,Wg l⟩
def agk{e c a b:au}{x:aH×aQ}(ha:e.bk=[c,a,b])(d:¬e.aA<=3)(h:dK mem env e= .ok x):∃t,ke mem env c= .ok t/\(bif t then dK mem env a else dK mem env b)= .ok x:=by
 rw[HJ d ha]at h;exact E2 h
def Wv:∀(n:Nat)(e:au),SizeOf.sizeOf e<=n->Ev e->fc e=false->∀x,dK mem env e= .ok x->dD x.2=true/\dj x.2 x.1=true
 |0,e,j,_,_,_,_=>by cases e;simp at j
 |n+1,e,j,H,o,x,f=>by
  rcases kd H.n o with h|⟨a,ha,g⟩|⟨a,ha,g⟩|⟨a,b,ha,g⟩|⟨c,a,b,ha,g⟩
  ·rw[A6 h]at f;exact acr H.n.lit f
  ·obtain⟨y,i,d,rfl⟩:=agG ha g f;exact aqi d
  ·obtain⟨y,i,d,rfl⟩:=afE ha g f;exact⟨(Js d).1,(Js d).2.2⟩
  ·obtain⟨y,z,i,d,q,k,rfl⟩:=af1 ha k7 f;exact⟨(Js k).1,(Js k).2.2⟩
  ·obtain⟨t,i,d⟩:=agk ha k7 f;have r:=af7 ha;have l:=H.c3 ha g;have m:=H.a3 ha;cases t with
   |true=>exact Wv n a k7 m.2.1 l.2.1 x d
   |false=>exact Wv n b k7 m.2.2 l.2.2 x d
def au2{e:au}{x:aH×aQ}(H:Ev e)(d:fc e=false)(f:dK mem env e= .ok x):dD x.2=true/\dj x.2 x.1=true:=Wv _ e (Zx _) H d x f
end
structure Tq(l:List bD):Prop where
 J0:qe l
 name:∀m∈l,iO m.ar=true
 dc:∀m∈l,m.dh.toInt≠0
def QL:∀(l:U bD)(p:O so),sR p l=true->∀m∈l,iO m.ar=true/\m.dh.toInt≠0
 |[],_,_,m,d=>by cases d
 |x::l,p,h,m,d=>by
  rw[DH]at h;simp only[Zo,UC,Tn]at h;rcases Za.1 d with rfl|d
  ·exact⟨h.1,h.2.1⟩
  ·exact QL l _ h.2.2.2 m d
def acW:∀(l:U bD)(p:O so),Tq l->(∀q,p=some q->∀x∈l.map (·.ar),lt q x=true)->sR p l=true
 |[],p,_,_=>by cases p<;>rfl
 |x::l,p,V,f=>by
  rw[DH,V.name x Zt,Wn (V.dc x Zt)];have g:=acW l (some x.ar) ⟨V.J0.tail,λm d=>V.name m (Zk _ d),λm d=>V.dc m (Zk _ d)⟩ λq h y i=>by
    cases h
    have ha:=V.J0;unfold qe yE at ha;rw[ZY,List.pairwise_cons]at ha;exact ha.1 y i
  rw[g];cases p with
  |none=>rfl
  |some q=>
   have:=f q rfl x.ar gj;unfold lt at this;show(true&&(!false&&(Op.bytesLess (bL q) (bL x.ar)&&true)))=true;rw[this];rfl
def N7{l:aK}:gh l=true↔Tq l.xL:=by
 refine⟨λh=>⟨aky h,λm d=>(QL _ _ h m d).1,λm d=>(QL _ _ h m d).2⟩,λh=>acW _ _ h λq f=>by cases f⟩
def jl(env:U aR):U bD->O Int
 |[]=>some 0
 |m::r=>match iz env m.ar with
  |none=>none
  |some v=>(jl env r).map (m.dh.toInt*v.toInt+·)
def Nw(env:U aR):∀(l:U bD)(a:Int),kH env l a=(jl env l).map (a+·)
 |[],a=>by rw[kH,jl];simp
 |m::l,a=>by
  rw[kH,jl];cases iz env m.ar with
  |none=>rfl
  |some v=>
   dsimp only;rw[Nw env l];cases jl env l with
   |none=>rfl
   |some s=>simp only[ZG];congr 1;omega
def tS(env:U aR):U (so×Int×Int)->O Int
 |[]=>some 0
 |t::r=>match iz env t.1 with
  |none=>none
  |some v=>(tS env r).map ((t.2.1+t.2.2)*v.toInt+·)
def DA{env:U aR}{m:bD}{l:U bD}{z:Int}(h:jl env (m::l)=some z):∃v s,iz env m.ar=some v/\jl env l=some s/\z=m.dh.toInt*v.toInt+s:=by
 rw[jl]at h;cases d:iz env m.ar with
 |none=>rw[d]at h;cases h
 |some v=>
  rw[d]at h;cases f:jl env l with
  |none=>rw[f]at h;cases h
  |some s=>rw[f]at h;exact⟨v,s,rfl,rfl,(Zl h).symm⟩
def Hb{env:U aR}{s:so}{x y:Int}{r:U (so×Int×Int)}{v:Int64}{z:Int}(h:iz env s=some v)(d:tS env r=some z):tS env ((s,x,y)::r)=some ((x+y)*v.toInt+z):=by
 rw[tS];dsimp only;rw[h,d];rfl
def DX(env:U aR):∀(a b:U bD)(x y:Int),jl env a=some x->jl env b=some y->tS env (ga a b)=some (x+y)
 |[],[],x,y,d,f=>by cases d;cases f;rw[ga];rfl
 |a::l,[],x,y,d,f=>by
  obtain⟨v,s,g,h,j⟩:=DA d;cases f
  rw[ga,Hb g (DX env l [] s 0 h rfl)]
  congr 1;grind
 |[],b::r,x,y,d,f=>by
  obtain⟨v,s,g,h,j⟩:=DA f;cases d
  rw[ga,Hb g (DX env [] r 0 s rfl h)]
  congr 1;grind
 |a::l,b::r,x,y,d,f=>by
  obtain⟨v,s,g,h,j⟩:=DA d;obtain⟨w,u,i,k,o⟩:=DA f;rw[ga];split
  ·rw[Hb g (DX env l (b::r) s y h f)]
   congr 1;grind
  ·rename_i m
   split
   ·rw[Hb i (DX env (a::l) r x u d k)]
    congr 1;grind
   ·rename_i n
    have e:=Uf (by simpa using m) (by simpa using n);rw[e,i]at g;cases g
    rw[e,Hb i (DX env l r s u h k)]
    congr 1;grind
termination_by a b=>a.length+b.length
def aeD(env:U aR):∀(l:U (so×Int×Int))(z:Int),tS env l=some z->l.all m9=true->jl env (l.filterMap jv)=some z
 |[],z,h,_=>h
 |t::l,z,h,d=>by
  rw[Z4,Zo]at d;rw[tS]at h;cases f:iz env t.1 with
  |none=>rw[f]at h;cases h
  |some v=>
   rw[f]at h;cases g:tS env l with
   |none=>rw[g]at h;cases h
   |some s=>
    rw[g]at h;have j:=aeD env l s g d.2;have k:z=(t.2.1+t.2.2)*v.toInt+s:=(Zl h).symm;by_cases i:t.2.1+t.2.2=0;{rw[List.filterMap_cons,show jv t=none by unfold jv;rw[ae i]];dsimp only;rw[j,k,i,Int.zero_mul,Int.zero_add]};{rw[List.filterMap_cons,show jv t=some ⟨t.1,Int64.ofInt (t.2.1+t.2.2)⟩ by unfold jv;rw[af i]];dsimp only;have hb:=mU.1 d.1;rw[jl];dsimp only;rw[f,j,k,Int64.toInt_ofInt_of_le k7 k7];rfl}
def amQ{l:U (so×Int×Int)}(ha:yE (l.map (·.1)))(k:∀t∈l,iO t.1=true)(n:l.all m9=true):Tq (l.filterMap jv):=by
 have i:∀m∈l.filterMap jv,∃t∈l,m.ar=t.1/\m.dh.toInt≠0:=λm d=>by
  obtain⟨t,ht,e⟩:=List.mem_filterMap.1 d;unfold jv at e;split at e;{cases e}
  ·rename_i f
   cases e
   have hb:=mU.1 (Zc.1 n t ht);exact⟨t,ht,rfl,by show(Int64.ofInt _).toInt≠0;rw[Int64.toInt_ofInt_of_le k7 k7];exact f⟩
 refine⟨?_,λm d=> ?_,λm d=> ?_⟩
 ·have o:∀l:U (so×Int×Int),yE (l.map (·.1))->qe (l.filterMap jv):=by
   intro l
   induction l with
   |nil=>intro _;exact List.Pairwise.nil
   |cons t l j=>
    intro h;have g:((t.1::l.map (·.1)):U so).Pairwise λa b=>lt a b=true:=h;rw[List.pairwise_cons]at g;rw[List.filterMap_cons];unfold jv;by_cases f:t.2.1+t.2.2=0
    ·rw[ae f];exact j g.2
    ·rw[af f];refine List.pairwise_cons.2 ⟨λx q=> ?_,j g.2⟩;obtain⟨m,d,rfl⟩:=UZ.1 q;obtain⟨u,r,e⟩:=List.mem_filterMap.1 d;split at e
     ·cases e
     ·cases e;exact g.1 u.1 (UZ.2 ⟨u,r,rfl⟩)
  exact o l ha
 ·obtain⟨t,ht,e,_⟩:=i m d;rw[e];exact k t ht
 ·exact(i m d).choose_spec.2.2
def atr{a b:Int64}(h:fS (a.toInt+b.toInt)=true):(a+b).toInt=a.toInt+b.toInt:=by
 have:=mU.1 h;rw[Hk,cR];omega
def ahh{a b:Int64}(h:fS (a.toInt*b.toInt)=true):(a*b).toInt=a.toInt*b.toInt:=by
 have:=mU.1 h;rw[UK,cR];omega
def aiL{f g d:aK}(h:mM f g= .ok d):gh d=true:=by
 rw[N3]at h;obtain⟨i,h⟩:=vt h;obtain⟨k,h⟩:=vt h;rw[Zo]at i k;have l:=Except.ok.inj h;subst l;have F:=N7.1 i.1;have G:=N7.1 i.2;refine N7.2 (amQ (Cw _ _ F.J0 G.J0) (λt ht=> ?_) k.2);rcases (sF f.xL g.xL t.1).1 (UZ.2 ⟨t,ht,rfl⟩)with h|h
 ·obtain⟨m,j,e⟩:=UZ.1 h;rw[<-e];exact F.name m j
 ·obtain⟨m,j,e⟩:=UZ.1 h;rw[<-e];exact G.name m j
def an9{env:U aR}{f g d:aK}{s u:Int}(h:mM f g= .ok d)(i:kH env f.xL f.xK.toInt=some s)(j:kH env g.xL g.xK.toInt=some u):kH env d.xL d.xK.toInt=some (s+u):=by
 rw[N3]at h;obtain⟨l,h⟩:=vt h;obtain⟨k,h⟩:=vt h;rw[Zo]at l k;have m:=Except.ok.inj h;subst m;rw[Nw]at i j ⊢;cases ha:jl env f.xL with
 |none=>rw[ha]at i;cases i
 |some x=>
  cases hb:jl env g.xL with
  |none=>rw[hb]at j;cases j
  |some y=>
   rw[ha]at i;rw[hb]at j;have n:f.xK.toInt+x=s:=Zl i;have o:g.xK.toInt+y=u:=Zl j;show(jl env ((ga f.xL g.xL).filterMap jv)).map ((f.xK+g.xK).toInt+·)=_;rw[aeD env _ _ (DX env _ _ x y ha hb) k.2,atr k.1,ZG]
   congr 1;omega
def adj{env:U aR}(b:Int64):∀(l:U bD)(z:Int),jl env l=some z->l.all (wO b)=true->jl env (l.map (Ez b))=some (z*b.toInt)
 |[],z,h,_=>by cases h;rw[ai,jl,Int.zero_mul]
 |m::l,z,h,d=>by
  rw[Z4,Zo]at d;obtain⟨v,s,f,g,i⟩:=DA h;rw[ZY,jl];show(match iz env m.ar with|none=>none|some v=>(jl env (l.map (Ez b))).map ((m.dh*b).toInt*v.toInt+·))=_;rw[f,adj b l s g d.2];dsimp only;rw[ahh d.1,ZG,i]
  congr 1;grind
def akE{env:U aR}{f d:aK}{b:Int64}{s:Int}(h:pW f b= .ok d)(g:kH env f.xL f.xK.toInt=some s):kH env d.xL d.xK.toInt=some (s*b.toInt):=by
 rw[UM]at h;obtain⟨l,h⟩:=vt h;cases hb:b.toInt==0 with
 |true=>
  rw[hb,Tj]at h;have i:=Except.ok.inj h;subst i;rw[TC]at hb;rw[hb,Int.mul_zero];rfl
 |false=>
  rw[hb,Tf]at h;obtain⟨j,h⟩:=vt h;rw[Zo]at j;have i:=Except.ok.inj h;subst i;rw[Nw]at g ⊢;cases ha:jl env f.xL with
  |none=>rw[ha]at g;cases g
  |some x=>
   rw[ha]at g;have k:f.xK.toInt+x=s:=Zl g;show(jl env (f.xL.map (Ez b))).map ((f.xK*b).toInt+·)=_;rw[adj b _ _ ha j.2,ahh j.1,ZG,<-k]
   congr 1;grind
def aeB{l:aK}{env:U aR}{n:Int64}(h:db l env=(n,0)):gh l=true/\kH env l.xL l.xK.toInt=some n.toInt:=by
 unfold db at h;cases f:gh l with
 |false=>rw[f]at h;cases h
 |true=>
  rw[f,VX,Tf]at h;cases g:kH env l.xL l.xK.toInt with
  |none=>rw[g]at h;cases h
  |some s=>
   rw[g]at h;dsimp only at h;cases d:fS s with
   |false=>rw[d]at h;cases h
   |true=>
    rw[d]at h;have e:=congrArg Prod.fst h;have e:Int64.ofInt s=n:=e;have hb:=mU.1 d;refine⟨rfl,?_⟩;rw[<-e,Int64.toInt_ofInt_of_le k7 k7]
def adu{l:aK}{env:U aR}{n:Int64}(h1:gh l=true)(d:kH env l.xL l.xK.toInt=some n.toInt):db l env=(n,0):=by
 unfold db;rw[h1,d];dsimp only;rw[ab2,Int64.ofInt_toInt];rfl
def arb{mem:U aO}{env:U aR}{e:au}{z:Int}(h:l6 mem env e= .error z):z≠0:=by
 unfold l6 at h;cases i:(e.aA==1)with
 |true=>rw[i]at h;cases h
 |false=>
  rw[i,Tf]at h;cases j:(e.aA==2)with
  |true=>
   rw[j,Tj]at h;cases d:((db e.aU env).2 !=0)with
   |true=>rw[d]at h;cases h;simpa using d
   |false=>
    rw[d,Tf]at h;cases k:(decide ((db e.aU env).1.toInt>2147483647)||decide ((db e.aU env).1.toInt< -2147483647))with
    |true=>rw[k]at h;cases h;decide
    |false=>rw[k]at h;cases h
  |false=>
   rw[j,Tf]at h;unfold tB at h;cases f:j7 mem e.ar with
   |error y=>rw[f]at h;cases h;exact av0 f
   |ok t=>
    rw[f]at h;dsimp only at h;cases l:((e.xIdx.length:Int) !=(t.aJ.length:Int))with
    |true=>rw[l]at h;cases h;decide
    |false=>
     rw[l,Tf]at h;cases g:ZD mem env e.xIdx t.aJ 0 with
     |error y=>rw[g]at h;cases h;exact aeg mem env _ _ _ _ g
     |ok c=>
      rw[g]at h;dsimp only at h;cases m:t.fE[c.toNat]? with
      |none=>rw[m]at h;cases h;decide
      |some v=>rw[m]at h;cases h
def s5{α β:Type}{r:Except Int α}{f:α->Except Int β}{z:Int}(h:iQ r f= .error z):r= .error z\/∃x,r= .ok x/\f x= .error z:=by
 cases r with
 |error y=>exact .inl (by cases h;rfl)
 |ok x=>exact .inr ⟨x,rfl,h⟩
def Xa{t:aQ}{r:aH×Int}{z:Int}(h:pA t r= .error z):z≠0:=by
 unfold pA at h;cases d:r.2 !=0 with
 |true=>rw[d]at h;cases h;simpa using d
 |false=>rw[d]at h;cases h
def yt{α:Type}{b:Bool}{x y:Except Int α}{z:Int}(h:(bif b then x else y)= .error z):x= .error z\/y= .error z:=by
 cases b with
 |true=>exact .inl h
 |false=>exact .inr h
def p6{mem:U aO}{env:U aR}:∀(n:Nat)(e:au),SizeOf.sizeOf e<=n->Ev e->(∀z,dK mem env e= .error z->fc e=false->z≠0)/\(∀z,ke mem env e= .error z->fc e=true->z≠0)
 |0,e,j,_=>by cases e;simp at j
 |n+1,e,j,H=>by
  refine⟨λz h g=> ?_,λz h g=> ?_⟩
  ·rcases kd H.n g with o|⟨a,ha,d⟩|⟨a,ha,d⟩|⟨a,b,ha,d⟩|⟨c,a,b,ha,d⟩
   ·rw[A6 o]at h;exact arb h
   ·have k:=WZ ha;rw[tK k7 ha]at h;rcases s5 h with h|⟨x,_,h⟩
    ·exact(p6 n a k7 (H.a1 ha)).1 z h (H.c1 ha k7 k7)
    ·rcases yt h with h|h<;>exact Xa h
   ·have k:=WZ ha;rw[tK k7 ha]at h;rcases s5 h with h|⟨x,_,h⟩
    ·exact(p6 n a k7 (H.a1 ha)).1 z h (H.c1 ha k7 k7)
    ·rcases yt h with h|h<;>exact Xa h
   ·have l:=Q6 ha;have f:=H.c2 ha k7 k7;rw[IN k7 ha]at h;rcases s5 h with h|⟨x,_,h⟩
    ·exact(p6 n a k7 (H.a2 ha).1).1 z h f.1
    ·rcases s5 h with h|⟨y,_,h⟩
     ·exact(p6 n b k7 (H.a2 ha).2).1 z h f.2
     ·rcases yt h with h|h
      ·exact Xa h
      ·cases h;decide
   ·have q:=af7 ha;have i:=H.c3 ha d;rw[HJ k7 ha]at h;rcases s5 h with h|⟨x,_,h⟩
    ·exact(p6 n c k7 (H.a3 ha).1).2 z h i.1
    ·rcases yt h with h|h
     ·exact(p6 n a k7 (H.a3 ha).2.1).1 z h i.2.1
     ·exact(p6 n b k7 (H.a3 ha).2.2).1 z h i.2.2
  ·rcases kc H.n g with⟨a,ha,d⟩|⟨a,b,ha,d⟩|⟨a,b,ha,d⟩
   ·have k:=WZ ha;rw[Nb ha]at h;rcases s5 h with h|⟨x,_,h⟩
    ·exact(p6 n a k7 (H.a1 ha)).2 z h (H.k1 ha d)
    ·cases h
   ·have l:=Q6 ha;have f:=H.c2 ha k7 k7;rw[xa ha,eD (show e.aA<16 by omega),Tj]at h;rcases s5 h with h|⟨x,_,h⟩
    ·exact(p6 n a k7 (H.a2 ha).1).1 z h f.1
    ·rcases s5 h with h|⟨y,_,h⟩
     ·exact(p6 n b k7 (H.a2 ha).2).1 z h f.2
     ·rcases yt h with h|h
      ·cases h
      ·cases h;decide
   ·have l:=Q6 ha;have m:=H.k2 ha d;rw[xa ha,Zn (show ¬e.aA<16 by omega),Tf]at h;rcases s5 h with h|⟨x,_,h⟩
    ·exact(p6 n a k7 (H.a2 ha).1).2 z h m.1
    ·rcases s5 h with h|⟨y,_,h⟩
     ·exact(p6 n b k7 (H.a2 ha).2).2 z h m.2
     ·cases h
def Up{mem:U aO}{env:U aR}{z:Int}(n:Nat)(e:au)(d:SizeOf.sizeOf e<=n)(H:Ev e)(h:dK mem env e= .error z)(f:fc e=false):z≠0:=(p6 n e d H).1 z h f
def acq(N:Nat)(e:au)(p:aI)(d:U so)(rec:aI->U so->au->O (aQ×Int)):
 ∀(l:U au)(k:Nat)(f:U aQ)(t:aQ),m5 N e p d rec l k f=some (t,0)->
  ∃g:U aQ,g.length=l.length/\(∀(i:Nat)(x:au),l[i]?=some x->∃u,g[i]?=some u/\rec p d x=some (u,0))/\∃m,m5 N e p d rec [] m (f++g)=some (t,0)
 |[],k,f,t,h=>⟨[],rfl,λi x v=>by simp at v,k,by rw[ZW];exact h⟩
 |x::l,k,f,t,h=>by
  rw[m5]at h;cases n:rec p d x with
  |none=>rw[n]at h;cases h
  |some q=>
   rw[n,re]at h;cases j:q.2 !=0 with
   |true=>rw[j,Tj]at h;rw[(Prod.mk.inj (Zl h)).2]at j;cases j
   |false=>
    rw[j,Tf]at h;cases hb:Nat.ble ((f.length+1)*40) 140737488355328 with
    |false=>rw[hb]at h;cases h
    |true=>
     rw[hb,Tj]at h;obtain⟨g,w,z,m,o⟩:=acq N e p d rec l (k+1) (f++[q.1]) t h;refine⟨q.1::g,by simp [w],λi y r=> ?_,m,by rw[ZU]at o;exact o⟩;cases i with
     |zero=>
      cases r
      refine⟨q.1,rfl,?_⟩;rw[n];have:=gw j;exact congrArg some (Prod.ext rfl this)
     |succ i=>exact z i y (by simpa using r)
def Jg(N:Nat)(p:aI)(g:U so)(mem:U aO)(env:U aR)(o:hO p.ax):∀(d:Nat)(e:au)(t:aQ),uO N d p g e=some (t,0)->Ev e->fc e=false->
 (∀y∈dx e,y.aA=3->∀T,dY mem y.ar=some T->T.aw=(dt p.aS p.ax y.ar).1)->∀x,dK mem env e= .ok x->x.2=t
 |0,e,t,h,_,_,_,_,_=>by cases h
 |d+1,e,t,h,H,hc,Q,x,f=>by
  rw[uO]at h;obtain⟨r,h1,A,k',j⟩:=acq N e p g _ _ _ _ _ h;rw[W5,m5]at j;have m {a:au} (ha:a∈e.bk):∀y∈dx a,y.aA=3->∀T,dY mem y.ar=some T->T.aw=(dt p.aS p.ax y.ar).1:=λy hy=>Q y (rC ha hy);rcases kd H.n hc with k0|⟨a,ha,i⟩|⟨a,ha,i⟩|⟨a,b,ha,i⟩|⟨c,a,b,ha,i⟩
  ·have hl:=H.n.lo;have:e.aA=1\/e.aA=2\/e.aA=3:=by omega
   rw[A6 k0]at f;unfold l6 at f;rcases this with i|i|i
   ·rw[i]at f j;cases f
    have k:some (e.aw,(0:Int))=some (t,0):=j;cases k;rfl
   ·rw[i,show((2:Int)==1)=false from rfl,show((2:Int)==2)=true from rfl,Tf,Tj]at f;rw[i,VH]at j;have k:some (O3,ir (n7 (g++p.bj)) [e.aU])=some (t,(0:Int)):=j;have l:O3=t:=congrArg (λq:O (aQ×Int)=>(q.getD (gU,0)).1) k;cases F:(db e.aU env).2 !=0 with
    |true=>rw[F]at f;cases f
    |false=>
     rw[F,Tf]at f;cases G:(decide ((db e.aU env).1.toInt>2147483647)||decide ((db e.aU env).1.toInt< -2147483647))with
     |true=>rw[G]at f;cases f
     |false=>rw[G]at f;cases f;exact l
   ·rw[i,show((3:Int)==1)=false from rfl,show((3:Int)==2)=false from rfl,Tf,Tf]at f;rw[i,TK N g p o]at j;have k:some (AH (dt p.aS p.ax e.ar).1 (oz (g++p.bj) p.aS p.ax e))=some (t,(0:Int)):=j;have l:=Zl k;have F:=adP l;rw[F]at l;have G:(dt p.aS p.ax e.ar).1=t:=congrArg Prod.fst l;unfold tB at f;cases K:j7 mem e.ar with
    |error z=>rw[K]at f;cases f
    |ok T=>
     rw[K]at f;dsimp only at f;have hT:=Q e Zt i T (N2 K).1;cases R:((e.xIdx.length:Int) !=(T.aJ.length:Int))with
     |true=>rw[R]at f;cases f
     |false=>
      rw[R,Tf]at f;cases S:ZD mem env e.xIdx T.aJ 0 with
      |error z=>rw[S]at f;cases f
      |ok c=>
       rw[S]at f;dsimp only at f;cases W:T.fE[c.toNat]? with
       |none=>rw[W]at f;cases f
       |some v=>rw[W]at f;cases f;exact hT.trans G
  ·rw[i]at j;have k:some (e.aw,(0:Int))=some (t,0):=j;cases k
   obtain⟨y,J,y2,rfl⟩:=agG ha i f;rfl
  ·obtain⟨u,B,C⟩:=A 0 a (by rw[ha];rfl);rw[i]at j;have k:(Option.bind r[0]? λaE=>some (aE,(0:Int)))=some (t,0):=j;rw[B]at k;cases k
   obtain⟨y,J,y2,rfl⟩:=afE ha i f;exact Jg N p g mem env o d a _ C (H.a1 ha) (H.c1 ha k7 k7) (m (by rw[ha];simp)) y J
  ·obtain⟨u,B,C⟩:=A 0 a (by rw[ha];rfl);obtain⟨w,L,w2⟩:=A 1 b (by rw[ha];rfl);have k:(Option.bind r[0]? λE=>Option.bind r[1]? λM=>bif ji E M then some (E,(0:Int))else some (gU,10))=some (t,0):=by
    have:e.aA=4\/e.aA=5\/e.aA=6\/e.aA=7\/e.aA=9\/e.aA=10:=by omega
    rcases this with h|h|h|h|h|h<;>rw[h]at j<;>exact j
   rw[B,L]at k;have l:(bif ji u w then some (u,(0:Int))else some (gU,10))=some (t,0):=k;obtain⟨y,z,J,z1,y2,y3,rfl⟩:=af1 ha k7 f;cases hb:ji u w with
   |false=>rw[hb]at l;cases l
   |true=>
    rw[hb]at l;cases l
    exact Jg N p g mem env o d a _ C (H.a2 ha).1 (H.c2 ha k7 k7).1 (m (by rw[ha];simp)) y J
  ·obtain⟨u,B,C⟩:=A 1 a (by rw[ha];rfl);obtain⟨w,L,w2⟩:=A 2 b (by rw[ha];rfl);have k:(Option.bind r[1]? λE=>Option.bind r[2]? λM=>bif ji E M then some (E,(0:Int))else some (gU,10))=some (t,0):=by
    rw[i]at j;exact j
   rw[B,L]at k;have l:(bif ji u w then some (u,(0:Int))else some (gU,10))=some (t,0):=k;obtain⟨s,s1,s2⟩:=agk ha k7 f;cases hb:ji u w with
   |false=>rw[hb]at l;cases l
   |true=>
    have e1:=ER.1 hb;rw[hb]at l;cases l
    cases s with
    |true=>exact Jg N p g mem env o d a _ C (H.a3 ha).2.1 (H.c3 ha i).2.1 (m (by rw[ha];simp)) x s2
    |false=>exact(Jg N p g mem env o d b _ w2 (H.a3 ha).2.2 (H.c3 ha i).2.2 (m (by rw[ha];simp)) x s2).trans e1.symm
def amy(P:U cl)(D:U aF)(k:Nat)(s:so)(h:(dt P (D.take k) s).2.2=true):dt P D s=dt P (D.take k) s:=by
 unfold dt at h ⊢;cases g:P.find? (λx=>bL x.ar==bL s)with
 |some x=>rfl
 |none=>
  rw[g]at h;dsimp only at h ⊢;cases f:(D.take k).find? (eW s)with
  |none=>rw[f]at h;cases h
  |some d=>
   have:D.find? (eW s)=some d:=by
    rw[<-Yl k D,List.find?_append,f];rfl
   rw[this]
def ac4{y:au}(d:y.aA=3):∀{l:U au},y∈l->y.ar∈l5 l
 |x::l,h=>by
  rw[l5];rcases Za.1 h with rfl|h
  ·refine aq _ ?_;unfold wP;rw[d];exact aq _ Zt
  ·exact aa _ (ac4 d h)
def aqd{e y:au}(d:y∈dx e)(f:y.aA=3):y.ar∈rk e:=(agn _).2 _|>.2 (ac4 f d)
def adp{N:Nat}(K:9223372036854775808<N){p:aI}(B:Bd N p)(V:VQ N p){k:Nat}{d:aF}(m:p.ax[k]?=some d)(G:iG p k d)(H:Df N d){mem:U aO}(w:∀s∈rk d.aX,zD p mem s){env:U aR}{x:aH×aQ}(n:dK mem env d.aX= .ok x):x.2=d.aw/\dj d.aw x.1=true:=by
 have Q:=V.defs k d m;obtain⟨t,f,i⟩:=Q.tp;have i:=ER.1 (show ji t d.aw=true from i);subst i;have L:=H.size;unfold uZ at f;rw[Sk N k7 d.aX k7 (B.E d (ZZ m)).1,re,G.body,show((0:Int) !=0)=false from rfl,Tf,Px,H.cond,re,Tf]at f;cases j:FO N (⟨p.bj,[],p.aS,(p.ax.take k).drop 0,[]⟩:aI) (rf d) d.aX with
 |none=>rw[j]at f;cases f
 |some q=>
  rw[j,re]at f;cases h:q.2 !=0 with
  |true=>rw[h,Tj]at f;rw[(Prod.mk.inj (Zl f)).2]at h;cases h
  |false=>
   rw[h,Tf]at f;have z:q.1=d.aw:=congrArg (λq:O (aQ×Int)=>(q.getD (gU,0)).1) f;have A:uO N N (⟨p.bj,[],p.aS,(p.ax.take k).drop 0,[]⟩:aI) (rf d) d.aX=some (d.aw,0):=by
     refine Eq.trans j ?_;rw[<-z];exact congrArg some (Prod.ext rfl (gw h))
   have o:=Jg N _ (rf d) mem env (show hO ((p.ax.take k).drop 0)from Q2 B.D k) N d.aX d.aw A H.ev H.cond (λy r u T C=>by
    obtain⟨M,v,R,F⟩:=w y.ar (aqd r u);rw[C]at v;cases v
    rw[F];have l:=G.reads y r u;have:(dt p.aS (p.ax.take k) y.ar).2.2=true:=by
      unfold oz at l;cases J:(dt p.aS (p.ax.take k) y.ar).2.2 with
      |true=>rfl
      |false=>rw[J]at l;cases l
    exact congrArg Prod.fst (amy _ _ k _ this)) x n
   have g:=au2 H.ev H.cond n;rw[o]at g;exact⟨o,g.2⟩
def ado{f:Int}{t:aQ}{a b v:aH}(h:mW f t a b= .ok v):dj t v=true:=by
 unfold mW at h;obtain⟨g,h⟩:=vt h;obtain⟨i,h⟩:=vt h;cases d:(lr (vH f) t a b).2 !=0 with
 |true=>rw[d]at h;cases h
 |false=>
  rw[d]at h;cases h
  exact(Js (by simpa using d)).2.2
def Ud{f:U Int->Except Int (aH×aQ)}{d:aF}(i:∀q x,f q= .ok x->dj d.aw x.1=true):∀(l:U (U Int))(g:O aH)(v:aH),(∀a,g=some a->dj d.aw a=true)->(l≠ []\/g≠none)->nX f d l g= .ok v->dj d.aw v=true
 |[],g,v,ha,m,h=>by
  cases g with
  |none=>rcases m with h|h<;>exact absurd rfl h
  |some a=>cases h;exact ha a rfl
 |q::l,g,v,ha,m,h=>by
  rw[nX]at h;cases j:f q with
  |error z=>rw[j]at h;cases h
  |ok x=>
   rw[j]at h;cases g with
   |none=>exact Ud i l (some x.1) v (λa e=>by cases e;exact i q x j) (.inr gj) h
   |some a=>
    dsimp only at h;cases k:mW d.cE d.aw a x.1 with
    |error z=>rw[k]at h;cases h
    |ok w=>
     rw[k]at h;exact Ud i l (some w) v (λa e=>by cases e;exact ado k) (.inr gj) h
def VB{f:U Int->Except Int aH}{d:aF}(k:∀q v,f q= .ok v->dj d.aw v=true):∀(l:U (U Int))(g j:U aH),(∀a∈g,dj d.aw a=true)->kh f d l g= .ok j->∀a∈j,dj d.aw a=true
 |[],g,j,ha,h=>by cases h;exact ha
 |q::l,g,j,ha,h=>by
  rw[kh]at h;cases m:f q with
  |error z=>rw[m]at h;cases h
  |ok v=>
   rw[m]at h;dsimp only at h;cases hb:(d.cE==5&&decide (B4 q>0))with
   |false=>
    rw[hb,Tf]at h;refine VB k l _ j (λa i=> ?_) h;rcases ZM.1 i with i|i
    ·exact ha a i
    ·rcases ah.1 i with rfl;exact k q a m
   |true=>
    rw[hb,Tj]at h;cases o:g[g.length-1]? with
    |none=>rw[o]at h;cases h
    |some w=>
     rw[o]at h;dsimp only at h;cases n:mW 1 d.aw w v with
     |error z=>rw[n]at h;cases h
     |ok u=>
      rw[n]at h;refine VB k l _ j (λa i=> ?_) h;rcases ZM.1 i with i|i
      ·exact ha a i
      ·rcases ah.1 i with rfl;exact ado n
def SM:∀l:U Int,l.foldl (·*·) 1=de l
 |[]=>rfl
 |x::l=>by rw[JP,de,SM l]
def ahR{f:Int}{t:aQ}{a b:aH}{z:Int}(h:mW f t a b= .error z):z≠0:=by
 unfold mW at h;rcases yt h with h|h
 ·rcases yt h with h|h
  ·cases d:(lr (vH f) t a b).2 !=0 with
   |true=>rw[d]at h;cases h;simpa using d
   |false=>rw[d]at h;cases h
  ·cases h;decide
 ·cases h;decide
def II{f:U Int->Except Int (aH×aQ)}{d:aF}(i:∀q z,f q= .error z->z≠0):∀(l:U (U Int))(g:O aH)(z:Int),nX f d l g= .error z->z≠0
 |[],g,z,h=>by cases h
 |q::l,g,z,h=>by
  rw[nX]at h;cases j:f q with
  |error y=>rw[j]at h;cases h;exact i q _ j
  |ok x=>
   rw[j]at h;cases g with
   |none=>exact II i l _ z h
   |some a=>
    dsimp only at h;cases k:mW d.cE d.aw a x.1 with
    |error y=>rw[k]at h;cases h;exact ahR k
    |ok w=>rw[k]at h;exact II i l _ z h
def Gw{f:U Int->Except Int aH}{d:aF}(i:∀q z,f q= .error z->z≠0):∀(l:U (U Int))(g:U aH)(z:Int),kh f d l g= .error z->z≠0
 |[],g,z,h=>by cases h
 |q::l,g,z,h=>by
  rw[kh]at h;cases j:f q with
  |error y=>rw[j]at h;cases h;exact i q _ j
  |ok v=>
   rw[j]at h;dsimp only at h;rcases yt h with h|h
   ·cases m:g[g.length-1]? with
    |none=>rw[m]at h;cases h;decide
    |some w=>
     rw[m]at h;dsimp only at h;cases k:mW 1 d.aw w v with
     |error y=>rw[k]at h;cases h;exact ahR k
     |ok u=>rw[k]at h;exact Gw i l _ z h
   ·exact Gw i l _ z h
structure aii(p:aI)(env:List aR)(d:aF)(T:bo):Prop where
 ok:jD T=true
 ty:T.aw=d.aw
 dm:T.aJ=(dp p env d.ar).1
 e0:(dp p env d.ar).2.2=0
def MV{N:Nat}(L:9223372036854775808<N){p:aI}{env:U aR}(B:Bd N p)(V:VQ N p){i:Nat}{d:aF}(A:p.ax[i]?=some d)(G:iG p i d)(H:Df N d){mem:U aO}{j:Int}(M:j=0->∀s∈rk d.aX,zD p mem s)(h:(mP p env mem d j).2=0):aii p env d (mP p env mem d j).1:=by
 unfold mP at h ⊢;cases g:((dp p env d.ar).2.2 !=0)with
 |true=>rw[g,Tj]at h;have h:(dp p env d.ar).2.2=0:=h;rw[h]at g;cases g
 |false=>
  rw[g,Tf]at h;rw[Tf];rw[bne_eq_false_iff_eq]at g;obtain⟨u,C,Q⟩:=QO g;rw[O7 A G]at u C;have Mf:(dp p env d.ar).1.length=d.aJ.length:=by rw[u,Jk env _ [] C];simp
  have E:∀x∈(dp p env d.ar).1,1<=x/\x<=4096:=by rw[u];exact B9 env _ [] λx k=>by cases k
  have IB:=H.l1;cases o:((fx env (d.bI.map (·.dq)) []).2 !=0)with
  |true=>rw[o,Tj]at h;have h:(fx env (d.bI.map (·.dq)) []).2=0:=h;rw[h]at o;cases o
  |false=>
   rw[o,Tf]at h;rw[Tf];have R:∀x∈(fx env (d.bI.map (·.dq)) []).1,1<=x/\x<=4096:=B9 env _ [] λx k=>by cases k
   cases F:decide (de (dp p env d.ar).1*de (fx env (d.bI.map (·.dq)) []).1>65536)with
   |true=>rw[F,Tj]at h;cases h
   |false=>
    rw[F,Tf]at h;rw[Tf];cases l:j !=0 with
    |true=>rw[l,Tj]at h;have h:j=0:=h;rw[h]at l;cases l
    |false=>
     rw[l,Tf]at h;rw[Tf];have S:=M (by simpa using l);cases r:kh (pV mem env d (fx env (d.bI.map (·.dq)) []).1) d (lu (dp p env d.ar).1 0 (de (dp p env d.ar).1).toNat) []with
     |error z=>
      rw[r]at h;have h:z=0:=h;subst h;exact absurd rfl (Gw (λq z w=>II (λq z w=>Up _ _ (Zx _) H.ev w H.cond) _ _ _ w) _ _ _ r)
     |ok J=>
      have f:=Mi _ _ _ _ _ r;rw[ahg,Zg,ZQ]at f;have hp:=sC E;have T:∀a∈J,dj d.aw a=true:=VB (λq v K=>by
       unfold pV Ad at K;refine Ud (λq x k=>(adp L B V A G H S k).2) _ _ v (λa e=>by cases e) (.inl ?_) K;have:=sC R;obtain⟨m,W⟩:∃m,(de (fx env (d.bI.map (·.dq)) []).1).toNat=m+1:=⟨(de (fx env (d.bI.map (·.dq)) []).1).toNat-1,by omega⟩;rw[W,I8];simp) _ _ _ (λa ha=>by cases ha) r
      refine⟨?_,rfl,rfl,g⟩;show jD ⟨d.aw,(dp p env d.ar).1,J⟩=true;unfold jD wx;dsimp only;rw[H.ty,SM,f,show(((de (dp p env d.ar).1).toNat:Nat):Int)=de (dp p env d.ar).1 by omega,Z3,eD (show(dp p env d.ar).1.length<=6 by omega),eD Q,Zc.2 T,FB.2 λn hn=>(E n hn).1];rfl
def adl{t:bo}(h:jD t=true):tN t:=by
 have T:=FM h;have d:=T.sh.len;have f:=T.sh.le;have g:=T.len;exact⟨by omega,by omega⟩
def WK{l:U aO}{s:so}{t:bo}(h:dY l s=some t):rB l s=(t,true):=by unfold rB;rw[h]
def ad5{N:Nat}{p:aI}{env:U aR}(W:Lr N p env)(V:VQ N p)(f:U aO):∀(l:U cl)(k:Nat)(d:U aO),p.aS.drop k=l->d.length+l.length<=1000000->
 (∃z,z≠0/\lC N p env f l k d=some ([],z))\/(∃m,lC N p env f l k d=some (d++m,0)/\m.map (·.ar)=l.map (·.ar)/\∀a∈m,dY f a.ar=some a.gg/\jD a.gg=true/\tN a.gg)
 |[],k,d,_,_=>.inr ⟨[],by rw[ZW];rfl,rfl,λa ha=>by cases ha⟩
 |x::l,k,d,o,v=>by
  simp only[Zp]at v;have E:=W.hN;have F:p.aS[k]?=some x:=bA o;have B:=W.bd;rw[lC,yP N k7 p env x.ar B.P B.D,re];cases g:((dp p env x.ar).2.2 !=0)with
  |true=>
   rw[Ui]at g;rw[show((dp p env x.ar).2.2==0)=false by rw[Tn];exact g,Tf];unfold u7;rw[Ui.2 g,Tj];exact .inl ⟨_,g,rfl⟩
  |false=>
   rw[bne_eq_false_iff_eq]at g;rw[g,show((0:Int)==0)=true from rfl,Tj];obtain⟨z,w,A⟩:=PX N k7 f x.ar (dp p env x.ar).2.1 (dp p env x.ar).1;rw[w,re];unfold u7;cases q:(z !=0)with
   |true=>exact .inl ⟨z,Ui.1 q,rfl⟩
   |false=>
    obtain⟨y,i,r,G⟩:=A (by simpa using q);have u:tN (rB f x.ar).1:=by rw[WK i];exact adl r
    rw[Tf,WN,re,aim N u,re,fi k7,Tj,WK i];rcases ad5 W V f l (k+1) (d++[⟨x.ar,y⟩]) (ie o) (by simp only[Zi,Zp,Zg];omega)with⟨z,j,n⟩|⟨m,j,n,C⟩
    ·exact .inl ⟨z,j,n⟩
    ·refine .inr ⟨⟨x.ar,y⟩::m,by refine j.trans ?_;rw[ZU];rfl,by rw[ZY,ZY,n],λa ha=> ?_⟩;rcases Za.1 ha with rfl|ha
     ·exact⟨i,r,by have h:=u;rw[WK i]at h;exact h⟩
     ·exact C a ha
def ES(N:Nat)(p:aI)(env:U aR)(mem:U aO)(d:aF)(T:bo):Prop:=∃f,tD N p env mem d.aX=some f/\(f=0->∀s∈rk d.aX,zD p mem s)/\mP p env mem d f=(T,0)
def adY{N:Nat}{p:aI}{env:U aR}(W:Lr N p env)(V:VQ N p)(G:∀i d,p.ax[i]?=some d->iG p i d):∀(l:U aF)(k:Nat)(mem:U aO),p.ax.drop k=l->mem.length+l.length<=1000000->
 (∃z,z≠0/\xc N p env l k mem=some ([],z))\/(∃f,xc N p env l k mem=some (mem++f,0)/\f.map (·.ar)=l.map (·.ar)/\(∀a∈f,tN a.gg)/\∀(j:Nat)(a:aO)(d:aF),f[j]?=some a->l[j]?=some d->ES N p env (mem++f.take j) d a.gg)
 |[],k,mem,_,_=>.inr ⟨[],by rw[ZW];rfl,rfl,λa ha=>(by cases ha),λj a d ha=>by simp at ha⟩
 |d::l,k,mem,q,u=>by
  simp only[Zp]at u;have g:p.ax[k]?=some d:=bA q;obtain⟨h,v,w,x⟩:=afJ W V G mem k7 g;rw[xc,x,re];cases m:((mP p env mem d h).2 !=0)with
  |true=>exact .inl ⟨_,Ui.1 m,rfl⟩
  |false=>
   rw[bne_eq_false_iff_eq]at m;rw[Tf,fi k7,Tj];rcases adY W V G l (k+1) (mem++[⟨d.ar,(mP p env mem d h).1⟩]) (ie q) (by simp only[Zi,Zp,Zg];omega)with⟨z,n,o⟩|⟨f,n,o,A,B⟩
   ·exact .inl ⟨z,n,o⟩
   ·refine .inr ⟨⟨d.ar,(mP p env mem d h).1⟩::f,by refine n.trans ?_;rw[ZU];rfl,by rw[ZY,ZY,o],λa ha=> ?_,λj a e ha r=> ?_⟩
    ·rcases Za.1 ha with rfl|ha
     ·have C:=ZZ g;exact aoY g (G k d g) (W.df V g (G k d g)) mem h
     ·exact A a ha
    cases j with
    |zero=>
     cases ha;cases r
     rw[List.take_zero,ZW];exact⟨h,v,w,Prod.ext rfl m⟩
    |succ j=>
     have:=B j a e (by simpa using ha) (by simpa using r);rw[ZU]at this;exact this
structure pL(N:Nat)(p:aI)(env:List aR)(ins m all:List aO):Prop where
 V:VQ N p
 G:∀i d,p.ax[i]?=some d->iG p i d
 cs:BL N p env=some 0
 RA:lC N p env ins p.aS 0 []=some (m,0)
 mn:m.map (·.ar)=p.aS.map (·.ar)
 an:all.map (·.ar)=p.ax.map (·.ar)
 ins:∀a∈m,dY ins a.ar=some a.gg/\jD a.gg=true/\tN a.gg
 made:∀(j:Nat)(a:aO)(d:aF),all[j]?=some a->p.ax[j]?=some d->ES N p env (m++all.take j) d a.gg
def pn(p:aI)(mem:U aO):U aO:=p.cB.map λs=>⟨s,(rB mem s).1⟩
def Wo(N:Nat)(q:U aO×Int)(f:Hn q.1):∀(l:U so)(k:Nat)(d:U aO),d.length+l.length<=1000000->Nn N q l k d=some (d++l.map (λs=>(⟨s,(rB q.1 s).1⟩:aO)),0)
 |[],k,d,_=>by rw[ai,ZW];rfl
 |s::l,k,d,g=>by
  simp only[Zp]at g;rw[Nn,WN,re,aim N (f.find s),re,fi k7,Tj];dsimp only;rw[Wo N q f l (k+1) _ (by simp only[Zi,Zp,Zg];omega),ZU];rfl
def aqk{N:Nat}{p:aI}{env:U aR}(W:Lr N p env)(g:U aO):
 (∃z,z≠0/\sN N p env g=some ([],z))\/
 (∃m f,pL N p env g m f/\sN N p env g=some (pn p (m++f),0)):=by
 have C:=W.hN;have E:=W.d;have Nf:=W.q;have F:=W.o;unfold sN OH;obtain⟨x,n,v⟩:=abz N k7 p env W.bd W.wh;rw[n,re];cases k:(x !=0)with
 |true=>
  refine .inl ⟨x,Ui.1 k,?_⟩;{rw[Tj,re];dsimp only;rw[k];rfl}
 |false=>
  have r:x=0:=by simpa using k
  obtain⟨_,V,G⟩:=v r;rw[Tf];unfold HA;rcases ad5 W V g p.aS 0 [] rfl (by simp only[Zg];omega)with⟨z,h,i⟩|⟨m,h,i,u⟩
  ·rw[i,re];dsimp only;rw[Ui.2 h,Tj];refine .inl ⟨z,h,?_⟩
   ·rw[re];dsimp only;rw[Ui.2 h];rfl
  ·rw[h,re];dsimp only;rw[show((0:Int) !=0)=false from rfl,Tf,W5];have H:m.length=p.aS.length:=by have:=congrArg List.length i;simpa using this
   rcases adY W V G p.ax 0 m rfl k7 with⟨z,j,l⟩|⟨f,j,l,w,A⟩
   ·rw[l];refine .inl ⟨z,j,?_⟩
    ·rw[re];dsimp only;rw[Ui.2 j];rfl
   ·rw[j];have B:Hn (m++f):=λa ha=>by
      rcases ZM.1 ha with ha|ha
      ·exact(u a ha).2.2
      ·exact w a ha
    refine .inr ⟨m,f,⟨V,G,by rw[n,r],by rw[h,W5],i,l,u,A⟩,?_⟩;{rw[re];dsimp only;rw[show((0:Int) !=0)=false from rfl,Tf];exact Wo N (m++f,0) B p.cB 0 [] (by simp only[Zg];omega)}
section
variable {V:U so} {P:U cl} {D:U aF} {e y:au} {t:aQ}
def VR{l:aK}:n7 V l=0↔∀m∈l.xL,cy V m.ar=true:=by
 unfold n7 IX;cases h:l.xL.all (λm=>cy V m.ar)with
 |true=>rw[Zc]at h;exact⟨λ_=>h,λ_=>rfl⟩
 |false=>
  refine⟨λd=>(by cases d),λd=> ?_⟩;rw[Zc.2 d]at h;cases h
end
def abS{s:so}:∀{l:U au},s∈l5 l->∃y∈l,s∈wP y
 |x::l,h=>by
  rw[l5]at h;rcases ZM.1 h with h|h
  ·exact⟨x,Zt,h⟩
  ·obtain⟨y,d,h⟩:=abS h;exact⟨y,Zk _ d,h⟩
def apd{y:au}(h:pN y=0)(f:y.aA≠3):wP y=[]:=by
 have d:=(A2 h).1;unfold qN at d;simp only[Zo,bh,TC]at d;have:=d.2.2.2.2.2.1;have g:y.xIdx=[]:=by
  rcases this with h|h
  ·exact absurd h f
  ·exact VC h.2
 unfold wP;rw[Wn f,g];rfl
def uw(N:Nat)(p:aI)(env:U aR)(mem:U aO)(s:so):Prop:=(dp p env s).2.2=0/\qO N mem s (dp p env s).2.1 (dp p env s).1=some 0
def ahI(N:Nat)(i:2147483648<N)(p:aI)(env:U aR)(mem:U aO)(j:lZ p.aS)(m:hO p.ax):∀(l:U so)(k:Nat),CF N p env mem l k=some 0↔∀s∈l,uw N p env mem s
 |[],k=>⟨λ_ s o=>(by cases o),λ_=>rfl⟩
 |s::l,k=>by
  have n:=ahI N i p env mem j m l (k+1);rw[CF,yP N i p env s j m,re];obtain⟨x,q1,_⟩:=PX N i mem s (dp p env s).2.1 (dp p env s).1;constructor
  ·intro h;cases d:((dp p env s).2.2 !=0)with
   |true=>rw[d,Tj]at h;have:=Zl h;rw[this]at d;cases d
   |false=>
    rw[d,Tf,q1,re]at h;cases f:x !=0 with
    |true=>rw[f,Tj]at h;have:=Zl h;rw[this]at f;cases f
    |false=>
     rw[f,Tf]at h;have q:x=0:=by simpa using f
     intro u g;rcases Za.1 g with rfl|g
     ·exact⟨by simpa using d,by rw[q1,q]⟩
     ·exact n.1 h u g
  ·intro h;obtain⟨r,v⟩:=h s Zt;rw[r,show((0:Int) !=0)=false from rfl,Tf,v,re,show((0:Int) !=0)=false from rfl,Tf];exact n.2 λu g=>h u (Zk _ g)
def SL{f g:U Int->Except Int (aH×aQ)}{d e:aF}(k:d.cE=e.cE)(ht:d.aw=e.aw)(h:∀q x,f q= .ok x->g q= .ok x):∀(l:U (U Int))(j:O aH)(v:aH),nX f d l j= .ok v->nX g e l j= .ok v
 |[],j,v,i=>i
 |q::l,j,v,i=>by
  rw[nX]at i ⊢;cases m:f q with
  |error z=>rw[m]at i;cases i
  |ok x=>
   rw[m]at i;rw[h q x m];cases j with
   |none=>exact SL k ht h l _ v i
   |some a=>
    dsimp only at i ⊢;rw[<-k,<-ht];cases n:mW d.cE d.aw a x.1 with
    |error z=>rw[n]at i;cases i
    |ok w=>rw[n]at i;exact SL k ht h l _ v i
def Rb{f g:U Int->Except Int aH}{d e:aF}(m:d.cE=e.cE)(ht:d.aw=e.aw)(h:∀q v,f q= .ok v->g q= .ok v):∀(l:U (U Int))(j k:U aH),kh f d l j= .ok k->kh g e l j= .ok k
 |[],j,k,i=>i
 |q::l,j,k,i=>by
  rw[kh]at i ⊢;cases n:f q with
  |error z=>rw[n]at i;cases i
  |ok v=>
   rw[n]at i;rw[h q v n];dsimp only at i ⊢;rw[<-m,<-ht];cases hb:(d.cE==5&&decide (B4 q>0))with
   |false=>rw[hb,Tf]at i;rw[Tf];exact Rb m ht h l _ k i
   |true=>
    rw[hb,Tj]at i;rw[Tj];cases o:j[j.length-1]? with
    |none=>rw[o]at i;cases i
    |some w=>
     rw[o]at i;dsimp only at i ⊢;cases r:mW 1 d.aw w v with
     |error z=>rw[r]at i;cases i
     |ok u=>rw[r]at i;exact Rb m ht h l _ k i
def ack{e:au}(d:lW e=0):(l5 (dx e)).length<=1000000:=by
 have f:=agV d;have hb:=V2 6 (dx e) λx g=>by
  have:=(A2 (xX d x g)).2.2.1;unfold sP at this;simp only[Zo,UL]at this;exact this.2.1
 have:(dx e).length*(6+1)<=2000*7:=Nat.mul_le_mul f (Zx _);omega
def ajn{N:Nat}(f:2147483648<N){p:aI}{env:U aR}{mem:U aO}(B:Bd N p){d:aF}(g:lW d.aX=0):tD N p env mem d.aX=some 0↔∀s∈rk d.aX,uw N p env mem s:=by
 unfold tD;rw[aia N d.aX (ack g),re];exact ahI N f p env mem B.P B.D _ 0
def afp{N:Nat}{q:aI}{env:U aR}(W:Lr N q env)(V:VQ N q)(G:∀i d,q.ax[i]?=some d->iG q i d):∀(l:U aF)(k:Nat)(mem f:U aO),q.ax.drop k=l->mem.length+l.length<=1000000->f.map (·.ar)=l.map (·.ar)->
 (∀(j:Nat)(a:aO)(d:aF),f[j]?=some a->l[j]?=some d->ES N q env (mem++f.take j) d a.gg)->xc N q env l k mem=some (mem++f,0)
 |[],k,mem,[],_,_,_,_=>by rw[ZW];rfl
 |[],k,mem,a::f,_,_,h,_=>by cases h
 |d::l,k,mem,[],_,_,h,_=>by cases h
 |d::l,k,mem,a::f,n,v,g,o=>by
  simp only[Zp]at v;have w:q.ax[k]?=some d:=bA n;obtain⟨E,x,F,z⟩:=afJ W V G mem k7 w;obtain⟨A,m,_,r⟩:=o 0 a d rfl rfl;rw[List.take_zero,ZW]at m r;rw[x]at m;have e:=Zl m;subst e;rw[ZY,ZY]at g;have u:a.ar=d.ar:=(List.cons.inj g).1;rw[xc,z,r,re];dsimp only;rw[show((0:Int) !=0)=false from rfl,Tf,fi k7,Tj];have B:(⟨d.ar,a.gg⟩:aO)=a:=by cases a;simp only at u ⊢;rw[u]
  rw[B];refine(afp W V G l (k+1) (mem++[a]) f (ie n) (by simp only[Zi,Zp,Zg];omega) (List.cons.inj g).2 λj b e hb C=> ?_).trans ?_;{have:=o (j+1) b e (by simpa using hb) (by simpa using C);rw[List.take_succ_cons]at this;rw[ZU];exact this};{rw[ZU];rfl}
def alj{l:aK}(h:uu l=true):l=⟨0,[]⟩:=by
 unfold uu at h;rw[Zo,TC,TC]at h;cases l
 simp only at h;have d:=Int64.toInt_inj.1 (h.1.trans (show(0:Int)=(0:Int64).toInt from rfl));have f:=VC h.2;subst d;subst f;rfl
def agC{V:U so}{P:U cl}{D:U aF}{e:au}(h:oz V P D e=0):(dt P D e.ar).2.2=true/\e.xIdx.length=(dt P D e.ar).2.1.length/\∀x∈e.xIdx,rG V P D x=0:=by
 unfold oz at h;cases f:(dt P D e.ar).2.2 with
 |false=>rw[f]at h;cases h
 |true=>
  rw[f,Tj]at h;cases d:e.xIdx.length==(dt P D e.ar).2.1.length with
  |false=>rw[d]at h;cases h
  |true=>
   rw[d,Tj]at h;exact⟨rfl,by simpa using d,US h⟩
def Qr(N:Nat){mem f:U aO}{s s':so}(h:dY f s'=dY mem s)(t:aQ)(d:U Int):qO N f s' t d=qO N mem s t d:=by
 unfold qO;rw[CQ,CQ,h]
def ai6(N:Nat)(d:2147483648<N){mem:U aO}{s:so}{y:bo}(f:dY mem s=some y)(ht:jD y=true):qO N mem s y.aw y.aJ=some 0:=by
 unfold qO;rw[CQ,re,f];simp only[Tj];obtain⟨i,g,h⟩:=WE N d y;rw[g,re,h,ht];simp only[VX,Tf];show(bif ji y.aw y.aw then _ else _)=some 0;rw[ER.2 (Eq.refl y.aw),Tj,abm,ahk];exact Eq.refl _
def UY{s:so}:∀{l:U aT},s∈oC l->∃x∈l,x.bp=s/\(bL x.bp==[])=false
 |x::l,h=>by
  rw[oC]at h;cases e:(bL x.bp==bL (bs []))with
  |true=>
   rw[e,Tj]at h;obtain⟨y,d,h⟩:=UY h;exact⟨y,Zk _ d,h⟩
  |false=>
   rw[e,Tf]at h;rcases Za.1 h with rfl|h
   ·exact⟨x,Zt,rfl,e⟩
   ·obtain⟨y,d,h⟩:=UY h;exact⟨y,Zk _ d,h⟩
def SZ{P:U cl}{D:U aF}{s:so}(h:(dt P D s).2.2=true):(∃x∈P,x.ar=s)\/∃d∈D,d.ar=s:=by
 unfold dt at h;cases e:P.find? (λx=>bL x.ar==bL s)with
 |some x=>exact .inl ⟨x,List.mem_of_find?_eq_some e,sW (by simpa using List.find?_some e)⟩
 |none=>
  rw[e]at h;cases f:D.find? (eW s)with
  |some d=>exact .inr ⟨d,List.mem_of_find?_eq_some f,sW (by have:=List.find?_some f;unfold eW at this;simpa using this)⟩
  |none=>rw[f]at h;cases h
def apu{p:aI}{k:Nat}{d:aF}(G:iG p k d):∀s∈rk d.aX,(∃x∈p.aS,x.ar=s)\/∃e∈p.ax.take k,e.ar=s:=λs f=>by
 have f:=((agn _).2 s).1 f;obtain⟨y,j,h⟩:=abS f;by_cases g:y.aA=3
 ·obtain⟨q1,o,l⟩:=agC (G.reads y j g);unfold wP at h;rw[g,show((3:Int)==3)=true from rfl,Tj]at h;rcases ZM.1 h with h|h
  ·cases ah.1 h
   exact SZ q1
  ·obtain⟨x,m,rfl,n⟩:=UY h;have i:=l x m;unfold rG at i;rw[n,Tf]at i;cases e:(dt p.aS (p.ax.take k) x.bp).2.2 with
   |true=>exact SZ e
   |false=>rw[e]at i;cases i
 ·rw[apd (xX G.body y j) g]at h;cases h
def Vn{s:so}:∀{l:U aO},(∀x∈l,x.ar≠s)->dY l s=none
 |[],_=>rfl
 |x::l,h=>by
  rw[dY];cases e:(bL x.ar==bL s)with
  |true=>exact absurd (sW (by simpa using e)) (h x Zt)
  |false=>rw[Tf];exact Vn λy d=>h y (Zk _ d)
def PU(N:Nat)(p:aI)(env:U aR)(k:Nat)(mem:U aO):Prop:=∀s,((∃x∈p.aS,x.ar=s)\/∃e∈p.ax.take k,e.ar=s)->uw N p env mem s
def uw.more{N:Nat}(f:2147483648<N){p:aI}{env:U aR}{mem:U aO}{s:so}(h:uw N p env mem s)(l:U aO):uw N p env (mem++l) s:=by
 obtain⟨g,d⟩:=h;obtain⟨x,q1,i⟩:=PX N f mem s (dp p env s).2.1 (dp p env s).1;rw[d]at q1;obtain⟨y,j,_⟩:=i (Zl q1).symm;refine⟨g,?_⟩;rw[Qr N (mem:=mem) (s:=s) (by rw[uV,j];rfl)];exact d
def aqG{α:Type}{l:U α}{k:Nat}{d x:α}(g:l[k]?=some d)(f:x∈l.take (k+1)):x∈l.take k\/x=d:=by
 rw[List.take_add_one,g]at f;rcases ZM.1 f with h|h
 ·exact .inl h
 ·exact .inr (by simpa using h)
def anU{N:Nat}(l:2147483648<N){p:aI}{env:U aR}{k:Nat}{d:aF}(n:p.ax[k]?=some d)(G:iG p k d){mem:U aO}(o:∀a∈mem,(∃x∈p.aS,x.ar=a.ar)\/∃e∈p.ax.take k,e.ar=a.ar)(P:PU N p env k mem){T:bo}(D:aii p env d T)(q:(dt p.aS p.ax d.ar).1=d.aw):
 PU N p env (k+1) (mem++[⟨d.ar,T⟩]):=λs r=>by
 have f:((∃x∈p.aS,x.ar=s)\/∃e∈p.ax.take k,e.ar=s)->uw N p env (mem++[⟨d.ar,T⟩]) s:=λh=>(P s h).more l _;rcases r with h|⟨e,i,rfl⟩
 ·exact f (.inl h)
 ·rcases aqG n i with i|rfl
  ·exact f (.inr ⟨e,i,rfl⟩)
  ·refine⟨D.e0,?_⟩;have u:dY mem e.ar=none:=Vn λa ha m=>by
    rcases o a ha with⟨x,j,h⟩|⟨x,j,h⟩
    ·have g:=G.par;rw[show cy (p.aS.map (·.ar)) e.ar=true from qT.2 (UZ.2 ⟨x,j,h.trans m⟩)]at g;cases g
    ·have g:=G.Ia;rw[show cy ((p.ax.take k).map (·.ar)) e.ar=true from qT.2 (UZ.2 ⟨x,j,h.trans m⟩)]at g;cases g
   have v:dY (mem++[⟨e.ar,T⟩]) e.ar=some T:=by
    rw[uV,u,Option.none_or,dY];show(bif bL e.ar==bL e.ar then some T else _)=_;rw[Z3,Tj]
   rw[aeO,q,<-D.ty,<-D.dm];exact ai6 N l v D.ok
def aon{l:U aO}{a:aO}(h:a∈l):∃t,dY l a.ar=some t:=by
 induction l with
 |nil=>cases h
 |cons x l d=>
  rw[dY];cases e:(bL x.ar==bL a.ar)with
  |true=>exact⟨_,by rw[Tj]⟩
  |false=>
   rw[Tf];rcases Za.1 h with rfl|h
   ·rw[Z3]at e;cases e
   ·exact d h
def aes{N:Nat}(o:2147483648<N){p:aI}{env:U aR}(B:Bd N p){d:U aO}:∀(l:U cl)(k:Nat)(g m:U aO),lC N p env d l k g=some (m,0)->∀x∈l,uw N p env d x.ar
 |[],_,_,_,_,x,u=>by cases u
 |x::l,k,g,m,h,y,i=>by
  rw[lC,yP N o p env x.ar B.P B.D,re]at h;have J:∀z:Int,u7 N d x g (λb=>lC N p env d l (k+1) b) z=some (m,0)->z=0/\∃j,lC N p env d l (k+1) j=some (m,0):=λz f=>by
    unfold u7 at f;cases e:(z !=0)with
    |true=>
     rw[e,Tj]at f;have:=(Prod.mk.inj (Zl f)).2;rw[this]at e;cases e
    |false=>
     rw[e,Tf,WN,re]at f;cases q:BS N (rB d x.ar).1 with
     |none=>rw[q]at f;cases f
     |some t=>
      rw[q,re]at f;cases r:Nat.ble ((g.length+1)*104) 140737488355328 with
      |false=>rw[r]at f;cases f
      |true=>rw[r,Tj]at f;exact⟨by simpa using e,_,f⟩
  cases e:((dp p env x.ar).2.2==0)with
  |false=>
   rw[e,Tf]at h;have:=(J _ h).1;rw[this]at e;cases e
  |true=>
   rw[e,Tj]at h;cases n:qO N d x.ar (dp p env x.ar).2.1 (dp p env x.ar).1 with
   |none=>rw[n]at h;cases h
   |some z=>
    rw[n,re]at h;obtain⟨v,j,w⟩:=J z h;rcases Za.1 i with rfl|i
    ·exact⟨by simpa using e,by rw[n,v]⟩
    ·exact aes o B l (k+1) j m w y i
def arX{N:Nat}{p:aI}{env:U aR}(i:2147483648<N)(B:Bd N p){d m:U aO}(j:lC N p env d p.aS 0 []=some (m,0))(k:m.map (·.ar)=p.aS.map (·.ar))(l:∀a∈m,dY d a.ar=some a.gg):PU N p env 0 m:=λs n=>by
 rcases n with⟨x,f,rfl⟩|⟨x,f,_⟩
 ·obtain⟨o,q⟩:=aes i B p.aS 0 [] m j x f;refine⟨o,?_⟩;have:x.ar∈m.map (·.ar):=by rw[k];exact UZ.2 ⟨x,f,Eq.refl _⟩
  obtain⟨b,hb,h⟩:=UZ.1 this;obtain⟨t,ht⟩:=aon hb;obtain⟨c,r,u,v⟩:=ID ht;have g:=l c r;rw[sW v,u,h]at g;rw[h]at ht;rw[Qr N (ht.trans g.symm)];exact q
 ·rw[List.take_zero]at f;cases f
def afM{N:Nat}{p:aI}{env:U aR}(W:Lr N p env){i m f:U aO}(R:pL N p env i m f):∀k:Nat,k<=p.ax.length->PU N p env k (m++f.take k)
 |0,_=>by
  have r:=W.hN;rw[List.take_zero,ZW];exact arX k7 W.bd R.RA R.mn λa ha=>(R.ins a ha).1
 |k+1,B=>by
  have r:=W.hN;have u:=afM W R k k7;have C:f.length=p.ax.length:=by have:=congrArg List.length R.an;simpa using this
  obtain⟨d,g⟩:∃d,p.ax[k]?=some d:=⟨_,Zd k7⟩;obtain⟨a,ha⟩:∃a,f[k]?=some a:=⟨_,Zd k7⟩;obtain⟨E,F,v,l⟩:=R.made k a d ha g;have D:=MV W.hN W.bd R.V g (R.G k d g) (W.df R.V g (R.G k d g)) v (by rw[l]);rw[l]at D;have n:a.ar=d.ar:=by
   have o:(f.map (·.ar))[k]?=some a.ar:=by rw[Zm,ha];exact Eq.refl _
   have w:(p.ax.map (·.ar))[k]?=some d.ar:=by rw[Zm,g];exact Eq.refl _
   rw[R.an,w]at o;exact(Zl o).symm
  have z:∀b∈m++f.take k,(∃x∈p.aS,x.ar=b.ar)\/∃e∈p.ax.take k,e.ar=b.ar:=λb hb=>by
   rcases ZM.1 hb with hb|hb
   ·have:b.ar∈p.aS.map (·.ar):=by rw[<-R.mn];exact UZ.2 ⟨b,hb,Eq.refl _⟩
    obtain⟨x,j,h⟩:=UZ.1 this;exact .inl ⟨x,j,h⟩
   ·have:b.ar∈(p.ax.take k).map (·.ar):=by rw[List.map_take,<-R.an,<-List.map_take];exact UZ.2 ⟨b,hb,Eq.refl _⟩
    obtain⟨x,j,h⟩:=UZ.1 this;exact .inr ⟨x,j,h⟩
  have q:=anU k7 g (R.G k d g) z u (T:=a.gg) D (by rw[O7 g (R.G k d g)]);rw[List.take_add_one,ha,<-ZU];have A:(⟨d.ar,a.gg⟩:aO)=a:=by cases a;simp only at n ⊢;rw[n]
  rw[A]at q;exact q
end Go.Proofs.YtjploedinjiflaaGreatDoor
