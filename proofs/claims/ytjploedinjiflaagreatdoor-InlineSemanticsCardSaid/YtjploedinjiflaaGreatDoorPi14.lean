/-
  Part 14 of the proof.
-/
import Derived.Test.YtjploedinjiflaaGreatDoorPi13
set_option linter.defProp false
namespace Go.Proofs.YtjploedinjiflaaGreatDoor
open Tryz
open Go.RowKit
set_option linter.unusedSimpArgs false
set_option linter.unusedVariables false
def rW(s:so)(y:au):Bool:=y.xIdx.any (λx=>bL x.bp==bL s)||(y.aA==3&&(bL y.ar==bL s&&y.xIdx.any λx=> !(bL x.bp==[])))
def abb(N:Nat)(s:so):∀(l:U aT)(k:Nat),∃z:Int,KB N s l k=some z/\decide (z>=0)=l.any λx=>bL x.bp==bL s
 |[],_=>⟨_,rfl,rfl⟩
 |x::l,k=>by
  obtain⟨z,a,b⟩:=abb N s l (k+1);rw[KB,a,Yr,show SI N x s=some (bL x.bp==bL s)from rfl,re];cases bL x.bp==bL s with
  |true=>exact⟨_,rfl,eD k7⟩
  |false=>exact⟨_,rfl,b⟩
def acU(N:Nat):∀(l:U aT)(k:Nat),∃z:Int,Ox N l k=some z/\decide (z>=0)=l.any λx=> !(bL x.bp==[])
 |[],_=>⟨_,rfl,rfl⟩
 |x::l,k=>by
  obtain⟨z,a,b⟩:=acU N l (k+1);rw[Ox,a,Yr,show Um N x=some (!(bL x.bp==[]))from rfl,re];cases bL x.bp==[]with
  |false=>exact⟨_,rfl,eD k7⟩
  |true=>exact⟨_,rfl,b⟩
def alY(N:Nat)(l:U aT)(s:so):L7 N l s=some (l.any λx=>bL x.bp==bL s):=by
 unfold L7 SP;obtain⟨z,a,b⟩:=abb N s l 0;rw[a,re,b]
def as0(N:Nat)(l:U aT):PF N l=some (l.any λx=> !(bL x.bp==[])):=by
 unfold PF Rk;obtain⟨z,a,b⟩:=acU N l 0;rw[a,re,b]
def adK(N:Nat)(c:O Int)(s:so):∀l:U au,Au N c s l=bif l.any (rW s)then some 1 else c
 |[]=>rfl
 |y::l=>by
  rw[Au,alY,as0,adK N c s l,Yr,re];unfold rW;cases y.xIdx.any (λx=>bL x.bp==bL s)<;>cases y.aA==3<;>cases bL y.ar==bL s<;>cases y.xIdx.any (λx=> !(bL x.bp==[]))<;>rfl
def FG(s:so)(D:U aF):Bool:=D.any λd=>(dx d.aX).any (rW s)
def acv(N:Nat)(s:so):∀(D:U aF)(k:Nat),yb N s D k=some (bif FG s D then 1 else 0)
 |[],_=>rfl
 |d::D,k=>by
  rw[yb,show yr N d.aX=some d.aX from rfl,re,adK,acv N s D];unfold FG;rw[Yr];cases (dx d.aX).any (rW s)<;>rfl
def U4{N:Nat}{p:aI}(k:2147483648<N)(B:Bd N p)(s:so):∃x,BG N p s=some x/\
 (x=0->(∀i d,p.ax[i]?=some d->iG p i d)/\∃(i:Nat)(d:aF),p.ax.findIdx? (eW s)=some i/\p.ax[i]?=some d/\eW s d=true/\d.cE=0/\FG s p.ax=false):=by
 obtain⟨a,x,l,v,n⟩:=CO k B;unfold BG;rw[l,re];dsimp only;cases e:x !=0 with
 |true=>exact⟨_,rfl,λb=>by rw[b]at e;cases e⟩
 |false=>
  simp only[Tf];rw[RG,re];unfold od;rcases zB (eW s) p.ax with⟨f,g⟩|⟨i,d,f,g,w,o⟩
  ·rw[f];exact⟨_,rfl,λb=>by cases b⟩
  ·rw[f];simp only[ZQ];rw[show decide ((i:Int)<0)=false from Zn k7,show decide ((0:Int)<=(i:Int))=true from eD k7,ZR,g];simp only[Tj,Tf,re];cases t:d.cE !=0 with
   |true=>exact⟨_,rfl,λb=>by cases b⟩
   |false=>
    simp only[Tf];rw[acv];refine⟨_,rfl,λh=>⟨n (gw e),i,d,rfl,g,o,gw t,?_⟩⟩;cases u:FG s p.ax with
    |false=>rfl
    |true=>rw[u]at h;exact absurd h gy
set_option maxRecDepth 100000
def RS{a g:aK}{b:Int64}(h:pW a b= .ok g):g.xL.length<=a.xL.length:=by
 rw[UM]at h;cases d:gh a<;>rw[d]at h;{cases h}
 ·cases e:b.toInt==0<;>rw[e]at h
  ·cases f:fS (a.xK.toInt*b.toInt)&&a.xL.all (wO b)<;>rw[f]at h
   ·cases h
   ·cases h;exact Nat.le_of_eq (Zw _)
  ·cases h;exact Wl _
def CE:∀a b:U bD,(ga a b).length<=a.length+b.length
 |[],[]=>by rw[ga];exact Zx _
 |x::l,[]=>by rw[ga];have:=CE l [];simp only[Zp,Zg]at*;omega
 |[],y::r=>by rw[ga];have:=CE [] r;simp only[Zp,Zg]at*;omega
 |x::l,y::r=>by
  rw[ga];have d:=CE l (y::r);have e:=CE (x::l) r;have f:=CE l r;split;{simp only[Zp]at*;omega};{split<;>simp only[Zp]at* <;>omega}
termination_by a b=>a.length+b.length
def ab9{a b g:aK}(h:mM a b= .ok g):g.xL.length<=a.xL.length+b.xL.length:=by
 rw[N3]at h;cases d:gh a&&gh b<;>rw[d]at h;{cases h}
 ·cases e:fS (a.xK.toInt+b.xK.toInt)&&(ga a.xL b.xL).all m9<;>rw[e]at h
  ·cases h
  ·cases h
   exact Ze (List.length_filterMap_le _ _) (CE _ _)
def D6(s:so):aK:=⟨0,[⟨s,1⟩]⟩
def gQ:U cq->U aT->so->aK
 |a::A,x::F,s=>bif bL a.ar==bL s then x.aU else gQ A F s
 |_,_,s=>D6 s
def oD(F:so->aK):U bD->aK->X aK
 |[],a=>.ok a
 |m::l,a=>match pW (F m.ar) m.dh with
  | .error e=>.error e
  | .ok g=>match mM a g with
    | .error e=>.error e
    | .ok h=>oD F l h
def kS(F:so->aK)(l:aK):X aK:=oD F l.xL ⟨l.xK,[]⟩
def dO{α β:Type}(f:α->X β):U α->X (U β)
 |[]=>.ok []
 |x::l=>match f x with
  | .error e=>.error e
  | .ok y=>match dO f l with
    | .error e=>.error e
    | .ok r=>.ok (y::r)
def mR(F:so->aK)(x:aT):X aT:=match kS F x.aU with
 | .error e=>.error e
 | .ok l=>match dO (kS F) x.bC with
   | .error e=>.error e
   | .ok a=>.ok ⟨l,x.bp,a⟩
def my(F:so->aK):Nat->au->X au
 |0,_=>.error .arg
 |d+1,e=>match kS F e.aU with
  | .error x=>.error x
  | .ok l=>match dO (mR F) e.xIdx with
    | .error x=>.error x
    | .ok i=>match dO (my F d) e.bk with
      | .error x=>.error x
      | .ok a=>.ok ⟨e.aA,e.ar,e.cU,e.aw,l,i,a⟩
def Bb(l:aK):Prop:=(∀m∈l.xL,iO m.ar=true)/\l.xL.length<=300
def adB(x:aT):Prop:=Bb x.aU/\x.bC.length<=300/\∀l∈x.bC,Bb l
def okY(e:au):Prop:=Bb e.aU/\e.xIdx.length<=300/\(∀x∈e.xIdx,adB x)/\e.bk.length<=300
def nV(e:au):Prop:=∀y∈dx e,okY y
def nV.arg{e x:au}(h:nV e)(a:x∈e.bk):nV x:=λy b=>h y (rC a b)
structure Eu(A:List cq)(I:List aT):Prop where
 len:I.length=A.length
 small:∀x∈I,x.aU.xL.length<=300
 Ia:A.Pairwise λa b=>(bL b.ar==bL a.ar)=false
def Qj:∀(A:U cq)(I:U aT)(s:so),(∀x∈I,x.aU.xL.length<=300)->(gQ A I s).xL.length<=300
 |[],I,s,_=>by cases I<;>exact Zh rfl
 |a::A,[],s,_=>Zh rfl
 |a::A,x::I,s,h=>by
  rw[gQ];cases bL a.ar==bL s with
  |true=>exact h x Zt
  |false=>exact Qj A I s λy b=>h y (Zk _ b)
section
variable {N:Nat} {A:U cq} {I:U aT}
def aeU(m:bD):∀(A:U cq)(I:U aT)(k:Nat),I.length=A.length->
 (∃i x,GY N m A k=some ((k+i:Nat):Int)/\I[i]?=some x/\x.aU=gQ A I m.ar)\/
 (GY N m A k=some (-1)/\gQ A I m.ar=D6 m.ar)
 |[],I,k,_=>.inr ⟨rfl,by cases I<;>rfl⟩
 |a::A,[],k,h=>by simp at h
 |a::A,x::I,k,h=>by
  rw[GY,show Wb N a m=some (bL a.ar==bL m.ar)from rfl,re,gQ];cases bL a.ar==bL m.ar with
  |true=>exact .inl ⟨0,x,rfl,rfl,rfl⟩
  |false=>
   rcases aeU m A I (k+1) (by simpa using h)with⟨i,y,b,d,e⟩|⟨b,d⟩
   ·exact .inl ⟨i+1,y,by rw[Tf,b,Nat.add_assoc,Nat.add_comm 1 i],by rw[Yx];exact d,e⟩
   ·exact .inr ⟨b,d⟩
def Vy(a f:aK)(b:Int64)(c:aK->O (aK×Int)):O (aK×Int):=match pW f b with
 | .error e=>some (iH,e.code)
 | .ok g=>match mM a g with
   | .error e=>some (iH,e.code)
   | .ok h=>c h
def apw(d:1000000<N)(m:bD)(a f:aK)(c:Int64->U bD->O (aK×Int))(h:a.xL.length+f.xL.length<900000):
 DG N m a.xK a.xL c f.xK f.xL=Vy a f m.dh λh=>c h.xK h.xL:=by
 unfold DG Vy;rw[am5 N k7 ⟨f.xK,f.xL⟩ _ (by show f.xL.length<=_;omega),re];show(bif (oT iH (pW f m.dh)).2 !=0 then _ else _)=_;cases b:pW f m.dh with
 |error e=>show(bif e.code !=0 then _ else _)=_;rw[e.ne];rfl
 |ok g=>
  have i:=RS b;show Option.bind (Ja N ⟨a.xK,a.xL⟩ g) _=_;rw[ajx N k7 ⟨a.xK,a.xL⟩ g (by show a.xL.length+_<=_;omega) (by show a.xL.length+_<_;omega),re];show(bif (oT iH (mM a g)).2 !=0 then _ else _)=(match mM a g with| .error e=>some (iH,e.code)| .ok h=>c h.xK h.xL);cases mM a g with
  |error e=>show(bif e.code !=0 then _ else _)=_;rw[e.ne];rfl
  |ok h=>rfl
def agv(o:1000000<N)(S:Eu A I):∀(l:U bD)(k:Nat)(a:aK),(∀m∈l,iO m.ar=true)->a.xL.length+l.length*300<900000->
 zi N A I l k a.xK a.xL=some (oT iH (oD (gQ A I) l a))
 |[],k,a,_,_=>rfl
 |m::l,k,a,t,u=>by
  simp only[Zp]at u;have G:=Qj A I m.ar S.small;have b:∀f:aK,f=gQ A I m.ar->DG N m a.xK a.xL (λv w=>zi N A I l (k+1) v w) f.xK f.xL=some (oT iH (oD (gQ A I) (m::l) a)):=by
   rintro f rfl;rw[apw o m a _ _ k7,oD];unfold Vy;cases z:pW (gQ A I m.ar) m.dh with
   |error e=>rfl
   |ok g=>
    have H:=RS z;show(match mM a g with| .error e=>some (iH,e.code)| .ok h=>_)=some (oT iH (match mM a g with| .error e=>.error e| .ok h=>oD (gQ A I) l h));cases B:mM a g with
    |error e=>rfl
    |ok h=>
     have J:=ab9 B;exact agv o S l (k+1) h (λy C=>t y (Zk _ C)) k7
  rw[zi];unfold T9 VF;rw[abo N _ k7,re,t m Zt,Tj,re];rcases aeU (N:=N) m A I 0 S.len with⟨i,x,d,n,E⟩|⟨d,n⟩
  ·rw[d,re,ZQ,show decide ((i:Int)>=0)=true from eD k7,ZR,n];exact b _ E
  ·rw[d,re];exact b (D6 m.ar) n.symm
def Sc(a:1000000<N)(S:Eu A I)(l:aK)(h:Bb l):He N l A I=some (oT iH (kS (gQ A I) l)):=
 agv a S l.xL 0 ⟨l.xK,[]⟩ h.1 (by have:=h.2;simp only[Zg];omega)
def abI(d:1000000<N)(S:Eu A I)(b:U aT)(c:U aT->O (U aT×Int))(q:aK×Int)(x:aT)(g:b.length<1000000):∀(l:U aK)(k:Nat)(K:Int64)(L:U bD)(a:U aK),(∀y∈l,Bb y)->a.length+l.length<1000000->
 EJ N b c q x A I l k K L a=match dO (kS (gQ A I)) l with| .error e=>some ([],e.code)| .ok r=>c (b++[⟨q.1,x.bp,a++r⟩])
 |[],k,K,L,a,_,_=>by rw[EJ,dO,fi k7];dsimp only;rw[ZW];rfl
 |y::l,k,K,L,a,f,h=>by
  simp only[Zp]at h;rw[EJ,Sc d S y (f y Zt),re,dO];cases kS (gQ A I) y with
  |error e=>show(bif e.code !=0 then _ else _)=_;rw[e.ne];rfl
  |ok v=>
   show(bif Nat.ble ((a.length+1)*32) 140737488355328 then _ else none)=_;rw[fi k7];refine Eq.trans (abI d S b c q x g l (k+1) _ _ (a++[v]) (λz i=>f z (Zk _ i)) (by simp only[Zi,Zp,Zg];omega)) ?_;cases dO (kS (gQ A I)) l with
   |error e=>rfl
   |ok r=>show c (b++[⟨q.1,x.bp,a++[v]++r⟩])=_;rw[ZU];rfl
def ad3(d:1000000<N)(S:Eu A I):∀(l:U aT)(k:Nat)(b:U aT),(∀y∈l,adB y)->b.length+l.length<1000000->
 EZ N A I l k b=match dO (mR (gQ A I)) l with| .error e=>some ([],e.code)| .ok r=>some (b++r,0)
 |[],k,b,_,_=>by rw[EZ,dO];dsimp only;rw[ZW]
 |y::l,k,b,h,n=>by
  simp only[Zp]at n;have f:=h y Zt;rw[EZ,Sc d S y.aU f.1,re,dO];cases g:kS (gQ A I) y.aU with
  |error e=>
   rw[show mR (gQ A I) y= .error e by unfold mR;rw[g]];show(bif e.code !=0 then _ else _)=_;rw[e.ne];rfl
  |ok v=>
   refine Eq.trans (abI d S b _ (v,0) y k7 y.bC 0 _ _ [] f.2.2 (by have:=f.2.1;simp only[Zg];omega)) ?_;cases i:dO (kS (gQ A I)) y.bC with
   |error e=>rw[show mR (gQ A I) y= .error e by unfold mR;rw[g];dsimp only;rw[i]]
   |ok a=>
    rw[show mR (gQ A I) y= .ok ⟨v,y.bp,a⟩ by unfold mR;rw[g];dsimp only;rw[i]];refine Eq.trans (ad3 d S l (k+1) (b++[⟨v,y.bp,a⟩]) (λz o=>h z (Zk _ o)) (by simp only[Zi,Zp,Zg];omega)) ?_;cases dO (mR (gQ A I)) l with
    |error e=>rfl
    |ok r=>dsimp only;rw[ZU];rfl
def abA(e:au)(b:aK×Int)(d:U aT×Int)(rec:U cq->U aT->au->O (au×Int))(f:au->X au):∀(l:U au)(k:Nat)(a:U au),(∀y∈l,rec A I y=some (oT nt (f y)))->a.length+l.length<1000000->
 Hj N e b d rec A I l k a=match dO f l with| .error e=>some (nt,e.code)| .ok r=>some (⟨e.aA,e.ar,e.cU,e.aw,b.1,d.1,a++r⟩,0)
 |[],k,a,_,_=>by rw[Hj,dO];dsimp only;rw[ZW]
 |y::l,k,a,g,h=>by
  simp only[Zp]at h;rw[Hj,g y Zt,re,dO];cases f y with
  |error e=>show(bif e.code !=0 then _ else _)=_;rw[e.ne];rfl
  |ok v=>
   show(bif Nat.ble ((a.length+1)*160) 140737488355328 then _ else none)=_;rw[fi k7];refine Eq.trans (abA e b d rec f l (k+1) (a++[v]) (λz i=>g z (Zk _ i)) (by simp only[Zi,Zp,Zg];omega)) ?_;cases dO f l with
   |error e=>rfl
   |ok r=>show some ((⟨_,_,_,_,_,_,a++[v]++r⟩:au),_)=_;rw[ZU];rfl
def abc(f:1000000<N)(S:Eu A I):∀(d:Nat)(e:au),SizeOf.sizeOf e<d->nV e->Ap N d A I e=some (oT nt (my (gQ A I) d e))
 |0,e,h,_=>absurd h (ZJ _)
 |d+1,e,h,ok=>by
  have b:=ok e Zt;rw[Ap,Sc f S e.aU b.1,re,my];cases kS (gQ A I) e.aU with
  |error e=>show(bif e.code !=0 then _ else _)=_;rw[e.ne];rfl
  |ok v=>
   show Option.bind (P8 N A I e.xIdx) _=_;unfold P8;rw[ad3 f S e.xIdx 0 [] b.2.2.1 (by have:=b.2.1;simp only[Zg];omega)];cases dO (mR (gQ A I)) e.xIdx with
   |error e=>show(bif e.code !=0 then _ else _)=_;rw[e.ne];rfl
   |ok i=>
    refine Eq.trans (abA e (v,0) ([]++i,0) _ (my (gQ A I) d) e.bk 0 [] (λy g=>abc f S d y (by have:=lA g;omega) (ok.arg g)) (by have:=b.2.2.2;simp only[Zg];omega)) ?_;cases dO (my (gQ A I) d) e.bk with
    |error e=>rfl
    |ok a=>rfl
end
def Ub{α β:Type}{f g:α->X β}:∀l:U α,(∀x∈l,f x=g x)->dO f l=dO g l
 |[],_=>rfl
 |x::l,h=>by rw[dO,dO,h x Zt,Ub l λy a=>h y (Zk _ a)]
def ahC(F:so->aK):∀(d a:Nat)(e:au),SizeOf.sizeOf e<d->SizeOf.sizeOf e<a->my F d e=my F a e
 |0,_,_,h,_=>absurd h (ZJ _)
 |_,0,_,_,h=>absurd h (ZJ _)
 |d+1,a+1,e,h,f=>by
  rw[my,my,Ub e.bk λx b=>ahC F d a x (by have:=lA b;omega) (by have:=lA b;omega)]
noncomputable def jI(D:aF):Nat->au->X au
 |0,_=>.error .arg
 |n+1,e=>bif e.aA==3&&bL e.ar==bL D.ar then my (gQ D.aJ e.xIdx) (SizeOf.sizeOf D.aX+1) D.aX else match dO (jI D n) e.bk with
  | .error x=>.error x
  | .ok a=>.ok ⟨e.aA,e.ar,e.cU,e.aw,e.aU,e.xIdx,a⟩
def x6(A:U cq):Prop:=A.Pairwise λa b=>(bL b.ar==bL a.ar)=false
structure Rp(D:aF)(e:au):Prop where
 ok:nV e
 idx:∀y∈dx e,y.aA=3->(bL y.ar==bL D.ar)=true->y.xIdx.length=D.aJ.length
def Rp.arg{D:aF}{e x:au}(h:Rp D e)(a:x∈e.bk):Rp D x:=⟨h.ok.arg a,λy b=>h.idx y (rC a b)⟩
def Rp.sub{D:aF}{e:au}(h:Rp D e)(a:x6 D.aJ)(b:(e.aA==3)=true)(d:(bL e.ar==bL D.ar)=true):Eu D.aJ e.xIdx:=
 ⟨h.idx e Zt (TC.1 b) d,λx f=>(((h.ok e Zt).2.2.1 x f).1).2,a⟩
section
variable {N:Nat} {D:aF}
def adW(e:au)(rec:au->aF->O (au×Int))(f:au->X au):∀(l:U au)(k:Nat)(a:U au),(∀y∈l,rec y D=some (oT nt (f y)))->a.length+l.length<1000000->
 BA N e rec D l k a=match dO f l with| .error e=>some (nt,e.code)| .ok r=>some (⟨e.aA,e.ar,e.cU,e.aw,e.aU,e.xIdx,a++r⟩,0)
 |[],k,a,_,_=>by rw[BA,dO];dsimp only;rw[ZW]
 |y::l,k,a,b,d=>by
  simp only[Zp]at d;rw[BA,b y Zt,re,dO];cases f y with
  |error e=>show(bif e.code !=0 then _ else _)=_;rw[e.ne];rfl
  |ok v=>
   show(bif Nat.ble ((a.length+1)*160) 140737488355328 then _ else none)=_;rw[fi k7];refine Eq.trans (adW e rec f l (k+1) (a++[v]) (λz g=>b z (Zk _ g)) (by simp only[Zi,Zp,Zg];omega)) ?_;cases dO f l with
   |error e=>rfl
   |ok r=>dsimp only;rw[ZU];rfl
def abg(f:1000000<N)(g:x6 D.aJ)(i:nV D.aX)(b:SizeOf.sizeOf D.aX<N):∀(d:Nat)(e:au),SizeOf.sizeOf e<d->Rp D e->uz N d e D=some (oT nt (jI D d e))
 |0,e,h,_=>absurd h (ZJ _)
 |d+1,e,h,R=>by
  rw[uz,jI];have u:=(R.ok e Zt).2.2.2;have n:=adW (N:=N) (D:=D) e (uz N d) (jI D d) e.bk 0 [] (λy k=>abg f g i b d y (by have:=lA k;omega) (R.arg k)) (by simp only[Zg];omega);have l:BA N e (uz N d) D e.bk 0 []=some (oT nt (match dO (jI D d) e.bk with| .error x=>.error x| .ok a=>.ok ⟨e.aA,e.ar,e.cU,e.aw,e.aU,e.xIdx,a⟩)):=by
    rw[n];cases dO (jI D d) e.bk<;>rfl
  cases o:e.aA==3 with
  |false=>exact l
  |true=>
   cases t:bL e.ar==bL D.ar with
   |false=>exact l
   |true=>
    have S:=R.sub g o t;show Option.bind (Lv N D.aJ e.xIdx D.aX) _=_;unfold Lv;rw[abc f S N D.aX b i,ahC _ N (SizeOf.sizeOf D.aX+1) D.aX b (ZC _)];rfl
def ad1:∀(d a:Nat)(e:au),SizeOf.sizeOf e<d->SizeOf.sizeOf e<a->jI D d e=jI D a e
 |0,_,_,h,_=>absurd h (ZJ _)
 |_,0,_,_,h=>absurd h (ZJ _)
 |d+1,a+1,e,h,f=>by
  rw[jI,jI,Ub e.bk λx b=>ad1 d a x (by have:=lA b;omega) (by have:=lA b;omega)]
end
def ahD(F:so->aK)(f:∀s,(F s).xL.length<=300):∀(l:U bD)(a r:aK),oD F l a= .ok r->r.xL.length<=a.xL.length+l.length*300
 |[],a,r,h=>by cases h;omega
 |m::l,a,r,h=>by
  rw[oD]at h;cases b:pW (F m.ar) m.dh with
  |error e=>rw[b]at h;cases h
  |ok g=>
   rw[b]at h;dsimp only at h;cases d:mM a g with
   |error e=>rw[d]at h;cases h
   |ok k=>
    rw[d]at h;have i:=RS b;have n:=ab9 d;have o:=ahD F f l k r h;have t:=f m.ar;simp only[Zp];omega
def Dl{α β:Type}{f:α->X β}:∀(l:U α)(r:U β),dO f l= .ok r->r.length=l.length/\∀y∈r,∃x∈l,f x= .ok y
 |[],r,h=>by cases h;exact⟨rfl,λ_ h=>by cases h⟩
 |x::l,r,h=>by
  rw[dO]at h;cases a:f x with
  |error e=>rw[a]at h;cases h
  |ok y=>
   rw[a]at h;dsimp only at h;cases b:dO f l with
   |error e=>rw[b]at h;cases h
   |ok g=>
    rw[b]at h;cases h
    obtain⟨i,k⟩:=Dl l g b;refine⟨by rw[Zp,Zp,i],λz d=> ?_⟩;rcases Za.1 d with rfl|d
    ·exact⟨x,Zt,a⟩
    ·obtain⟨w,n,e⟩:=k z d;exact⟨w,Zk _ n,e⟩
def Vj{F:so->aK}(a:∀s,(F s).xL.length<=300){l r:aK}(ok:Bb l)(h:kS F l= .ok r):iT 1000000 r:=by
 have b:=ahD F a l.xL ⟨l.xK,[]⟩ r h;have d:=ok.2;unfold iT;simp only[Zg]at b;omega
def afA{F:so->aK}(g:∀s,(F s).xL.length<=300):∀(d:Nat)(e r:au),nV e->my F d e= .ok r->ph r
 |0,e,r,_,h=>by cases h
 |d+1,e,r,ok,h=>by
  have k:=ok e Zt;rw[my]at h;cases n:kS F e.aU with
  |error x=>rw[n]at h;cases h
  |ok l=>
   rw[n]at h;dsimp only at h;cases o:dO (mR F) e.xIdx with
   |error x=>rw[o]at h;cases h
   |ok i=>
    rw[o]at h;dsimp only at h;cases t:dO (my F d) e.bk with
    |error x=>rw[t]at h;cases h
    |ok a=>
     rw[t]at h;cases h
     obtain⟨P,G⟩:=Dl _ _ o;obtain⟨Q,H⟩:=Dl _ _ t;intro y f;rcases Za.1 f with rfl|f
     ·refine⟨Vj g k.1 n,by have:=k.2.1;show i.length<=_;omega,λz b=> ?_,by have:=k.2.2.2;show a.length<=_;omega⟩;obtain⟨x,u,b⟩:=G z b;have Vo:=k.2.2.1 x u;unfold mR at b;cases B:kS F x.aU with
      |error q=>rw[B]at b;cases b
      |ok S=>
       rw[B]at b;dsimp only at b;cases C:dO (kS F) x.bC with
       |error q=>rw[C]at b;cases b
       |ok J=>
        rw[C]at b;cases b
        obtain⟨T,L⟩:=Dl _ _ C;refine⟨Vj g Vo.1 B,by have:=Vo.2.1;show J.length<=_;omega,λw E=> ?_⟩;obtain⟨v,M,E⟩:=L w E;exact Vj g (Vo.2.2 v M) E
     ·obtain⟨z,b,f⟩:=By f;obtain⟨x,u,b⟩:=H z b;exact afA g d x z (ok.arg u) b y f
def atB{e:au}(h:okY e):bdN e:=
 ⟨Ze h.1.2 gy,Ze h.2.1 gy,λx a=>⟨Ze (h.2.2.1 x a).1.2 gy,Ze (h.2.2.1 x a).2.1 gy,λl b=>Ze ((h.2.2.1 x a).2.2 l b).2 gy⟩,Ze h.2.2.2 gy⟩
def adD{D:aF}(n:nV D.aX):∀(d:Nat)(e r:au),nV e->jI D d e= .ok r->ph r
 |0,e,r,_,h=>by cases h
 |d+1,e,r,ok,h=>by
  have f:=ok e Zt;rw[jI]at h;cases o:e.aA==3&&bL e.ar==bL D.ar with
  |true=>
   rw[o,Tj]at h;exact afA (λs=>Qj _ _ s λx g=>((f.2.2.1 x g).1).2) _ _ _ n h
  |false=>
   rw[o,Tf]at h;cases i:dO (jI D d) e.bk with
   |error x=>rw[i]at h;cases h
   |ok a=>
    rw[i]at h;cases h
    obtain⟨u,t⟩:=Dl _ _ i;have k:=atB f;intro y b;rcases Za.1 b with rfl|b
    ·exact⟨k.iN,k.idx,k.each,by have:=f.2.2.2;show a.length<=_;omega⟩
    ·obtain⟨z,l,b⟩:=By b;obtain⟨x,g,l⟩:=t z l;exact adD n d x z (ok.arg g) l y b
noncomputable def mS(D x:aF):X aF:=match jI D (SizeOf.sizeOf x.aX+1) x.aX with
 | .error e=>.error e
 | .ok b=>.ok ⟨x.ar,x.aw,x.aJ,x.bI,x.cE,b⟩
structure S2(N:Nat)(D x:aF):Prop where
 rp:Rp D x.aX
 size:SizeOf.sizeOf x.aX<N
section
variable {N:Nat} {D:aF}
def asU(a:1000000<N)(b:x6 D.aJ)(d:nV D.aX)(e:SizeOf.sizeOf D.aX<N){x:aF}(h:S2 N D x):
 OP N x.aX D=some (oT nt (jI D (SizeOf.sizeOf x.aX+1) x.aX)):=by
 unfold OP;rw[abg a b d e N x.aX h.size h.rp,ad1 N (SizeOf.sizeOf x.aX+1) x.aX h.size (ZC _)]
def aa0(u:1000000<N)(v:x6 D.aJ)(w:nV D.aX)(z:SizeOf.sizeOf D.aX<N)(S:U so)(W:U cQ)(P:U cl)(a:U so)(k:U aF)(s:so)(at_:Int)(n:Nat)(H:n<=1000):
 ∀(l:U aF)(i:Nat)(R:U aF)(f:Nat),R.length=i->l.length<f->i+l.length=n->(∀x∈l,S2 N D x)->
  q7 N (S,W,P,n,a,k) D s at_ f (i:Int) (R++l)=match dO (mS D) l with| .error e=>some (Gz,e.code)| .ok r=>q7 N (S,W,P,n,a,k) D s at_ 1 (n:Int) (R++r)
 |l,i,R,0,_,h,_,_=>absurd h (ZJ _)
 |[],i,R,f+1,o,B,d,_=>by
  have d:i=n:=by simpa using d
  subst d;rw[dO];dsimp only;rw[q7,q7,show decide ((i:Int)<(i:Int))=false from Zn k7];rfl
 |x::l,i,R,f+1,o,B,d,C=>by
  simp only[Zp]at B d;have t:=C x Zt;have g:(R++x::l).length=n:=by simp only[Zi,Zp];omega
  have J:(R++x::l)[i]?=some x:=by rw[<-o];exact anw R x l
  have L:∀y,(R++x::l).set i y=R++y::l:=λy=>by rw[<-o];exact aoN R x y l
  rw[q7];dsimp only;rw[show decide ((i:Int)<(n:Int))=true from eD k7,g,ml,show decide ((0:Int)<=(i:Int))=true from eD k7,ZR,J,Tj,Tj,Tj,re,
    asU u v w z t,re,dO]
  cases E:jI D (SizeOf.sizeOf x.aX+1) x.aX with
  |error e=>
   rw[show mS D x= .error e by unfold mS;rw[E]];show(bif e.code !=0 then _ else _)=_;rw[e.ne];rfl
  |ok b=>
   rw[show mS D x= .ok ⟨x.ar,x.aw,x.aJ,x.bI,x.cE,b⟩ by unfold mS;rw[E],L,I5 k7];show q7 N _ D s at_ f _ (R++⟨x.ar,x.aw,x.aJ,x.bI,x.cE,b⟩::l)=_;have G:=aa0 u v w z S W P a k s at_ n H l (i+1) (R++[⟨x.ar,x.aw,x.aJ,x.bI,x.cE,b⟩]) f (by simp only[Zi,Zp,Zg];omega) k7 k7 λy M=>C y (Zk _ M);rw[ZU]at G;refine Eq.trans G ?_;cases dO (mS D) l with
   |error e=>rfl
   |ok r=>dsimp only;rw[ZU];rfl
def nk(c:Bool)(at_:Nat):Nat->U aF->U aF
 |_,[]=>[]
 |k,x::r=>bif !(k==at_)||c then x::nk c at_ (k+1) r else nk c at_ (k+1) r
def aaR(at_:Nat):∀(k:Nat)(r:U aF),nk true at_ k r=r
 |_,[]=>rfl
 |k,x::r=>by rw[nk,Bool.or_true,Tj,aaR at_ (k+1) r]
def ad0(at_:Nat):∀(k:Nat)(r:U aF),at_<k->nk false at_ k r=r
 |_,[],_=>rfl
 |k,x::r,h=>by
  rw[nk,show(k==at_)=false from Tn.2 k7,ad0 at_ (k+1) r k7];rfl
def acF(at_:Nat):∀(k:Nat)(r:U aF),k<=at_->nk false at_ k r=r.take (at_-k)++r.drop (at_-k+1)
 |_,[],_=>by rw[nk,List.take_nil,List.drop_nil];rfl
 |k,x::r,h=>by
  rw[nk];by_cases a:k=at_;{subst a;rw[show(k==k)=true from Z3 k,ad0 k (k+1) r k7,Nat.sub_self];rfl};{rw[show(k==at_)=false from Tn.2 a,acF at_ (k+1) r k7,show at_-k=(at_-(k+1))+1 by omega];rfl}
def Ul(c:Bool)(at_:Nat):∀(k:Nat)(r:U aF),∀x∈nk c at_ k r,x∈r
 |_,[],x,h=>by cases h
 |k,y::r,x,h=>by
  rw[nk]at h;cases a: !(k==at_)||c<;>rw[a]at h
  ·exact Zk _ (Ul c at_ (k+1) r x h)
  ·rcases Za.1 h with rfl|h
   ·exact Zt
   ·exact Zk _ (Ul c at_ (k+1) r x h)
end
def afx(S:U so):∀(l:U cq)(d:U so),p9 S d l=0->x6 l/\∀a∈l,cy d a.ar=false
 |[],_,_=>⟨List.Pairwise.nil,λ_ h=>by cases h⟩
 |a::l,d,h=>by
  rw[p9]at h;cases e:ja (S++d) a.ar !=0 with
  |true=>rw[e,Tj]at h;rw[h]at e;cases e
  |false=>
   rw[e,Tf]at h;cases g:jA S a.dq !=0 with
   |true=>rw[g,Tj]at h;rw[h]at g;cases g
   |false=>
    rw[g,Tf]at h;obtain⟨n,i⟩:=afx S l _ h;have k:=(CG (gw e)).2;rw[lL,Yy]at k;refine⟨List.pairwise_cons.2 ⟨λb f=> ?_,n⟩,λb f=> ?_⟩;{have:=i b f;rw[lL,Yy,BC]at this;rw[<-this.2];exact Bool.eq_iff_iff.2 (by rw[TC,TC];exact eq_comm)}
    ·rcases Za.1 f with rfl|f
     ·exact k.2
     ·have:=i b f;rw[lL,Yy]at this;exact this.1
def atP{A B:U cq}(h:x6 (A++B)):x6 A:=(List.pairwise_append.1 h).1
def avl{l:U cl}{s:so}(h:cy (l.map (·.ar)) s=false):l.find? (λx=>bL x.ar==bL s)=none:=by
 rw[Dw]at h;cases e:l.find? λx=>bL x.ar==bL s with
 |none=>rfl
 |some x=>rw[e]at h;cases h
def ah0{p:aI}{s:so}{i j:Nat}{D x:aF}(l:p.ax.findIdx? (eW s)=some j)(t:p.ax[j]?=some D)(hi:eW s D=true)(u:iG p j D)(v:iG p i x):
 ∀y∈dx x.aX,y.aA=3->(bL y.ar==bL D.ar)=true->y.xIdx.length=D.aJ.length:=by
 intro y w f g;have a:=v.reads y w f;unfold oz at a;have z:p.aS.find? (λx=>bL x.ar==bL y.ar)=none:=by
  have:=u.par;rw[UI (s:=y.ar) (by rw[TC]at g ⊢;exact g)]at this;exact avl this
 have B:eW y.ar=eW s:=by
  funext d
  unfold eW at hi ⊢;rw[TC.1 g,TC.1 hi]
 have C:dt p.aS (p.ax.take i) y.ar=(match (p.ax.take i).find? (eW s)with|some d=>(d.aw,d.aJ.map (·.dq),true)|none=>(gU,[],false)):=by
  unfold dt;rw[z,B]
  try rfl
 rw[C]at a;cases h:(p.ax.take i).find? (eW s)with
 |none=>rw[h]at a;cases a
 |some d=>
  rw[h]at a;have E:d=D:=by
    have G:p.ax.find? (eW s)=some d:=by
     have:=Yl i p.ax;rw[<-this,List.find?_append,h];rfl
    rcases zB (eW s) p.ax with⟨b,_⟩|⟨k,e,b,f,n,_⟩
    ·rw[l]at b;cases b
    ·rw[l]at b;cases b;rw[t]at f;cases f;rw[G]at n;cases n;rfl
  subst E;dsimp only at a;rw[Tj,Zw]at a;cases o:y.xIdx.length==d.aJ.length with
  |true=>exact TC.1 o
  |false=>rw[o]at a;cases a
def acn(N:Nat)(s:so)(D:U aF)(b:D.length<1000000):∀(n i:Nat),i<=D.length->D.length-i<n->AJ N D.length D s n (i:Int)=some (od (D.drop i) s i)
 |0,i,_,h=>absurd h (ZJ _)
 |n+1,i,d,h=>by
  rw[AJ];by_cases a:i<D.length;{rw[show decide ((i:Int)<(D.length:Int))=true from eD k7,show decide ((0:Int)<=(i:Int))=true from eD k7,Tj,Tj,ZR,Zd a,re,List.drop_eq_getElem_cons a,avG,I5 k7];dsimp only;rw[acn N s D b n (i+1) k7 k7,show EE N D[i] s=some (eW s D[i])from rfl,re];cases eW s D[i]<;>rfl};{rw[show decide ((i:Int)<(D.length:Int))=false from Zn k7,List.drop_eq_nil_of_le k7];rfl}
def alp(N:Nat)(d:1000000<N)(S:U so)(W:U cQ)(P:U cl)(a:U so)(s:so)(D:U aF)(b:D.length<1000000):H8 N S W P D.length a s D=some (od D s 0):=by
 unfold H8 Ks;have:=acn N s D b N 0 (Wl _) k7;rw[Yn]at this;rw[ml,Tj];rw[show((0:Nat):Int)=0 from rfl]at this;rw[this];rfl
noncomputable def lP(p:aI)(s:so):U aF:=match p.ax.find? (eW s)with
 |none=>[]
 |some D=>match dO (mS D) p.ax with
  | .error _=>[]
  | .ok r=>r
def abF:∀(K V:U (U UInt8)),K.Pairwise (λa b=>a≠b)->(∀x∈K,x∈V)->K.length<=V.length
 |[],_,_,_=>Wl _
 |x::K,V,h,d=>by
  obtain⟨g,i⟩:=List.pairwise_cons.1 h;have e:=d x Zt;have:=abF K (V.erase x) i λy f=>(List.mem_erase_of_ne (Ne.symm (g y f))).2 (d y (Zk _ f));rw[List.length_erase_of_mem e]at this;have:=List.length_pos_of_mem e;simp only[Zp];omega
def ash:∀{a b c:U UInt8},Op.bytesLess a b=true->Op.bytesLess b c=true->Op.bytesLess a c=true:=by
 intro a b c d e;rw[Ot,UL]at*;exact List.lt_trans d e
def adM:∀(l:U bD)(p:O so),sR p l=true->(∀q,p=some q->∀m∈l,Op.bytesLess (bL q) (bL m.ar)=true)/\(l.map λm=>bL m.ar).Pairwise (λa b=>a≠b)
 |[],_,_=>⟨(λ_ _ _ h=>by cases h),List.Pairwise.nil⟩
 |m::l,p,h=>by
  rw[DH,Zo,Zo,Zo]at h;obtain⟨i,k⟩:=adM l (some m.ar) h.2.2.2;have f:=i m.ar rfl;refine⟨λq n x d=> ?_,?_⟩
  ·subst n;have g:Op.bytesLess (bL q) (bL m.ar)=true:=h.2.2.1;rcases Za.1 d with rfl|d
   ·exact g
   ·exact ash g (f x d)
  ·rw[ZY];refine List.pairwise_cons.2 ⟨λb o e=> ?_,k⟩;obtain⟨x,d,rfl⟩:=UZ.1 o;have:=f x d;rw[e,Ot,UL]at this;exact absurd this (List.lt_irrefl _)
def Te{V:U so}{l:aK}(h:gh l=true)(a:n7 V l=0):l.xL.length<=V.length:=by
 unfold n7 at a;have b:IX V l=true:=by
  cases e:IX V l with
  |true=>rfl
  |false=>rw[e]at a;cases a
 have:=abF (l.xL.map λm=>bL m.ar) (V.map bL) (adM l.xL none h).2 λx d=>by
  obtain⟨m,f,rfl⟩:=UZ.1 d;have:=Zc.1 b m f;obtain⟨w,g,e⟩:=List.any_eq_true.1 this;exact UZ.2 ⟨w,g,TC.1 e⟩
 rw[Zw,Zw]at this;exact this
def KJ{α:Type}{f:α->Int}:∀{l:U α},ir f l=0->∀x∈l,f x=0
 |[],_,_,h=>by cases h
 |y::l,h,x,a=>by
  rw[ir]at h;cases e:f y !=0 with
  |true=>rw[e,Tj]at h;rw[h]at e;cases e
  |false=>
   rw[e,Tf]at h;rcases Za.1 a with rfl|a
   ·exact gw e
   ·exact KJ h x a
def agu:∀(l:U bD)(p:O so),sR p l=true->∀m∈l,iO m.ar=true
 |[],_,_,_,h=>by cases h
 |x::l,p,h,m,a=>by
  rw[DH,Zo,Zo,Zo]at h;rcases Za.1 a with rfl|a
  ·exact h.1
  ·exact agu l _ h.2.2.2 m a
def acN{l:aK}(h:uu l=true):l.xL.length<=300:=by
 unfold uu at h;rw[Zo,TC,TC]at h;omega
def ab3{V:U so}{P:U cl}{D:U aF}{y:au}(a:oz V P D y=0):∀x∈y.xIdx,rG V P D x=0:=by
 unfold oz at a;cases b:(dt P D y.ar).2.2 with
 |false=>rw[b]at a;cases a
 |true=>
  rw[b,Tj]at a;cases d:y.xIdx.length==(dt P D y.ar).2.1.length with
  |false=>rw[d]at a;cases a
  |true=>rw[d,Tj]at a;exact KJ a
def aoy{V:U so}{P:U cl}{D:U aF}{x:aT}(a:rG V P D x=0)(d:td x=true)(f:V.length<=300)(e:∀l∈uy x,gh l=true):∀l∈uy x,l.xL.length<=300:=by
 unfold rG at a;unfold td at d;unfold uy at e ⊢;intro l b;cases g:bL x.bp==[]with
 |true=>
  rw[g,Tj]at a d;have n:x.bC=[]:=VC (TC.1 d);rw[n]at b;rcases Za.1 b with rfl|b
  ·exact Ze (Te (e _ Zt) a) f
  ·cases b
 |false=>
  rw[g,Tf]at a d;cases h:(dt P D x.bp).2.2 with
  |false=>rw[h]at a;cases a
  |true=>
   rw[h,Tj]at a;cases i:(dt P D x.bp).1.bt !=3 with
   |true=>rw[i]at a;cases a
   |false=>
    rw[i,Tf]at a;cases k:x.bC.length==(dt P D x.bp).2.1.length with
    |false=>rw[k]at a;cases a
    |true=>
     rw[k,Tj]at a;rcases Za.1 b with rfl|b
     ·exact acN d
     ·exact Ze (Te (e l (Zk _ b)) (KJ a l b)) f
def iG.nV{p:aI}{k:Nat}{d:aF}(g:iG p k d)(L:p.bj.length<=64):nV d.aX:=λy i=>by
 obtain⟨n,_,o,_,e⟩:=A2 (xX g.body y i);unfold Bg at e;unfold sP at o;unfold qN at n;rw[Zo,Zc]at e;simp only[Zo,TC,UL,Zc,bh]at o n;obtain⟨M,P,B⟩:=o;obtain⟨_,_,_,_,C,E,G⟩:=n;have w:(rf d++p.bj).length<=300:=by
  have:=g.len;unfold rf;rw[Zi,Zw,Zi];omega
 have H:y.bk.length<=300:=by
  have:qR y.aA<=3:=by
   unfold qR;cases (y.aA==1||(y.aA==2||y.aA==3))<;>cases (y.aA==8||(y.aA==12||y.aA==18))<;>cases y.aA==11<;>decide
  omega
 have t:∀l∈nA y,l.xL.length<=300->Bb l:=λl b h=>⟨agu l.xL none (e.2 l b),h⟩;have f:y.aU∈nA y:=by unfold nA;exact Zt
 have u:∀x∈y.xIdx,∀l∈uy x,l∈nA y:=λx a l b=>by
  unfold nA;exact Zk _ (List.mem_flatMap.2 ⟨x,a,b⟩)
 have v:y.aU.xL.length<=300:=by
  rcases C with h|h
  ·exact Ze (Te (e.2 _ f) (g.q6 y i h)) w
  ·exact acN h
 refine⟨t _ f v,by omega,λx a=> ?_,H⟩;have J:y.aA=3:=by
  rcases E with h|⟨_,h⟩
  ·exact h
  ·rw[VC h]at a;cases a
 have z:=aoy (ab3 (g.reads y i J) x a) (G x a) w λl b=>e.2 l (u x a l b);exact⟨t _ (u x a _ Zt) (z _ Zt),Ze (B x a) gy,λl b=>t l (u x a l (Zk _ b)) (z l (Zk _ b))⟩
def RU{D:aF}:∀(l r:U aF),dO (mS D) l= .ok r->r.map (·.ar)=l.map (·.ar)
 |[],r,h=>by cases h;rfl
 |x::l,r,h=>by
  rw[dO]at h;cases a:mS D x with
  |error e=>rw[a]at h;cases h
  |ok y=>
   rw[a]at h;cases d:dO (mS D) l with
   |error e=>rw[d]at h;cases h
   |ok g=>
    rw[d]at h;cases h;unfold mS at a;cases f:jI D (SizeOf.sizeOf x.aX+1) x.aX with
    |error e=>rw[f]at a;cases a
    |ok b=>
     rw[f]at a;cases a;rw[ZY,ZY,RU l g d]
noncomputable def nO(p:aI)(s:so):aI:=
 ⟨p.bj,p.cO,p.aS,match p.ax.findIdx? (eW s)with|none=>[]|some j=>nk (cy p.cB s) j 0 (lP p s),p.cB⟩
def R2{N:Nat}{p:aI}(L:2147483648<N)(B:Bc N p)(s:so)(hS:p.bj.length<=64)(G:∀d∈lP p s,2*SizeOf.sizeOf d.aX+2<N):
 ∃r x,qk N p s=some (r,x)/\(∀d∈r.ax,2*SizeOf.sizeOf d.aX+2<N)/\(x=0->r=nO p s/\(lP p s).map (·.ar)=p.ax.map (·.ar)/\Bc N r/\(∀i d,r.ax[i]?=some d->iG r i d)/\∃a,tn N r=some (a,0))/\(x≠0->r.ax=[]):=by
 have mc:=B.b.d;obtain⟨z,e1,e3⟩:=U4 L B.b s;unfold qk;rw[e1,re];cases M:z !=0 with
 |true=>exact⟨_,_,rfl,(λ_ h=>by cases h),(λh=>by rw[h]at M;cases M),λ_=>rfl⟩
 |false=>
  obtain⟨FH,j,D,v,t,hi,_⟩:=e3 (gw M);have Q:=FH j D t;have x7:j<p.ax.length:=by
   by_cases h:j<p.ax.length;{exact h};{rw[Z1 k7]at t;cases t}
  have S:=yg t;have kP:=Q.nV hS;have hs:=(B.E D S).2;have hd:x6 D.aJ:=atP (afx _ _ _ Q.Uz).1;have rp:∀x∈p.ax,S2 N D x:=λx f=>by
   obtain⟨i,jT,eK⟩:=ak.1 f;have gx:=FH i x (by rw[Zd jT,eK]);exact⟨⟨gx.nV hS,ah0 v t hi Q gx⟩,(B.E x f).2⟩
  have F6:od p.ax s 0=(j:Int):=by unfold od;rw[v];dsimp only;rw[ZQ]
  simp only[Tf];rw[Pj B,re];dsimp only;rw[alp N k7 _ _ _ _ s p.ax k7,re,F6,ml,show decide ((0:Int)<=(j:Int))=true from eD k7,show decide ((j:Int)<(p.ax.length:Int))=true from eD k7,ZR,t];simp only[Tj,re];have T:=aa0 (N:=N) k7 hd kP hs p.bj p.cO p.aS p.cB p.ax s (j:Int) p.ax.length k7 p.ax 0 [] N rfl k7 k7 rp;rw[W5,show((0:Nat):Int)=0 from rfl]at T;rw[T];cases J:dO (mS D) p.ax with
  |error e=>exact⟨_,_,rfl,(λ_ h=>by cases h),(λh=>by cases e<;>cases h),λ_=>rfl⟩
  |ok r=>
   dsimp only;obtain⟨n,jd⟩:=Dl _ _ J;have M0:lP p s=r:=by
    unfold lP;rcases zB (eW s) p.ax with⟨l,_⟩|⟨k,e,l,y,h4,_⟩
    ·rw[v]at l;cases l
    ·rw[v]at l;cases l;rw[t]at y;cases y;rw[h4];dsimp only;rw[J]
   have Kq:=M0;rw[M0]at G;have parts:∀d∈r,∃x∈p.ax,d.aJ=x.aJ/\d.bI=x.bI/\ph d.aX:=λd g=>by
    obtain⟨x,f,e⟩:=jd d g;unfold mS at e;cases e4:jI D (SizeOf.sizeOf x.aX+1) x.aX with
    |error q=>rw[e4]at e;cases e
    |ok b=>
     rw[e4]at e;cases e
     exact⟨x,f,rfl,rfl,adD kP _ _ _ (rp x f).rp.ok e4⟩
   have bc:∀K:U aF,(∀x∈K,x∈r)->K.length<=r.length->Bc N ⟨p.bj,p.cO,p.aS,K,p.cB⟩:=λK C hKl=>by
    refine⟨⟨B.b.s,B.b.w,B.b.q,by show K.length<=_;omega,B.b.o,B.b.P,⟨λd g=> ?_,λd g=> ?_⟩,B.b.W,λd g=> ?_⟩,λd g=> ?_⟩;{obtain⟨x,f,h1,l,_⟩:=parts d (C d g);rw[h1,l];exact B.b.D.len x f};{obtain⟨x,f,h1,l,_⟩:=parts d (C d g);rw[h1,l];exact B.b.D.iu x f};{obtain⟨x,f,_,_,y⟩:=parts d (C d g);exact⟨y.ok,by have:=G d (C d g);omega⟩};{obtain⟨x,f,_,_,y⟩:=parts d (C d g);exact⟨y,by have:=G d (C d g);omega⟩}
   rw[q7];dsimp only;rw[show decide ((p.ax.length:Int)<(p.ax.length:Int))=false from Zn k7,Tf,acG,re,W5,n,ml];cases hh:cy p.cB s with
   |true=>
    have u:=bc r (λ_ h=>h) (Zx _);obtain⟨a,x,H,v2,v3⟩:=CO L u.b;rw[H];simp only[Tj,re];cases f:x !=0 with
    |true=>exact⟨_,_,rfl,(λ_ h=>by cases h),(λh=>by rw[h]at f;cases f),λ_=>rfl⟩
    |false=>
     simp only[Tf];rw[Pj u,re];dsimp only;rw[ml];exact⟨_,_,rfl,G,(λ_=>⟨by unfold nO;rw[v,Kq,hh];dsimp only;rw[aaR],Kq.symm▸RU _ _ J,u,v3 (gw f),a,by rw[H,gw f]⟩),λh=>absurd rfl h⟩
   |false=>
    have hkl:(r.take j++r.drop (j+1)).length+1=r.length:=by
     rw[Zi,b6,ca];omega
    have hk:∀x∈r.take j++r.drop (j+1),x∈r:=λx f=>by
     rcases ZM.1 f with h|h
     ·exact List.mem_of_mem_take h
     ·exact a6 h
    have u:=bc _ hk k7;obtain⟨a,x,H,v2,v3⟩:=CO L u.b;have anB:Kh N r (j:Int) p.ax.length=some (r.take j++r.drop (j+1)):=by
     unfold Kh;rw[n,ml,show decide ((0:Int)<=(j:Int))=true from eD k7,ZR,show Nat.blt j p.ax.length=true from X7 x7,show Nat.blt p.ax.length 9223372036854775807=true from X7 k7];rfl
    rw[anB];simp only[Tf,re];rw[show(r.take j++r.drop (j+1)).length+1=p.ax.length by omega,ml,show(r.take j++r.drop (j+1)).length=p.ax.length-1 by omega,ml,Tj,Tj,H,re];dsimp only;cases f:x !=0 with
    |true=>exact⟨_,_,rfl,(λ_ h=>by cases h),(λh=>by rw[h]at f;cases f),λ_=>rfl⟩
    |false=>
     simp only[Tf];rw[Pj u,re];dsimp only;rw[ml];exact⟨_,_,rfl,(λd g=>G d (hk d g)),(λ_=>⟨by unfold nO;rw[v,Kq,hh];dsimp only;rw[acF j 0 r (Wl _),Nat.sub_zero],Kq.symm▸RU _ _ J,u,v3 (gw f),a,by rw[H,gw f]⟩),λh=>absurd rfl h⟩
def agW(N:Nat)(L:U so):∀(l r:U so)(k:Nat),L.drop k=r->l.length=r.length->Kr N L l k=some (eP xJ l r)
 |[],[],_,_,_=>rfl
 |[],y::r,_,_,h=>by simp at h
 |x::l,[],_,_,h=>by simp at h
 |x::l,y::r,k,a,b=>by
  rw[Kr,ZR,bA a,re,agW N L l r (k+1) (ie a) (by simpa using b),eP];show(bif xJ x y then _ else _)=_;cases xJ x y<;>rfl
def aip(N:Nat)(a b:U so):EY N a b=some (eP xJ a b):=by
 unfold EY;rw[uq];cases h:a.length==b.length with
 |false=>rw[sf _ _ _ h];rfl
 |true=>exact agW N b a b 0 rfl (TC.1 h)
def acg(N:Nat)(L:U bD):∀(l r:U bD)(k:Nat),L.drop k=r->l.length=r.length->J7 N L l k=some (eP tk l r)
 |[],[],_,_,_=>rfl
 |[],y::r,_,_,h=>by simp at h
 |x::l,[],_,_,h=>by simp at h
 |x::l,y::r,k,a,b=>by
  rw[J7,ZR,bA a,re,acg N L l r (k+1) (ie a) (by simpa using b),eP];show(bif tk x y then _ else _)=_;cases tk x y<;>rfl
def eqM(N:Nat)(a b:U bD):LK N a b=some (eP tk a b):=by
 unfold LK;rw[uq];cases h:a.length==b.length with
 |false=>rw[sf _ _ _ h];rfl
 |true=>exact acg N b a b 0 rfl (TC.1 h)
def UP(N:Nat)(a b:aK):Eb N a b=some (mv a b):=by
 unfold Eb mv;rw[eqM,re];cases a.xK.toInt==b.xK.toInt<;>rfl
def an0(N:Nat)(a b:cQ):Kn N a b=some (Ao a b):=by
 unfold Kn Ao;rw[UP,re];cases a.l9==b.l9<;>rfl
def acP(N:Nat)(L:U cQ):∀(l r:U cQ)(k:Nat),L.drop k=r->l.length=r.length->KC N L l k=some (eP Ao l r)
 |[],[],_,_,_=>rfl
 |[],y::r,_,_,h=>by simp at h
 |x::l,[],_,_,h=>by simp at h
 |x::l,y::r,k,a,b=>by
  rw[KC,ZR,bA a,re,an0,re,acP N L l r (k+1) (ie a) (by simpa using b),eP];cases Ao x y<;>rfl
def eqC(N:Nat)(a b:U cQ):KW N a b=some (eP Ao a b):=by
 unfold KW;rw[uq];cases h:a.length==b.length with
 |false=>rw[sf _ _ _ h];rfl
 |true=>exact acP N b a b 0 rfl (TC.1 h)
def acK(N:Nat)(L:U aK):∀(l r:U aK)(k:Nat),L.drop k=r->l.length=r.length->PI N L l k=some (eP mv l r)
 |[],[],_,_,_=>rfl
 |[],y::r,_,_,h=>by simp at h
 |x::l,[],_,_,h=>by simp at h
 |x::l,y::r,k,a,b=>by
  rw[PI,ZR,bA a,re,UP,re,acK N L l r (k+1) (ie a) (by simpa using b),eP];cases mv x y<;>rfl
def eqN(N:Nat)(a b:U aK):PT N a b=some (eP mv a b):=by
 unfold PT;rw[uq];cases h:a.length==b.length with
 |false=>rw[sf _ _ _ h];rfl
 |true=>exact acK N b a b 0 rfl (TC.1 h)
def aqc(N:Nat)(a b:cl):J3 N a b=some (ze a b):=by
 unfold J3 ze;rw[eqN,re,show((a.aw.bt==b.aw.bt)&&((a.aw.bW==b.aw.bW)&&((a.aw.bR==b.aw.bR)&&((a.aw.b9==b.aw.b9)&&((a.aw.b8==b.aw.b8)&&true)))))=ur a.aw b.aw from rfl];cases bL a.ar==bL b.ar<;>cases ur a.aw b.aw<;>rfl
def at7(N:Nat)(a b:cq):PV N a b=some (vL a b):=by
 unfold PV vL;rw[UP,re];cases bL a.ar==bL b.ar<;>rfl
def aaU(N:Nat)(L:U cl):∀(l r:U cl)(k:Nat),L.drop k=r->l.length=r.length->Ms N L l k=some (eP ze l r)
 |[],[],_,_,_=>rfl
 |[],y::r,_,_,h=>by simp at h
 |x::l,[],_,_,h=>by simp at h
 |x::l,y::r,k,a,b=>by
  rw[Ms,ZR,bA a,re,aqc,re,aaU N L l r (k+1) (ie a) (by simpa using b),eP];cases ze x y<;>rfl
def eqP(N:Nat)(a b:U cl):LN N a b=some (eP ze a b):=by
 unfold LN;rw[uq];cases h:a.length==b.length with
 |false=>rw[sf _ _ _ h];rfl
 |true=>exact aaU N b a b 0 rfl (TC.1 h)
def acB(N:Nat)(L:U cq):∀(l r:U cq)(k:Nat),L.drop k=r->l.length=r.length->Ld N L l k=some (eP vL l r)
 |[],[],_,_,_=>rfl
 |[],y::r,_,_,h=>by simp at h
 |x::l,[],_,_,h=>by simp at h
 |x::l,y::r,k,a,b=>by
  rw[Ld,ZR,bA a,re,at7,re,acB N L l r (k+1) (ie a) (by simpa using b),eP];cases vL x y<;>rfl
def eqA(N:Nat)(a b:U cq):Hp N a b=some (eP vL a b):=by
 unfold Hp;rw[uq];cases h:a.length==b.length with
 |false=>rw[sf _ _ _ h];rfl
 |true=>exact acB N b a b 0 rfl (TC.1 h)
def ao7(N d:Nat)(e:3*d<=N)(a b:aF)(h:SizeOf.sizeOf a.aX<d):NC N a b=some (Et d a b):=by
 unfold NC WU Qp Et;obtain⟨c,f,g⟩:=adU N d a.aX b.aX N h e;rw[eqA,eqA,f];simp only[re];rw[g,show((a.aw.bt==b.aw.bt)&&((a.aw.bW==b.aw.bW)&&((a.aw.bR==b.aw.bR)&&((a.aw.b9==b.aw.b9)&&((a.aw.b8==b.aw.b8)&&true)))))=ur a.aw b.aw from rfl];cases bL a.ar==bL b.ar<;>cases ur a.aw b.aw<;>cases a.cE==b.cE<;>cases eP vL a.aJ b.aJ<;>cases eP vL a.bI b.bI<;>rfl
def aay(N d:Nat)(a:3*d<=N)(L:U aF):∀(l r:U aF)(k:Nat),(∀x∈l,SizeOf.sizeOf x.aX<d)->L.drop k=r->l.length=r.length->Of N L l k=some (eP (Et d) l r)
 |[],[],_,_,_,_=>rfl
 |[],y::r,_,_,_,h=>by simp at h
 |x::l,[],_,_,_,h=>by simp at h
 |x::l,y::r,k,b,e,f=>by
  rw[Of,ZR,bA e,re,ao7 N d a x y (b x Zt),re,aay N d a L l r (k+1) (λz g=>b z (Zk _ g)) (ie e) (by simpa using f),eP];cases Et d x y<;>rfl
def aq6(N d:Nat)(a:3*d<=N)(p q:aI)(b:∀x∈p.ax,SizeOf.sizeOf x.aX<d):OF N p q=some (Sw d p q):=by
 have e:Mm N p.ax q.ax=some (eP (Et d) p.ax q.ax):=by
  unfold Mm;rw[uq];cases h:p.ax.length==q.ax.length with
  |false=>rw[sf _ _ _ h];rfl
  |true=>exact aay N d a q.ax p.ax q.ax 0 b rfl (TC.1 h)
 unfold OF Sw;rw[aip,aip,eqC,eqP,e];simp only[re];cases eP xJ p.bj q.bj<;>cases eP xJ p.cB q.cB<;>cases eP Ao p.cO q.cO<;>cases eP ze p.aS q.aS<;>rfl
def Pw{α β:Type}{f:α->X β}{r:U β}(h:dO f []= .ok r):r=[]:=by rw[dO]at h;exact(Except.ok.inj h).symm
def Bm{α β:Type}{f:α->X β}{x:α}{l:U α}{r:U β}(h:dO f (x::l)= .ok r):∃y s,f x= .ok y/\dO f l= .ok s/\r=y::s:=by
 rw[dO]at h;cases a:f x with
 |error e=>rw[a]at h;cases h
 |ok y=>
  rw[a]at h;cases b:dO f l with
  |error e=>rw[b]at h;cases h
  |ok s=>rw[b]at h;exact⟨y,s,rfl,rfl,(Except.ok.inj h).symm⟩
def Wj{α β:Type}{f:α->X β}:∀{l:U α}{r:U β},dO f l= .ok r->r.length=l.length
 |[],r,h=>by rw[Pw h];rfl
 |x::l,r,h=>by
  obtain⟨y,s,_,a,rfl⟩:=Bm h;rw[Zp,Zp,Wj a]
structure Kv(V:List ByteArray)(F:ByteArray->aK)(env iY:List aR):Prop where
 v:∀s v,cy V s=true->iz env s=some v->db (F s) iY=(v,0)
def Bx(V:U so)(l:aK):Prop:=∀m∈l.xL,cy V m.ar=true
def Tv{l:aK}{env:U aR}(h:(db l env).2=0):db l env=((db l env).1,0):=Prod.ext rfl h
section
variable {V:U so} {F:so->aK} {env iY:U aR} (R:Kv V F env iY)
def ae8:∀(l:U bD)(a h:aK),oD F l a= .ok h->gh a=true->gh h=true
 |[],a,h,e,f=>by rw[oD]at e;rw[<-Except.ok.inj e];exact f
 |m::l,a,h,e,_=>by
  rw[oD]at e;cases d:pW (F m.ar) m.dh with
  |error z=>rw[d]at e;cases e
  |ok g=>
   rw[d]at e;dsimp only at e;cases b:mM a g with
   |error z=>rw[b]at e;cases e
   |ok q=>rw[b]at e;exact ae8 l q h e (aiL b)
include R
def aby:∀(l:U bD)(b h:aK)(a s:Int),oD F l b= .ok h->(∀m∈l,cy V m.ar=true)->kH iY b.xL b.xK.toInt=some a->jl env l=some s->kH iY h.xL h.xK.toInt=some (a+s)
 |[],b,h,a,s,e,_,f,d=>by
  rw[oD]at e;rw[jl]at d;rw[<-Except.ok.inj e,f,<-Zl d,Int.add_zero]
 |m::l,b,h,a,s,e,o,f,d=>by
  obtain⟨v,u,t,y,B⟩:=DA d;have q:=aeB (R.v m.ar v (o m Zt) t);rw[oD]at e;cases i:pW (F m.ar) m.dh with
  |error z=>rw[i]at e;cases e
  |ok g=>
   rw[i]at e;dsimp only at e;cases n:mM b g with
   |error z=>rw[n]at e;cases e
   |ok w=>
    rw[n]at e;have k:=aby l w h _ u e (λx C=>o x (Zk _ C)) (an9 n f (akE i q.2)) y;rw[k,B,Int.mul_comm m.dh.toInt,Int.add_assoc]
def UT{l b:aK}{n:Int64}(h:kS F l= .ok b)(e:Bx V l)(f:db l env=(n,0)):db b iY=(n,0):=by
 obtain⟨g,a⟩:=aeB f;rw[Nw]at a;cases d:jl env l.xL with
 |none=>rw[d]at a;cases a
 |some s=>
  rw[d]at a;have a:l.xK.toInt+s=n.toInt:=Zl a;unfold kS at h;refine adu (ae8 l.xL _ _ h rfl) ?_;rw[aby R l.xL ⟨l.xK,[]⟩ b l.xK.toInt s h e rfl d,a]
def abw:∀(g i:U aK)(k:U Int)(a b:Int),dO (kS F) g= .ok i->(∀l∈g,Bx V l)->l8 env g k a= .ok b->l8 iY i k a= .ok b
 |[],i,k,a,b,h,_,f=>by rw[Pw h,l8];rw[l8]at f;exact f
 |l::g,i,[],a,b,h,_,f=>by
  obtain⟨y,s,_,_,rfl⟩:=Bm h;rw[l8];rw[l8]at f;exact f
 |l::g,i,d::k,a,b,h,o,f=>by
  obtain⟨y,s,u,v,rfl⟩:=Bm h;rw[l8]at f;cases n:((db l env).2 !=0)with
  |true=>rw[n]at f;cases f
  |false=>
   rw[n,Tf]at f;have e:=Tv (bne_eq_false_iff_eq.1 n);rw[l8,UT R u (o l Zt) e];show(bif decide ((db l env).1.toInt<0)||decide ((db l env).1.toInt>=d)then _ else _)=_;cases t:(decide ((db l env).1.toInt<0)||decide ((db l env).1.toInt>=d))with
   |true=>rw[t]at f;cases f
   |false=>
    rw[t,Tf]at f;exact abw g s k _ b v (λx w=>o x (Zk _ w)) f
end
structure Kp(nm:ByteArray)(mem fp:List aO):Prop where
 f:∀s t,(bL s==bL nm)=false->dY mem s=some t->dY fp s=some t
def Kp.look{nm:so}{mem fp:U aO}(K:Kp nm mem fp){s:so}{t:bo}(b:(bL s==bL nm)=false)(h:j7 mem s= .ok t):j7 fp s= .ok t:=by
 unfold j7 at h ⊢;cases a:dY mem s with
 |none=>rw[a]at h;cases h
 |some y=>rw[a]at h;rw[K.f s y b a];exact h
structure Sg(nm:ByteArray)(V:List ByteArray)(x:aT):Prop where
 frm:(bL x.bp==bL nm)=false
 iN:Bx V x.aU
 at_:∀l∈x.bC,Bx V l
structure NW(nm:ByteArray)(V:List ByteArray)(y:au):Prop where
 rd:y.aA=3->(bL y.ar==bL nm)=false
 iN:Bx V y.aU
 ix:∀x∈y.xIdx,Sg nm V x
section
variable {nm:so} {V:U so} {F:so->aK} {mem fp:U aO} {env iY:U aR} (K:Kp nm mem fp) (R:Kv V F env iY)
include K R
def auU{x v:aT}{d:Int}{n:Int64}(h:mR F x= .ok v)(g:Sg nm V x)(e:mr mem env x d= .ok n):mr fp iY v d= .ok n:=by
 unfold mR at h;cases i:kS F x.aU with
 |error z=>rw[i]at h;cases h
 |ok l=>
  rw[i]at h;dsimp only at h;cases f:dO (kS F) x.bC with
  |error z=>rw[f]at h;cases h
  |ok a=>
   rw[f]at h;have h:=Except.ok.inj h;subst h;unfold mr at e ⊢;dsimp only;cases w:bL x.bp==bL (bs [])with
   |true=>
    rw[w,Tj]at e;rw[Tj];cases k:((db x.aU env).2 !=0)with
    |true=>rw[k]at e;cases e
    |false=>
     rw[k,Tf]at e;rw[UT R i g.iN (Tv (bne_eq_false_iff_eq.1 k))];exact e
   |false=>
    rw[w,Tf]at e;rw[Tf];unfold gS at e ⊢;dsimp only;cases o:j7 mem x.bp with
    |error z=>rw[o]at e;cases e
    |ok t=>
     rw[o]at e;rw[K.look g.frm o,Wj f];dsimp only at e ⊢;cases y:t.aw.bt !=3 with
     |true=>rw[y]at e;cases e
     |false=>
      rw[y,Tf]at e;rw[Tf];cases B:((x.bC.length:Int) !=(t.aJ.length:Int))with
      |true=>rw[B]at e;cases e
      |false=>
       rw[B,Tf]at e;rw[Tf];cases u:l8 env x.bC t.aJ 0 with
       |error z=>rw[u]at e;cases e
       |ok b=>rw[abw R x.bC a t.aJ 0 b f g.at_ u];rw[u]at e;exact e
def agI:∀(xs f:U aT)(g:U Int)(a b:Int),dO (mR F) xs= .ok f->(∀x∈xs,Sg nm V x)->ZD mem env xs g a= .ok b->ZD fp iY f g a= .ok b
 |[],f,g,a,b,h,_,e=>by rw[Pw h,ZD];rw[ZD]at e;exact e
 |x::xs,f,[],a,b,h,_,e=>by
  obtain⟨y,s,_,_,rfl⟩:=Bm h;rw[ZD];rw[ZD]at e;exact e
 |x::xs,f,d::g,a,b,h,k,e=>by
  obtain⟨y,s,o,t,rfl⟩:=Bm h;rw[ZD]at e ⊢;cases i:mr mem env x d with
  |error z=>rw[i]at e;cases e
  |ok n=>
   rw[i]at e;rw[auU K R o (k x Zt) i];dsimp only at e ⊢;cases l:(decide (n.toInt<0)||decide (n.toInt>=d))with
   |true=>rw[l]at e;cases e
   |false=>
    rw[l,Tf]at e;rw[Tf];exact agI xs s g _ b t (λx u=>k x (Zk _ u)) e
def ao3{e:au}{l:aK}{i:U aT}{a:U au}{x:aH×aQ}(h1:kS F e.aU= .ok l)(o:dO (mR F) e.xIdx= .ok i)(g:NW nm V e)(f:e.aA=1\/e.aA=2\/e.aA=3)(d:l6 mem env e= .ok x):l6 fp iY ⟨e.aA,e.ar,e.cU,e.aw,l,i,a⟩= .ok x:=by
 unfold l6 at d ⊢;dsimp only;rcases f with f|f|f
 ·rw[f,show((1:Int)==1)=true from rfl,Tj]at d ⊢;exact d
 ·rw[f,show((2:Int)==1)=false from rfl,show((2:Int)==2)=true from rfl,Tf,Tj]at d ⊢;cases h:((db e.aU env).2 !=0)with
  |true=>rw[h]at d;cases d
  |false=>
   rw[h,Tf]at d;rw[UT R h1 g.iN (Tv (bne_eq_false_iff_eq.1 h))];dsimp only;rw[show((0:Int) !=0)=false from rfl,Tf];exact d
 ·have v:=g.rd f;rw[f,show((3:Int)==1)=false from rfl,show((3:Int)==2)=false from rfl,Tf,Tf]at d ⊢;unfold tB at d ⊢;dsimp only;cases k:j7 mem e.ar with
  |error z=>rw[k]at d;cases d
  |ok t=>
   rw[k]at d;rw[K.look v k,Wj o];dsimp only at d ⊢;cases u:((e.xIdx.length:Int) !=(t.aJ.length:Int))with
   |true=>rw[u]at d;cases d
   |false=>
    rw[u,Tf]at d;rw[Tf];cases n:ZD mem env e.xIdx t.aJ 0 with
    |error z=>rw[n]at d;cases d
    |ok b=>rw[agI K R e.xIdx i t.aJ 0 b o g.ix n];rw[n]at d;exact d
end
def tE{α β:Type}{r:Except Int α}{f:α->Except Int β}{y:β}(h:iQ r f= .ok y):∃x,r= .ok x/\f x= .ok y:=by
 unfold iQ at h;cases r with
 |error z=>cases h
 |ok x=>exact⟨x,rfl,h⟩
structure Sv(mem fp:List aO)(env iY:List aR)(e e':au):Prop where
 v:fc e=false->∀x,dK mem env e= .ok x->dK fp iY e'= .ok x
 h:fc e=true->∀b,ke mem env e= .ok b->ke fp iY e'= .ok b
inductive Al{α β:Type}(P:α->β->Prop):List α->List β->Prop
 |nil:Al P [] []
 |cons {x y l r}:P x y->Al P l r->Al P (x::l) (y::r)
def Al.map{α β:Type}{P:α->β->Prop}{f:α->X β}:∀{l:U α}{r:U β},dO f l= .ok r->(∀x∈l,∀y,f x= .ok y->P x y)->Al P l r
 |[],r,h,_=>by rw[Pw h];exact .nil
 |x::l,r,h,a=>by
  obtain⟨y,s,b,d,rfl⟩:=Bm h;exact .cons (a x Zt y b) (Al.map d λz e=>a z (Zk _ e))
def Pz{α β:Type}{P:α->β->Prop}{a:α}{r:U β}(h:Al P [a] r):∃b,r=[b]/\P a b:=by
 cases h with
 |cons d e=>cases e;exact⟨_,rfl,d⟩
def Ow{α β:Type}{P:α->β->Prop}{a b:α}{r:U β}(h:Al P [a,b] r):∃x y,r=[x,y]/\P a x/\P b y:=by
 cases h with
 |cons d e=>obtain⟨y,rfl,f⟩:=Pz e;exact⟨_,y,rfl,d,f⟩
def al3{α β:Type}{P:α->β->Prop}{a b c:α}{r:U β}(h:Al P [a,b,c] r):∃x y z,r=[x,y,z]/\P a x/\P b y/\P c z:=by
 cases h with
 |cons d e=>obtain⟨y,z,rfl,f,g⟩:=Ow e;exact⟨_,y,z,rfl,d,f,g⟩
def Sv.node{mem fp:U aO}{env iY:U aR}{e e':au}(H:Ev e)(t:e'.aA=e.aA)(M:e'.aw=e.aw)(g:Al (Sv mem fp env iY) e.bk e'.bk)
 (P:e.aA<=3->∀x,l6 mem env e= .ok x->l6 fp iY e'= .ok x):Sv mem fp env iY e e':=by
 refine⟨λJ x f=> ?_,λJ x f=> ?_⟩
 ·rcases kd H.n J with L|⟨a,d,u⟩|⟨a,d,u⟩|⟨a,b,d,u⟩|⟨c,a,b,d,u⟩
  ·rw[A6 L]at f;rw[A6 (by rw[t];exact L)];exact P L x f
  ·rw[d]at g;obtain⟨w,k,l⟩:=Pz g;rw[tK k7 d]at f;obtain⟨y,o,i⟩:=tE f;rw[tK (by rw[t];omega) k,l.v (H.c1 d k7 k7) y o,t,M];exact i
  ·rw[d]at g;obtain⟨w,k,l⟩:=Pz g;rw[tK k7 d]at f;obtain⟨y,o,i⟩:=tE f;rw[tK (by rw[t];omega) k,l.v (H.c1 d k7 k7) y o,t,M];exact i
  ·rw[d]at g;obtain⟨w,B,k,l,C⟩:=Ow g;have c2:=H.c2 d k7 k7;rw[IN k7 d]at f;obtain⟨y,o,i⟩:=tE f;obtain⟨z,E,G⟩:=tE i;rw[IN (by rw[t];omega) k,l.v c2.1 y o];show iQ (dK fp iY B) _=_;rw[C.v c2.2 z E,t];exact G
  ·rw[d]at g;obtain⟨S,w,B,k,Q,l,C⟩:=al3 g;have c3:=H.c3 d u;rw[HJ k7 d]at f;obtain⟨y,o,i⟩:=tE f;rw[HJ (by rw[t];omega) k,Q.h c3.1 y o];show(bif y then dK fp iY w else dK fp iY B)=_;cases y with
   |true=>exact l.v c3.2.1 x i
   |false=>exact C.v c3.2.2 x i
 ·rcases kc H.n J with⟨a,d,u⟩|⟨a,b,d,u⟩|⟨a,b,d,u⟩
  ·rw[d]at g;obtain⟨w,k,l⟩:=Pz g;rw[Nb d]at f;obtain⟨y,o,i⟩:=tE f;rw[Nb k,l.h (H.k1 d u) y o];exact i
  ·rw[d]at g;obtain⟨w,B,k,l,C⟩:=Ow g;have c2:=H.c2 d k7 k7;rw[xa d,eD (show e.aA<16 by omega),Tj]at f;obtain⟨y,o,i⟩:=tE f;obtain⟨z,E,G⟩:=tE i;rw[xa k,t,eD (show e.aA<16 by omega),Tj,l.v c2.1 y o];show iQ (dK fp iY B) _=_;rw[C.v c2.2 z E];exact G
  ·rw[d]at g;obtain⟨w,B,k,l,C⟩:=Ow g;have k2:=H.k2 d u;rw[xa d,Zn (show ¬e.aA<16 by omega),Tf]at f;obtain⟨y,o,i⟩:=tE f;obtain⟨z,E,G⟩:=tE i;rw[xa k,t,Zn (show ¬e.aA<16 by omega),Tf,l.h k2.1 y o];show iQ (ke fp iY B) _=_;rw[C.h k2.2 z E];exact G
def af3{nm:so}{V:U so}{F:so->aK}{mem fp:U aO}{env iY:U aR}(K:Kp nm mem fp)(R:Kv V F env iY):∀(d:Nat)(e e':au),my F d e= .ok e'->Ev e->(∀y∈dx e,NW nm V y)->Sv mem fp env iY e e'
 |0,e,e',h,_,_=>by cases h
 |d+1,e,e',h,H,t=>by
  rw[my]at h;cases f:kS F e.aU with
  |error z=>rw[f]at h;cases h
  |ok l=>
   rw[f]at h;dsimp only at h;cases g:dO (mR F) e.xIdx with
   |error z=>rw[g]at h;cases h
   |ok i=>
    rw[g]at h;dsimp only at h;cases o:dO (my F d) e.bk with
    |error z=>rw[o]at h;cases h
    |ok a=>
     rw[o]at h;have h:=Except.ok.inj h;subst h;have w:=H.n.lo;exact Sv.node H rfl rfl (Al.map o λx b y u=>af3 K R d x y u (H.arg b) λz v=>t z (rC b v)) λk x b=>ao3 K R f g (t e Zt) k7 b
def aq5{a n d:Int}(e:0<=a)(f:0<=n)(h1:n<d):0<=a*d+n/\(a*d+n).tmod d=n/\(a*d+n).tdiv d=a:=by
 have g:0<=a*d:=Int.mul_nonneg e k7;have b:(a*d+n)/ d=a:=by
  rw[Int.add_comm,Int.add_mul_ediv_right _ _ k7,Int.ediv_eq_zero_of_lt f h1,Int.zero_add]
 refine⟨by omega,?_,?_⟩;{rw[Int.tmod_eq_emod_of_nonneg k7];have:=Int.emod_add_mul_ediv (a*d+n) d;rw[b,Int.mul_comm d a]at this;omega};{rw[aj k7,b]}
def abu{mem:U aO}{env:U aR}:∀(xs:U aT)(e:U Int)(a b:Int),(∀x∈xs,(bL x.bp==bL (bs []))=true)->xs.length=e.length->0<=a->ZD mem env xs e a= .ok b->
 ∃q:U Int64,Al (λ(x:aT)(n:Int64)=>db x.aU env=(n,0)) xs q/\iR e b=(q.map (·.toInt),a)/\0<=b
 |[],[],a,b,_,_,g,h=>by
  rw[ZD]at h;have h:=Except.ok.inj h;subst h;exact⟨[],.nil,rfl,g⟩
 |[],d::e,a,b,_,f,_,_=>by cases f
 |x::xs,[],a,b,_,f,_,_=>by cases f
 |x::xs,d::e,a,b,l,f,g,h=>by
  rw[ZD]at h;unfold mr at h;rw[l x Zt,Tj]at h;cases i:((db x.aU env).2 !=0)with
  |true=>rw[i]at h;cases h
  |false=>
   rw[i,Tf]at h;dsimp only at h;cases k:(decide ((db x.aU env).1.toInt<0)||decide ((db x.aU env).1.toInt>=d))with
   |true=>rw[k]at h;cases h
   |false=>
    rw[k,Tf]at h;rw[Yy,UF,UF]at k;obtain⟨o,t,u⟩:=aq5 (n:=(db x.aU env).1.toInt) (d:=d) g k7 k7;obtain⟨q,q1,v,w⟩:=abu xs e _ b (λy z=>l y (Zk _ z)) (by simpa using f) o h;refine⟨(db x.aU env).1::q,.cons (Prod.ext rfl (bne_eq_false_iff_eq.1 i)) q1,?_,w⟩;rw[iR,v];dsimp only;rw[t,u];rfl
def aaM{f:U Int->Except Int aH}{d:aF}(g:(d.cE==5)=false):∀(l:U (U Int))(a b:U aH),kh f d l a= .ok b->
 (∀i,i<a.length->b[i]?=a[i]?)/\∀i q,l[i]?=some q->∃v,f q= .ok v/\b[a.length+i]?=some v
 |[],a,b,h=>by
  rw[kh]at h;have h:=Except.ok.inj h;subst h;exact⟨λ_ _=>rfl,λi q o=>by simp at o⟩
 |q::l,a,b,h=>by
  rw[kh]at h;cases e:f q with
  |error z=>rw[e]at h;cases h
  |ok v=>
   rw[e]at h;dsimp only at h;rw[g,Bool.false_and,Tf]at h;obtain⟨k,t⟩:=aaM g l _ b h;refine⟨λi u=> ?_,λi p n=> ?_⟩;{rw[k i (by simp only[Zi,Zp,Zg];omega),ZT u]}
   ·cases i with
    |zero=>
     cases n
     refine⟨v,e,?_⟩;rw[Nat.add_zero,k _ (by simp only[Zi,Zp,Zg];omega),ZK (Zx _),Nat.sub_self];rfl
    |succ i=>
     obtain⟨w,x,y⟩:=t i p (by simpa using n);refine⟨w,x,?_⟩;rw[<-y]
     congr 1
     simp only[Zi,Zp,Zg];omega
def ajj{mem:U aO}{env:U aR}{d:aF}{q:U Int}{v:aH}(b:d.bI=[])(h:pV mem env d [] q= .ok v):∃x,dK mem (bindN (jZ d) q++env) d.aX= .ok x/\x.1=v:=by
 unfold pV Ad at h;rw[show lu [] 0 (de []).toNat=[[]]from rfl,nX]at h;unfold tT sA at h;rw[b,show bindN (List.map (λ(x:cq)=>x.ar) []) ([]:U Int)=[]from rfl,W5]at h;cases a:dK mem (bindN (jZ d) q++env) d.aX with
 |error z=>rw[a]at h;cases h
 |ok x=>
  rw[a]at h;dsimp only at h;rw[nX]at h;exact⟨x,rfl,Except.ok.inj h⟩
structure abq(env:List aR)(mem:List aO)(D:aF)(T:bo):Prop where
 ty:T.aw=D.aw
 ok:jD T=true
 WC:∀b:Int,0<=b->b<de T.aJ->∃x,dK mem (bindN (jZ D) (nC T.aJ b)++env) D.aX= .ok x/\x.2=D.aw/\T.fE[b.toNat]?=some x.1
def aqj(l:U Int):∀(n k i:Nat),i<n->(lu l k n)[i]?=some (nC l ((k+i:Nat):Int)):=by
 intro n k i h;unfold lu;rw[Zm,List.getElem?_range' h];simp
def avb{N:Nat}(k:9223372036854775808<N){p:aI}{env:U aR}(B:Bd N p)(V:VQ N p){i:Nat}{d:aF}(l:p.ax[i]?=some d)(G:iG p i d)(H:Df N d){mem:U aO}{T:bo}(h:ES N p env mem d T)(n:d.cE=0):abq env mem d T:=by
 obtain⟨o,W,t,a⟩:=h;have D:=MV k B V l G H t (by rw[a]);rw[a]at D;have u:=H.plain (by rw[n];rfl);refine⟨D.ty,D.ok,λb b0 E=> ?_⟩;have J:=D.dm;dsimp only at J;unfold mP at a;rw[D.e0,show((0:Int) !=0)=false from rfl,Tf,u,show fx env (List.map (λ(x:cq)=>x.dq) []) []=([],0)from rfl]at a;dsimp only at a;rw[show((0:Int) !=0)=false from rfl,Tf]at a;cases w:decide (de (dp p env d.ar).1*de []>65536)with
 |true=>rw[w,Tj]at a;have:=congrArg Prod.snd a;cases this
 |false=>
  rw[w,Tf]at a;cases e:o !=0 with
  |true=>
   rw[e,Tj]at a;have:o=0:=congrArg Prod.snd a;rw[this]at e;cases e
  |false=>
   rw[e,Tf]at a;have L:=t (bne_eq_false_iff_eq.1 e);cases g:kh (pV mem env d []) d (lu (dp p env d.ar).1 0 (de (dp p env d.ar).1).toNat) []with
   |error z=>
    rw[g]at a;have f:z=0:=congrArg Prod.snd a;subst f;exact absurd rfl (Gw (λq z f=>II (λq z f=>Up _ _ (Zx _) H.ev f H.cond) _ _ _ f) _ _ _ g)
   |ok M=>
    rw[g]at a;have P:(⟨d.aw,(dp p env d.ar).1,M⟩:bo)=T:=congrArg Prod.fst a;subst P;dsimp only at E ⊢;obtain⟨v,y,Q⟩:=(aaM (by rw[n];rfl) _ _ _ g).2 b.toNat _ (aqj _ _ 0 b.toNat k7);rw[show(((0+b.toNat:Nat)):Int)=b by omega]at y;obtain⟨x,C,S⟩:=ajj u y;refine⟨x,C,(adp k B V l G H L C).1,?_⟩;rw[S,<-Q,Zg,ZQ]
def alw(n:Int64):Int64.ofInt n.toInt=n:=Int64.ofInt_toInt n
def adZ{env e:U aR}{s:so}{v:Int64}:∀(A:U cq)(I:U aT)(q:U Int64),Al (λ(x:aT)(n:Int64)=>db x.aU env=(n,0)) I q->I.length=A.length->iz (bindN (A.map (·.ar)) (q.map (·.toInt))++e) s=some v->
 db (gQ A I s) env=(v,0)\/(gQ A I s=D6 s/\iz e s=some v/\cy (A.map (·.ar)) s=false)
 |[],I,q,h,d,b=>by
  cases h with
  |nil=>exact .inr ⟨rfl,b,rfl⟩
  |cons _ _=>simp at d
 |a::A,[],q,h,d,b=>by simp at d
 |a::A,x::I,q,h,d,b=>by
  cases h with
  |cons g i=>
   rename_i n q
   rw[ZY,ZY]at b;have b:iz ((⟨a.ar,Int64.ofInt n.toInt⟩:aR)::(bindN (A.map (·.ar)) (q.map (·.toInt))++e)) s=some v:=b;rw[iz]at b;dsimp only at b;rw[gQ,ZY];unfold cy;rw[Yr];cases f:bL a.ar==bL s with
   |true=>
    rw[f,Tj,alw]at b;rw[Tj,g,Zl b];exact .inl rfl
   |false=>
    rw[f,Tf]at b;rw[Tf,c6];exact adZ A I q i (by simpa using d) b
def aqO{env:U aR}{s:so}{v:Int64}(b:iO s=true)(h:iz env s=some v):db (D6 s) env=(v,0):=by
 refine adu ?_ ?_
 ·refine N7.2 ⟨?_,λm a=> ?_,λm a=> ?_⟩
  ·exact List.pairwise_singleton _ _
  ·rcases ah.1 a with rfl;exact b
  ·rcases ah.1 a with rfl;show(1:Int64).toInt≠0;decide
 ·unfold D6;rw[kH];dsimp only;rw[h];dsimp only;rw[kH]
  congr 1
  show(0:Int64).toInt+(1:Int64).toInt*v.toInt=_;rw[show(0:Int64).toInt=0 from rfl,show(1:Int64).toInt=1 from rfl];omega
section
variable {nm:so} {mem fp:U aO} {env:U aR} (K:Kp nm mem fp)
include K
def aja{x:aT}{d:Int}{n:Int64}(f:(bL x.bp==bL nm)=false)(a:mr mem env x d= .ok n):mr fp env x d= .ok n:=by
 unfold mr at a ⊢;cases e:bL x.bp==bL (bs [])with
 |true=>rw[e]at a;exact a
 |false=>
  rw[e,Tf]at a;rw[Tf];unfold gS at a ⊢;cases b:j7 mem x.bp with
  |error z=>rw[b]at a;cases a
  |ok t=>rw[K.look f b];rw[b]at a;exact a
def abr:∀(xs:U aT)(f:U Int)(a b:Int),(∀x∈xs,(bL x.bp==bL nm)=false)->ZD mem env xs f a= .ok b->ZD fp env xs f a= .ok b
 |[],f,a,b,_,e=>by rw[ZD]at e ⊢;exact e
 |x::xs,[],a,b,_,e=>by rw[ZD]at e ⊢;exact e
 |x::xs,d::f,a,b,h,e=>by
  rw[ZD]at e ⊢;cases g:mr mem env x d with
  |error z=>rw[g]at e;cases e
  |ok n=>
   rw[g]at e;rw[aja K (h x Zt) g];dsimp only at e ⊢;cases i:(decide (n.toInt<0)||decide (n.toInt>=d))with
   |true=>rw[i]at e;cases e
   |false=>
    rw[i,Tf]at e;rw[Tf];exact abr xs f _ b (λx k=>h x (Zk _ k)) e
def aoe{e:au}{a:U au}{x:aH×aQ}(k:e.aA=3->(bL e.ar==bL nm)=false)(hi:∀x∈e.xIdx,(bL x.bp==bL nm)=false)(f:e.aA=1\/e.aA=2\/e.aA=3)(d:l6 mem env e= .ok x):l6 fp env ⟨e.aA,e.ar,e.cU,e.aw,e.aU,e.xIdx,a⟩= .ok x:=by
 unfold l6 at d ⊢;dsimp only;rcases f with f|f|f
 ·rw[f]at d ⊢;exact d
 ·rw[f]at d ⊢;exact d
 ·have l:=k f;rw[f,show((3:Int)==1)=false from rfl,show((3:Int)==2)=false from rfl,Tf,Tf]at d ⊢;unfold tB at d ⊢;dsimp only;cases g:j7 mem e.ar with
  |error z=>rw[g]at d;cases d
  |ok t=>
   rw[g]at d;rw[K.look l g];dsimp only at d ⊢;cases i:((e.xIdx.length:Int) !=(t.aJ.length:Int))with
   |true=>rw[i]at d;cases d
   |false=>
    rw[i,Tf]at d;rw[Tf];cases h:ZD mem env e.xIdx t.aJ 0 with
    |error z=>rw[h]at d;cases d
    |ok b=>rw[abr K e.xIdx t.aJ 0 b hi h];rw[h]at d;exact d
end
structure Rr(S:List ByteArray)(sa env:List aR)(mem fp:List aO)(D:aF):Prop where
 at_:∀t,dY mem D.ar=some t->∃TE,abq sa TE D t/\Kp D.ar TE fp
 k:Kp D.ar mem fp
 ev:Ev D.aX
 cond:fc D.aX=false
 nr:∀y∈dx D.aX,NW D.ar (jZ D++S) y
 sz:∀s,cy S s=true->iz env s=iz sa s/\iO s=true
def ali{S:U so}{u env:U aR}{mem fp:U aO}{D:aF}(R:Rr S u env mem fp D){e e':au}(E:(bL e.ar==bL D.ar)=true)(G:∀x∈e.xIdx,(bL x.bp==bL (bs []))=true)(H:e.xIdx.length=D.aJ.length)
 {n:Nat} (h:my (gQ D.aJ e.xIdx) n D.aX= .ok e') {x:aH×aQ} (b:tB mem env e= .ok x):dK fp env e'= .ok x:=by
 have J:e.ar=D.ar:=sW (TC.1 E);unfold tB at b;cases d:j7 mem e.ar with
 |error z=>rw[d]at b;cases b
 |ok t=>
  rw[d]at b;dsimp only at b;have g:dY mem e.ar=some t:=by
    unfold j7 at d;cases q:dY mem e.ar with
    |none=>rw[q]at d;cases d
    |some y=>
     rw[q]at d;dsimp only at d;cases w:jD y with
     |false=>rw[w]at d;cases d
     |true=>rw[w]at d;rw[Except.ok.inj d]
  rw[J]at g;obtain⟨TE,P,K⟩:=R.at_ t g;have T:=FM P.ok;cases k:((e.xIdx.length:Int) !=(t.aJ.length:Int))with
  |true=>rw[k]at b;cases b
  |false=>
   rw[k,Tf]at b;have f:e.xIdx.length=t.aJ.length:=by
     have:=bne_eq_false_iff_eq.1 k;omega
   cases i:ZD mem env e.xIdx t.aJ 0 with
   |error z=>rw[i]at b;cases b
   |ok a=>
    rw[i]at b;dsimp only at b;obtain⟨q,q1,L,M⟩:=abu e.xIdx t.aJ 0 a G f k7 i;have B:=(aaw mem env e.xIdx t.aJ 0 1 k7 k7 T.sh.pos f (by have:=T.sh.le;omega) a i).2;rw[SM,cH]at B;obtain⟨y,C,Q,W⟩:=P.WC a M B;rw[W]at b;have b:=Except.ok.inj b;have e1:x=y:=by rw[<-b,P.ty,<-Q]
    subst e1;have l:nC t.aJ a=q.map (·.toInt):=by unfold nC;rw[L]
    rw[l]at C;have SB:Kv (jZ D++S) (gQ D.aJ e.xIdx) (bindN (jZ D) (q.map (·.toInt))++u) env:=⟨λs v o he=>by
      rcases adZ D.aJ e.xIdx q q1 H he with h|⟨h1,h2,h3⟩
      ·exact h
      ·rw[lL]at o;have cA:cy S s=true:=by
         have nZ:cy (jZ D) s=false:=h3;rw[nZ,c6]at o;exact o
       obtain⟨z1,z2⟩:=R.sz s cA;rw[h1];exact aqO z2 (by rw[z1];exact h2)⟩
    exact(af3 K SB n D.aX e' h R.ev R.nr).v R.cond x C
def abn{s:so}{y:au}(h:rW s y=false):(∀x∈y.xIdx,(bL x.bp==bL s)=false)/\(y.aA=3->(bL y.ar==bL s)=true->∀x∈y.xIdx,(bL x.bp==bL (bs []))=true):=by
 unfold rW at h;rw[Yy]at h;refine⟨λx a=> ?_,λb d x a=> ?_⟩
 ·have:=List.any_eq_false.1 h.1 x a
  simpa using this
 ·rw[b,d]at h;have:=List.any_eq_false.1 (show(y.xIdx.any λx=> !(bL x.bp==[]))=false from h.2) x a;have e:(bL x.bp==[])=true:=by simpa using this
  exact e
def aez{S:U so}{w env:U aR}{mem fp:U aO}{D:aF}(R:Rr S w env mem fp D):∀(n:Nat)(e e':au),jI D n e= .ok e'->Ev e->(∀y∈dx e,rW D.ar y=false)->(∀y∈dx e,y.aA=3->(bL y.ar==bL D.ar)=true->y.xIdx.length=D.aJ.length)->Sv mem fp env env e e'
 |0,e,e',h,_,_,_=>by cases h
 |n+1,e,e',h,H,u,v=>by
  have L:=H.n.lo;obtain⟨B,C⟩:=abn (u e Zt);rw[jI]at h;have rest:(e.aA=3->(bL e.ar==bL D.ar)=false)->(match dO (jI D n) e.bk with| .error x=>.error x| .ok a=>.ok ⟨e.aA,e.ar,e.cU,e.aw,e.aU,e.xIdx,a⟩:X au)= .ok e'->Sv mem fp env env e e':=λE h=>by
   cases o:dO (jI D n) e.bk with
   |error z=>rw[o]at h;cases h
   |ok a=>
    rw[o]at h;have h:=Except.ok.inj h;subst h;exact Sv.node H rfl rfl (Al.map o λx d y G=>aez R n x y G (H.arg d) (λz t=>u z (rC d t)) λz t=>v z (rC d t)) λk x d=>aoe R.k E B k7 d
  cases f:e.aA==3 with
  |false=>rw[f]at h;exact rest (λJ=>by rw[J]at f;cases f) h
  |true=>
   cases g:bL e.ar==bL D.ar with
   |false=>rw[f,g]at h;exact rest (λ_=>g) h
   |true=>
    rw[f,g]at h;have h:my (gQ D.aJ e.xIdx) (SizeOf.sizeOf D.aX+1) D.aX= .ok e':=h;have i:e.aA=3:=TC.1 f;refine⟨λl x d=> ?_,λl b d=> ?_⟩;{rw[A6 k7]at d;unfold l6 at d;rw[i]at d;exact ali R g (C i g) (v e Zt i g) h d};{unfold fc at l;rw[i]at l;exact absurd l gy}
def iB{α:Type}(c:Bool)(j:Nat):Nat->U α->U α
 |_,[]=>[]
 |k,x::r=>bif !(k==j)||c then x::iB c j (k+1) r else iB c j (k+1) r
def agx(c:Bool)(j:Nat):∀(k:Nat)(r:U aF),nk c j k r=iB c j k r
 |_,[]=>rfl
 |k,x::r=>by rw[nk,iB,agx c j (k+1) r]
def iL(c:Bool)(j k n:Nat):Nat:=bif c||(decide (j<k)||decide (k+n<j))then n else n+1
def ac6{c:Bool}{j k n:Nat}(h:j<k):iL c j k n=n:=by unfold iL;rw[eD h,Bool.true_or,Bool.or_true,Tj]
def abX{j n:Nat}:iL false j j n=n+1:=by
 unfold iL;rw[Zn k7,Zn k7];rfl
def aai{c:Bool}{j k:Nat}(h:c=true\/k≠j):iL c j k 0=0:=by
 unfold iL;rcases h with rfl|h
 ·rfl
 ·by_cases a:j<k
  ·rw[eD a,Bool.true_or,Bool.or_true,Tj]
  ·rw[eD (show k+0<j by omega),Bool.or_true,Bool.or_true,Tj]
def ahu{c:Bool}{j k n:Nat}(h:c=true\/k≠j):iL c j k (n+1)=iL c j (k+1) n+1:=by
 unfold iL;rcases h with rfl|h
 ·rfl
 ·have a:decide (j<k+1)=decide (j<k):=decide_eq_decide.2 k7;have b:decide (k+1+n<j)=decide (k+(n+1)<j):=decide_eq_decide.2 k7;rw[a,b];cases c||(decide (j<k)||decide (k+(n+1)<j))<;>rfl
def akS(c:Bool)(j k n:Nat):n<=iL c j k n:=by unfold iL;cases c||(decide (j<k)||decide (k+n<j))<;>simp
def aib{c:Bool}{j k:Nat}(h:(!(k==j)||c)=true):c=true\/k≠j:=by
 cases c with
 |true=>exact .inl rfl
 |false=>
  rw[Bool.or_false,UC,Tn]at h;exact .inr h
def QJ{c:Bool}{j k:Nat}(h:(!(k==j)||c)=false):c=false/\k=j:=by
 rw[Yy,Bool.not_eq_false',TC]at h;exact⟨h.2,h.1⟩
def Nd{α:Type}{c:Bool}{j:Nat}:∀(L:U α)(k n:Nat)(x:α),(iB c j k L)[n]?=some x->L[iL c j k n]?=some x/\(c=true\/k+iL c j k n≠j)
 |[],k,n,x,h=>by rw[iB]at h;simp at h
 |y::L,k,n,x,h=>by
  rw[iB]at h;cases e: !(k==j)||c with
  |true=>
   rw[e,Tj]at h;have b:=aib e;cases n with
   |zero=>rw[aai b];exact⟨h,b.imp_right λh=>by omega⟩
   |succ n=>
    obtain⟨a,d⟩:=Nd L (k+1) n x (by simpa using h);rw[ahu b];exact⟨by simpa using a,d.imp_right λh=>by omega⟩
  |false=>
   rw[e,Tf]at h;obtain⟨rfl,rfl⟩:=QJ e;obtain⟨a,_⟩:=Nd L (k+1) n x h;rw[ac6 k7]at a;rw[abX];exact⟨by simpa using a,.inr k7⟩
def Lm{α β:Type}(f:α->β){c:Bool}{j:Nat}:∀(L:U α)(k:Nat),(iB c j k L).map f=iB c j k (L.map f)
 |[],_=>rfl
 |y::L,k=>by
  rw[ZY,iB,iB];cases !(k==j)||c with
  |true=>rw[Tj,Tj,ZY,Lm f L]
  |false=>exact Lm f L (k+1)
def ag6{α:Type}{c:Bool}{j:Nat}:∀(L:U α)(k:Nat),(iB c j k L).length<=L.length
 |[],_=>Zx _
 |y::L,k=>by
  rw[iB];have:=ag6 (c:=c) (j:=j) L (k+1);cases !(k==j)||c<;>simp only[Tj,Tf,Zp]<;>omega
def J4{c:Bool}{j:Nat}{t:so}:∀(L:U aO)(k n:Nat),(c=true\/∀i a,L[i]?=some a->k+i=j->(bL a.ar==bL t)=false)->dY ((iB c j k L).take n) t=dY (L.take (iL c j k n)) t
 |[],k,n,_=>by rw[iB,List.take_nil,List.take_nil]
 |y::L,k,n,h=>by
  have b:c=true\/∀i a,L[i]?=some a->(k+1)+i=j->(bL a.ar==bL t)=false:=h.imp_right λh i a f e=>h (i+1) a (by simpa using f) k7;rw[iB];cases e: !(k==j)||c with
  |true=>
   have d:=aib e;rw[Tj];cases n with
   |zero=>rw[aai d];rfl
   |succ n=>rw[ahu d,List.take_succ_cons,List.take_succ_cons,dY,dY,J4 L (k+1) n b]
  |false=>
   obtain⟨rfl,rfl⟩:=QJ e;have g:(bL y.ar==bL t)=false:=by
    rcases h with h|h
    ·cases h
    ·exact h 0 y rfl k7
   rw[Tf,abX,List.take_succ_cons,dY,g,Tf,J4 L (k+1) n b,ac6 k7]
def aou{c:Bool}{j:Nat}{t:so}(L:U aO)(h:c=true\/∀i a,L[i]?=some a->i=j->(bL a.ar==bL t)=false):dY (iB c j 0 L) t=dY L t:=by
 have:=J4 (c:=c) (j:=j) (t:=t) L 0 L.length (h.imp_right λh i a b e=>h i a b k7);rw[List.take_of_length_le (ag6 L 0),List.take_of_length_le (akS c j 0 L.length)]at this;exact this
structure Hd(D x y:aF):Prop where
 n:y.ar=x.ar
 t:y.aw=x.aw
 d:y.aJ=x.aJ
 r:y.bI=x.bI
 f:y.cE=x.cE
 b:jI D (SizeOf.sizeOf x.aX+1) x.aX= .ok y.aX
def ajy{D:aF}{l r:U aF}(h:dO (mS D) l= .ok r):Al (Hd D) l r:=Al.map h λx _ y a=>by
 unfold mS at a;cases e:jI D (SizeOf.sizeOf x.aX+1) x.aX with
 |error z=>rw[e]at a;cases a
 |ok b=>
  rw[e]at a;have a:=Except.ok.inj a;subst a;exact⟨rfl,rfl,rfl,rfl,rfl,e⟩
def akc{α β:Type}{P:α->β->Prop}{l:U α}{r:U β}(h:Al P l r):∀{i:Nat}{y:β},r[i]?=some y->∃x,l[i]?=some x/\P x y:=by
 induction h with
 |nil=>intro i y a;simp at a
 |cons b _ d=>
  intro i y a;cases i with
  |zero=>cases a;exact⟨_,rfl,b⟩
  |succ i=>obtain⟨x,e,f⟩:=d (by simpa using a);exact⟨x,by simpa using e,f⟩
def NT:O aF->aQ×U aK×Bool
 |some d=>(d.aw,d.aJ.map (·.dq),true)
 |none=>(gU,[],false)
def aju{D:aF}{c:Bool}{j:Nat}{s:so}{L r:U aF}(h:Al (Hd D) L r):∀k:Nat,(c=true\/∀i a,L[i]?=some a->k+i=j->eW s a=false)->NT ((iB c j k r).find? (eW s))=NT (L.find? (eW s)):=by
 induction h with
 |nil=>intro k _;rfl
 |cons f z u=>
  rename_i x y l r
  intro k o;have v:c=true\/∀i a,l[i]?=some a->(k+1)+i=j->eW s a=false:=o.imp_right λh i a b e=>h (i+1) a (by simpa using b) k7;have b:=u (k+1) v;have g:eW s y=eW s x:=by unfold eW;rw[f.n]
  rw[iB];cases e: !(k==j)||c with
  |true=>
   rw[Tj,List.find?_cons,List.find?_cons,g];cases eW s x with
   |true=>show(y.aw,y.aJ.map (·.dq),true)=_;rw[f.t,f.d];rfl
   |false=>exact b
  |false=>
   obtain⟨rfl,rfl⟩:=QJ e;have w:eW s x=false:=by
    rcases o with h|h
    ·cases h
    ·exact h 0 x rfl k7
   rw[Tf,List.find?_cons,w];exact b
def ae3(P:U cl)(D:U aF)(s:so):dt P D s=match P.find? (λx=>bL x.ar==bL s)with|some x=>(x.aw,x.aJ,true)|none=>NT (D.find? (eW s)):=by
 unfold dt NT;cases P.find? (λx=>bL x.ar==bL s)<;>rfl
def aiz{p q:aI}{s:so}(h:dt q.aS q.ax s=dt p.aS p.ax s)(env:U aR):dp q env s=dp p env s:=by
 unfold dp;rw[h]
def QK{p:aI}(G:∀i d,p.ax[i]?=some d->iG p i d){i k:Nat}{a b:aF}(f:p.ax[i]?=some a)(g:p.ax[k]?=some b)(e:a.ar=b.ar):i=k:=by
 have h:∀{i k:Nat}{a b:aF},p.ax[i]?=some a->p.ax[k]?=some b->a.ar=b.ar->¬i<k:=fun{i k a b} f g e l=>by
  have:=(G k b g).Ia;rw[qT.2 (UZ.2 ⟨a,List.mem_iff_getElem?.2 ⟨i,by rw[List.getElem?_take_of_lt l];exact f⟩,e⟩)]at this;cases this
 have n:=h f g e;have o:=h g f e.symm;omega
def WD{s:so}(e:U aR):∀(names:U so)(q:U Int),cy names s=false->iz (bindN names q++e) s=iz e s
 |[],q,_=>rfl
 |n::names,[],_=>rfl
 |n::names,v::q,h=>by
  unfold cy at h;rw[Yr,Yy]at h;show iz ((⟨n,Int64.ofInt v⟩:aR)::(bindN names q++e)) s=_;rw[iz];dsimp only;rw[h.1,Tf];exact WD e names q h.2
def abQ(S:U so):∀(l:U cq)(d:U so),p9 S d l=0->∀a∈l,cy S a.ar=false
 |[],_,_,_,h=>by cases h
 |a::l,d,h,b,g=>by
  rw[p9]at h;cases e:ja (S++d) a.ar !=0 with
  |true=>rw[e,Tj]at h;rw[h]at e;cases e
  |false=>
   rw[e,Tf]at h;cases f:jA S a.dq !=0 with
   |true=>rw[f,Tj]at h;rw[h]at f;cases f
   |false=>
    rw[f,Tf]at h;have i:=(CG (gw e)).2;rw[lL,Yy]at i;rcases Za.1 g with rfl|g
    ·exact i.1
    ·exact abQ S l _ h b g
def amY{p:aI}{k:Nat}{d:aF}(G:iG p k d){s:so}(g:cy p.bj s=true):cy (jZ d) s=false/\cy (sA d) s=false:=by
 have f:∀l:U cq,(∀a∈l,a∈d.aJ++d.bI)->cy (l.map (·.ar)) s=false:=λl i=>by
  cases e:cy (l.map (·.ar)) s with
  |false=>rfl
  |true=>
   obtain⟨a,b,h⟩:=UZ.1 (qT.1 e);have:=abQ p.bj _ [] G.Uz a (i a b);rw[h,g]at this;cases this
 exact⟨f d.aJ λa b=>aq _ b,f d.bI λa b=>aa _ b⟩
def afo{S:U so}:∀(l T:U so),qm T l=0->∀s∈l,iO s=true
 |[],_,_,s,h=>by cases h
 |x::l,T,h,s,b=>by
  rw[qm]at h;cases a:ja T x !=0 with
  |true=>rw[a,Tj]at h;rw[h]at a;cases a
  |false=>
   rw[a,Tf]at h;rcases Za.1 b with rfl|b
   ·exact(CG (gw a)).1
   ·exact afo (S:=S) l _ h s b
def alK{p:aI}{k:Nat}{d:aF}(g:iG p k d){nm:so}(B:∀y∈dx d.aX,rW nm y=false)(C:∀y∈dx d.aX,y.aA=3->(bL y.ar==bL nm)=false):∀y∈dx d.aX,NW nm (rf d++p.bj) y:=λy b=>by
 obtain⟨n,_,_,_,L⟩:=A2 (xX g.body y b);unfold qN at n;simp only[Zo,TC,UL,Zc,bh]at n;obtain⟨_,_,_,_,E,G,H⟩:=n;have z:∀{l:aK},uu l=true->Bx (rf d++p.bj) l:=fun{l} h m t=>by
  rw[alj h]at t;cases t
 refine⟨C y b,?_,λx e=> ?_⟩
 ·rcases E with h|h
  ·exact VR.1 (g.q6 y b h)
  ·exact z h
 ·have J:y.aA=3:=by
   rcases G with h|⟨_,h⟩
   ·exact h
   ·rw[VC h]at e;cases e
  have a:=ab3 (g.reads y b J) x e;have f:=H x e;unfold rG at a;unfold td at f;refine⟨(abn (B y b)).1 x e,?_,?_⟩
  ·cases i:bL x.bp==[]with
   |true=>rw[i,Tj]at a;exact VR.1 a
   |false=>rw[i,Tf]at f;exact z f
  ·intro l o;cases i:bL x.bp==[]with
   |true=>
    rw[i,Tj]at f;rw[VC (TC.1 f)]at o;cases o
   |false=>
    rw[i,Tf]at a;cases u:(dt p.aS (p.ax.take k) x.bp).2.2 with
    |false=>rw[u]at a;cases a
    |true=>
     rw[u,Tj]at a;cases v:(dt p.aS (p.ax.take k) x.bp).1.bt !=3 with
     |true=>rw[v]at a;cases a
     |false=>
      rw[v,Tf]at a;cases w:x.bC.length==(dt p.aS (p.ax.take k) x.bp).2.1.length with
      |false=>rw[w]at a;cases a
      |true=>rw[w,Tj]at a;exact VR.1 (KJ a l o)
def aer{N:Nat}{p:aI}{env:U aR}(W:Lr N p env){ins m all:U aO}(R:pL N p env ins m all):sN N p env ins=some (pn p (m++all),0):=by
 have n:=W.hN;have t:=W.q;have u:=W.d;have v:=W.o;have w:m.length=p.aS.length:=by have:=congrArg List.length R.mn;simpa using this
 have f:xc N p env p.ax 0 m=some (m++all,0):=afp W R.V R.G p.ax 0 m all rfl k7 R.an R.made;have i:Hn (m++all):=λa b=>by
  rcases ZM.1 b with b|b
  ·exact(R.ins a b).2.2
  ·obtain⟨k,g⟩:=List.getElem?_of_mem b;have x:all.length=p.ax.length:=by have:=congrArg List.length R.an;simpa using this
   obtain⟨y,_⟩:=Zj.1 g;obtain⟨d,e⟩:∃d,p.ax[k]?=some d:=⟨_,Zd k7⟩;obtain⟨B,C,l,h⟩:=R.made k a d g e;have D:=MV W.hN W.bd R.V e (R.G k d e) (W.df R.V e (R.G k d e)) l (by rw[h]);rw[h]at D;exact adl D.ok
 have z:((0:Int) !=0)=false:=rfl;unfold sN OH HA;rw[R.cs,re,z,Tf,R.RA,re];dsimp only;rw[z,Tf,f,re];dsimp only;rw[z,Tf];exact Wo N (m++all,0) i p.cB 0 [] (by simp only[Zg];omega)
def aiY{p q:aI}{env:U aR}{mem fp:U aO}{x y:aF}{T:bo}(E:∀z,dK mem (z++env) x.aX= .error 0->False)(G:y.ar=x.ar)(o:y.aw=x.aw)(H:y.aJ=x.aJ)(t:y.bI=x.bI)(u:y.cE=x.cE)(J:dp q env x.ar=dp p env x.ar)
 (L:∀a b v,dK mem (bindN (sA x) b++(bindN (jZ x) a++env)) x.aX= .ok v->dK fp (bindN (sA x) b++(bindN (jZ x) a++env)) y.aX= .ok v) (h:mP p env mem x 0=(T,0)):mP q env fp y 0=(T,0):=by
 unfold mP at h ⊢;rw[G,J,t,o];cases k:((dp p env x.ar).2.2 !=0)with
 |true=>rw[k,Tj]at h;have h:(dp p env x.ar).2.2=0:=congrArg Prod.snd h;rw[h]at k;cases k
 |false=>
  rw[k,Tf]at h;rw[Tf];cases l:((fx env (x.bI.map (·.dq)) []).2 !=0)with
  |true=>rw[l,Tj]at h;have h:(fx env (x.bI.map (·.dq)) []).2=0:=congrArg Prod.snd h;rw[h]at l;cases l
  |false=>
   rw[l,Tf]at h;rw[Tf];cases w:decide (de (dp p env x.ar).1*de (fx env (x.bI.map (·.dq)) []).1>65536)with
   |true=>rw[w,Tj]at h;cases h
   |false=>
    rw[w,Tf]at h;rw[Tf];rw[show((0:Int) !=0)=false from rfl,Tf]at h ⊢;cases n:kh (pV mem env x (fx env (x.bI.map (·.dq)) []).1) x (lu (dp p env x.ar).1 0 (de (dp p env x.ar).1).toNat) []with
    |error z=>
     rw[n]at h;have h:z=0:=congrArg Prod.snd h;subst h;refine absurd rfl (Gw (λa z i=>II (λb z i=> ?_) _ _ _ i) _ _ _ n);rintro rfl;unfold tT at i;rw[<-ZU]at i;exact E _ i
    |ok Q=>
     rw[n]at h;have:=Rb (f:=pV mem env x (fx env (x.bI.map (·.dq)) []).1) (d:=x) (g:=pV fp env y (fx env (x.bI.map (·.dq)) []).1) (e:=y) u.symm o.symm (λa v B=>by
       unfold pV Ad at B ⊢;refine SL (f:=tT mem (bindN (jZ x) a++env) x) (g:=tT fp (bindN (jZ y) a++env) y) (d:=x) (e:=y) u.symm o.symm (λb v C=> ?_) _ _ v B;unfold tT at C ⊢;have M:jZ y=jZ x:=by unfold jZ;rw[H]
       have P:sA y=sA x:=by unfold sA;rw[t]
       rw[M,P];exact L a b v C) _ _ _ n
     rw[this];exact h
def abL{N:Nat}{p:aI}{env:U aR}{ins m all:U aO}(R:pL N p env ins m all){i:Nat}{a:aO}(f:all[i]?=some a):∃d,p.ax[i]?=some d/\d.ar=a.ar:=by
 have b:(all.map (·.ar))[i]?=some a.ar:=by rw[Zm,f];rfl
 rw[R.an,Zm]at b;cases e:p.ax[i]? with
 |none=>rw[e]at b;cases b
 |some d=>rw[e]at b;exact⟨d,rfl,Zl b⟩
def am1{D:aF}{l r:U aF}(h:Al (Hd D) l r):r.map (·.ar)=l.map (·.ar):=by
 induction h with
 |nil=>rfl
 |cons a _ b=>rw[ZY,ZY,b,a.n]
structure Nx(N:Nat)(p q:aI)(env:List aR)(c:Bool)(j:Nat)(D:aF)(r:List aF):Prop where
 W:Lr N p env
 W':Lr N q env
 hD:p.ax[j]?=some D
 fold:D.cE=0
 bad:∀d∈p.ax,∀y∈dx d.aX,rW D.ar y=false
 len:∀d∈p.ax,∀y∈dx d.aX,y.aA=3->(bL y.ar==bL D.ar)=true->y.xIdx.length=D.aJ.length
 al:Al (Hd D) p.ax r
 eq:q=⟨p.bj,p.cO,p.aS,nk c j 0 r,p.cB⟩
 V':VQ N q
 G':∀i d,q.ax[i]?=some d->iG q i d
 val:∃a,tn N q=some (a,0)
 cs:vW p env=0
 out:c=true\/cy p.cB D.ar=false
section
variable {N:Nat} {p q:aI} {env:U aR} {c:Bool} {j:Nat} {D:aF} {r:U aF} (X:Nx N p q env c j D r) {ins m all:U aO} (R:pL N p env ins m all)
include X
def Nx.defs:q.ax=iB c j 0 r:=by rw[X.eq,<-agx]
def Nx.wG:q.aS=p.aS:=by rw[X.eq]
def Nx.iu{s:so}(h:c=true\/s≠D.ar):dp q env s=dp p env s:=by
 refine aiz ?_ env;rw[ae3,ae3,X.wG,X.defs];cases p.aS.find? (λx=>bL x.ar==bL s)with
 |some x=>rfl
 |none=>
  refine aju X.al 0 (h.imp_right λh i a b e=> ?_);have e:i=j:=by omega
  subst e;rw[X.hD]at b;cases b
  unfold eW;rw[Tn];exact λe=>h (sW e).symm
def Nx.get{n:Nat}{y:aF}(h:q.ax[n]?=some y):∃x,p.ax[iL c j 0 n]?=some x/\Hd D x y/\(c=true\/iL c j 0 n≠j):=by
 rw[X.defs]at h;obtain⟨a,b⟩:=Nd r 0 n y h;obtain⟨x,d,e⟩:=akc X.al a;exact⟨x,d,e,b.imp_right λh=>by omega⟩
include R
def Nx.cut{t:so}(h:c=true\/t≠D.ar):c=true\/∀i a,all[i]?=some a->i=j->(bL a.ar==bL t)=false:=h.imp_right λh i a f e=>by
 subst e;obtain⟨d,b,g⟩:=abL R f;rw[X.hD]at b;cases b
 rw[Tn];exact λe=>h (by rw[g];exact(sW e).symm)
def Nx.find{t:so}(h:c=true\/t≠D.ar)(n:Nat):dY (m++(iB c j 0 all).take n) t=dY (m++all.take (iL c j 0 n)) t:=by
 rw[uV,uV,J4 all 0 n ((Nx.cut X R h).imp_right λh i a b e=>h i a b k7)]
def Nx.kp(n:Nat):Kp D.ar (m++all.take (iL c j 0 n)) (m++(iB c j 0 all).take n):=⟨λs t a h=>by
 rw[Nx.find X R (.inr λe=>by rw[e,Z3]at a;cases a)];exact h⟩
def Nx.own{n i:Nat}{t:bo}(h:dY (m++all.take i) D.ar=some t):∃a,all[j]?=some a/\a.gg=t/\j<i:=by
 have u:=R.G j D X.hD;rw[uV]at h;have v:dY m D.ar=none:=Vn λb w e=>by
  have:b.ar∈p.aS.map (·.ar):=by rw[<-R.mn];exact UZ.2 ⟨b,w,rfl⟩
  have g:=u.par;rw[qT.2 (e▸this)]at g;cases g
 rw[v,Option.none_or]at h;obtain⟨a,x,a1,a2⟩:=ID h;obtain⟨k,f⟩:=List.getElem?_of_mem x;have l:k<i:=by
   have:=(Zj.1 f).1;rw[b6]at this;omega
 have o:all[k]?=some a:=by rw[List.getElem?_take_of_lt l]at f;exact f
 obtain⟨d,y,z⟩:=abL R o;have e:k=j:=QK R.G y X.hD (z.trans (sW a2));subst e;exact⟨a,o,a1,l⟩
def Nx.rr{n:Nat}{x:aF}{i:Nat}(hi:i=iL c j 0 n)(z:p.ax[i]?=some x)(a b:U Int):Rr p.bj env (bindN (sA x) b++(bindN (jZ x) a++env)) (m++all.take i) (m++(iB c j 0 all).take n) D:=by
 subst hi;have B:=X.W.hN;have d:=R.G j D X.hD;have HD:=X.W.df R.V X.hD d;have l:=ZZ X.hD;have o:D.bI=[]:=HD.plain (by rw[X.fold];rfl);have C:rf D=jZ D:=by unfold rf jZ;rw[o,ZW]
 refine⟨λt E=> ?_,Nx.kp X R n,HD.ev,HD.cond,?_,λs k=> ?_⟩
 ·obtain⟨y,H,J,y3⟩:=Nx.own (n:=n) X R E;have M:=R.made j y D H X.hD;rw[J]at M;refine⟨m++all.take j,avb B X.W.bd R.V X.hD d HD M X.fold,⟨λs u k L=>(Nx.kp X R n).f s u k ?_⟩⟩;have e:all.take (iL c j 0 n)=all.take j++(all.take (iL c j 0 n)).drop j:=by
   have:=Yl j (all.take (iL c j 0 n));rw[List.take_take,Nat.min_eq_left k7]at this;exact this.symm
  rw[e,<-ZU,uV,L];rfl
 ·rw[<-C];refine alK d (X.bad D l) λy P Q=> ?_;rw[Tn];intro e;obtain⟨q1,_,_⟩:=agC (d.reads y P Q);rw[sW e]at q1;rcases SZ q1 with⟨w,v,h⟩|⟨w,v,h⟩
  ·have g:=d.par;rw[qT.2 (UZ.2 ⟨w,v,h⟩)]at g;cases g
  ·have g:=d.Ia;rw[qT.2 (UZ.2 ⟨w,v,h⟩)]at g;cases g
 ·obtain⟨T,f2⟩:=amY (R.G _ x z) k;refine⟨by rw[WD _ _ _ f2,WD _ _ _ T],afo (S:=[]) _ _ R.V.names s (qT.1 k)⟩
def Nx.made{n:Nat}{a:aO}{y:aF}(ha:(iB c j 0 all)[n]?=some a)(J:q.ax[n]?=some y):ES N q env (m++(iB c j 0 all).take n) y a.gg:=by
 have hN:=X.W.hN;obtain⟨o,_⟩:=Nd all 0 n a ha;obtain⟨x,l,B,x3⟩:=X.get J;have gx:=R.G _ x l;have Hx:=X.W.df R.V l gx;have o7:=ZZ l;obtain⟨rx,rc,r0,i⟩:=R.made _ a x o l;have BW:rx=0:=by
  have:=(MV hN X.W.bd R.V l gx Hx r0 (by rw[i])).e0;unfold mP at i;rw[this,show((0:Int) !=0)=false from rfl,Tf]at i;cases C:((fx env (x.bI.map (·.dq)) []).2 !=0)with
  |true=>rw[C,Tj]at i;have h:(fx env (x.bI.map (·.dq)) []).2=0:=congrArg Prod.snd i;rw[h]at C;cases C
  |false=>
   rw[C,Tf]at i;cases E:decide (de (dp p env x.ar).1*de (fx env (x.bI.map (·.dq)) []).1>65536)with
   |true=>rw[E,Tj]at i;have:=congrArg Prod.snd i;cases this
   |false=>
    rw[E,Tf]at i;cases h4:rx !=0 with
    |true=>rw[h4,Tj]at i;exact congrArg Prod.snd i
    |false=>exact bne_eq_false_iff_eq.1 h4
 subst BW;have L:=X.G' n y J;have Hy:=X.W'.df X.V' J L;have nm:∀s,((∃u∈q.aS,u.ar=s)\/∃e∈q.ax.take n,e.ar=s)->(c=true\/s≠D.ar)/\((∃u∈p.aS,u.ar=s)\/∃e∈p.ax.take (iL c j 0 n),e.ar=s):=λs M=>by
  rcases M with⟨u,Q,e⟩|⟨e,he,h⟩
  ·rw[X.wG]at Q;refine⟨.inr λS=> ?_,.inl ⟨u,Q,e⟩⟩;have g:=(R.G j D X.hD).par;rw[qT.2 (UZ.2 ⟨u,Q,e.trans S⟩)]at g;cases g
  ·obtain⟨k,T⟩:=List.getElem?_of_mem he;have H:k<n:=by
    have:=(Zj.1 T).1;rw[b6]at this;omega
   rw[List.getElem?_take_of_lt H]at T;obtain⟨w,w1,w2,w3⟩:=X.get T;have a8:iL c j 0 k<iL c j 0 n:=by
     unfold iL;cases c with
     |true=>exact H
     |false=>
      rw[Zn (show ¬j<0 by omega)];by_cases o:0+k<j;{rw[eD o];show k<_;cases (false||(false||decide (0+n<j)))<;>simp<;>omega};{rw[Zn o,Zn (show ¬0+n<j by omega)];show k+1<n+1;omega}
   refine⟨w3.imp_right λE S=>E ?_,.inr ⟨w,List.mem_iff_getElem?.2 ⟨iL c j 0 k,by rw[List.getElem?_take_of_lt a8];exact w1⟩,by rw[<-w2.n];exact h⟩⟩;exact QK R.G w1 X.hD (by rw[<-w2.n,h,S])
 have ask:∀s∈rk y.aX,uw N q env (m++(iB c j 0 all).take n) s:=λs M=>by
  obtain⟨o,C⟩:=nm s (apu L s M);have hl:iL c j 0 n<=p.ax.length:=by have:=(Zj.1 l).1;omega
  have A:=afM X.W R _ hl s C;unfold uw at A ⊢;rw[X.iu o,Qr N (Nx.find X R o n)];exact A
 have cr:tD N q env (m++(iB c j 0 all).take n) y.aX=some 0:=(ajn k7 X.W'.bd L.body).2 ask;obtain⟨z,z1,z2⟩:=ahO N k7 q env (m++(iB c j 0 all).take n) X.W'.bd.P X.W'.bd.D y (X.W'.rd y (ZZ J) L.body);rw[cr]at z1;cases z1
 refine⟨0,cr,z2,aiY (p:=p) (x:=x) (λw hw=> ?_) B.n B.t B.d B.r B.f (X.iu (x3.imp_right λE e=>E (QK R.G l X.hD e))) (λu v w hw=> ?_) i⟩;{exact absurd rfl (Up _ _ (Zx _) Hx.ev hw Hx.cond)};{exact(aez (Nx.rr X R rfl l u v) _ x.aX y.aX B.b Hx.ev (X.bad x o7) (X.len x o7)).v Hx.cond w hw}
def ag1(b:2147483648<N):∀(l:U cl)(k:Nat)(a:U aO),(∀u∈l,u∈p.aS)->lC N q env ins l k a=lC N p env ins l k a
 |[],k,a,_=>rfl
 |u::l,k,a,h=>by
  have d:=λa=>ag1 b l (k+1) a λv f=>h v (Zk _ f);have i:c=true\/u.ar≠D.ar:= .inr λe=>by
   have g:=(R.G j D X.hD).par;rw[qT.2 (UZ.2 ⟨u,h u Zt,e⟩)]at g;cases g
  rw[lC,lC,yP N b q env u.ar X.W'.bd.P X.W'.bd.D,yP N b p env u.ar X.W.bd.P X.W.bd.D,X.iu i];unfold u7;simp only[d]
def Nx.run:pL N q env ins m (iB c j 0 all):=by
 have k:=X.W.hN;obtain⟨a,f⟩:=X.val;have b:q.bj=p.bj:=by rw[X.eq]
 have e:q.cO=p.cO:=by rw[X.eq]
 refine⟨X.V',X.G',?_,?_,by rw[X.wG];exact R.mn,?_,R.ins,λn a d g h=>Nx.made X R g h⟩
 ·unfold BL;rw[f,agq N k7 env q X.W'.wh,re];show some (vW q env)=some 0;have:vW q env=vW p env:=by unfold vW;rw[b,e]
  rw[this,X.cs]
 ·rw[X.wG,ag1 X R k7 p.aS 0 [] λu i=>i];exact R.RA
 ·rw[X.defs,Lm,Lm,R.an,am1 X.al]
def Nx.outs:pn q (m++iB c j 0 all)=pn p (m++all):=by
 have a:q.cB=p.cB:=by rw[X.eq]
 unfold pn;rw[a];refine Z5 λs b=> ?_;have d:c=true\/s≠D.ar:=X.out.imp_right λh e=>by
  rw[qT.2 (e▸b)]at h;cases h
 unfold rB;rw[uV,uV,aou all (Nx.cut X R d)]
end
def atL{N:Nat}{p r:aI}(d:2147483648<N)(B:Bd N p){s:so}(h:qk N p s=some (r,0)):BG N p s=some 0:=by
 obtain⟨z,b,_⟩:=U4 d B s;unfold qk at h;rw[b,re]at h;cases a:z !=0 with
 |true=>
  rw[a,Tj]at h;have:z=0:=congrArg Prod.snd (Zl h);rw[this]at a;cases a
 |false=>rw[b,bne_eq_false_iff_eq.1 a]
def apN{e:au}(h:ph e)(d:lW e=0):Ev e:=
 have b:1000000<=4611686018427387904:=by decide
 ⟨λy a=>xX d y a,λy a=>⟨Ze (h y a).iN b,λx f=>
  have B:=(h y a).each x f
  ⟨Ze B.iN b,λl g=>Ze (B.q6 l g) b⟩⟩⟩
def acD{p:aI}{s:so}{d:aF}(h:d∈(nO p s).ax):d∈lP p s:=by
 unfold nO at h;dsimp only at h;cases a:p.ax.findIdx? (eW s)with
 |none=>rw[a]at h;cases h
 |some j=>rw[a]at h;exact Ul _ _ _ _ _ h
def apj{N:Nat}{p:aI}{env:U aR}(W:Lr N p env){s:so}(B:Bc N (nO p s))(e:∀d∈(nO p s).ax,3*SizeOf.sizeOf d.aX<N):Lr N (nO p s) env:=
 ⟨W.hN,B.b,W.wh,W.env,W.q,B.b.d,W.o,e,λd h a=>apN (B.E d h).1 a,λd h a=>ack a⟩
def acE{N:Nat}{p:aI}{env:U aR}(W:Lr N p env)(B:Bc N p)(hS:p.bj.length<=64){s:so}(J:∀d∈lP p s,3*SizeOf.sizeOf d.aX+2<N){ins m all:U aO}(R:pL N p env ins m all){r:aI}(h:qk N p s=some (r,0)):
 r=nO p s/\Bc N r/\Lr N r env/\∃L,pL N r env ins m L/\pn r (m++L)=pn p (m++all):=by
 have hN:=W.hN;obtain⟨r',x,M,o3,o4,_⟩:=R2 k7 B s hS λd f=>by have:=J d f;omega
 rw[h]at M;have e:=Zl M;have e1:r=r':=congrArg Prod.fst e;have e2:(0:Int)=x:=congrArg Prod.snd e;subst e1;subst e2;obtain⟨v,w,Br,Gr,C⟩:=o4 rfl;have hc:=atL k7 B.b h;obtain⟨z,P,c3⟩:=U4 (N:=N) k7 B.b s;rw[hc]at P;obtain⟨Q,j,D,t,g,E,f1,f2⟩:=c3 (Zl P).symm;have S:s=D.ar:=by
   unfold eW at E;exact(sW (TC.1 E)).symm
 have gD:=Q j D g;have T:p.ax.find? (eW s)=some D:=by
  rcases zB (eW s) p.ax with⟨n,_⟩|⟨k,e,n,h3,h4,_⟩
  ·rw[t]at n;cases n
  ·rw[t]at n;cases n;rw[g]at h3;cases h3;exact h4
 have u:∃dr,dO (mS D) p.ax= .ok dr:=by
  cases e:dO (mS D) p.ax with
  |ok dr=>exact⟨dr,rfl⟩
  |error z=>
   have:lP p s=[]:=by unfold lP;rw[T];dsimp only;rw[e]
   rw[this]at w;have h0:p.ax=[]:=by
     cases hp:p.ax with
     |nil=>rfl
     |cons a l=>rw[hp]at w;cases w
   rw[h0]at g;simp at g
 obtain⟨dr,u⟩:=u;have M0:lP p s=dr:=by unfold lP;rw[T];dsimp only;rw[u]
 have hq:r=⟨p.bj,p.cO,p.aS,nk (cy p.cB s) j 0 dr,p.cB⟩:=by
  rw[v];unfold nO;rw[t,M0]
 have W':Lr N r env:=by
  rw[v]at Br ⊢;exact apj W Br λd f=>by have:=J d (acD f);omega
 obtain⟨a,ha⟩:=C;obtain⟨a2,y,v1,v2,_⟩:=CO (N:=N) k7 Br.b;rw[ha]at v1;cases Zl v1
 have V':=agU k7 Br.b v2;obtain⟨x,Yo,G⟩:=abz N k7 p env W.bd W.wh;have cs:=(G (by rw[R.cs]at Yo;exact(Zl Yo).symm)).1;have H:∀d∈p.ax,∀y∈dx d.aX,rW D.ar y=false:=λd f y hy=>by
  rw[<-S];cases e:rW s y with
  |false=>rfl
  |true=>
   have:FG s p.ax=true:=List.any_eq_true.2 ⟨d,f,List.any_eq_true.2 ⟨y,hy,e⟩⟩;rw[f2]at this;cases this
 have o:∀d∈p.ax,∀y∈dx d.aX,y.aA=3->(bL y.ar==bL D.ar)=true->y.xIdx.length=D.aJ.length:=λd f=>by
  obtain⟨i,eK⟩:=List.getElem?_of_mem f;exact ah0 t g E gD (Q i d eK)
 have Kw:cy p.cB s=true\/cy p.cB D.ar=false:=by
  rw[<-S];cases cy p.cB s with
  |true=>exact .inl rfl
  |false=>exact .inr rfl
 have X:Nx N p r env (cy p.cB s) j D dr:=⟨W,W',g,f1,H,o,ajy u,hq,V',Gr,⟨a,ha⟩,cs,Kw⟩;exact⟨v,Br,W',_,Nx.run X R,Nx.outs X R⟩
def ach(N:Nat):∀(d:Nat)(e:au),SizeOf.sizeOf e<d->∃c,tf N d e=some c
 |0,_,h=>absurd h (ZJ _)
 |d+1,e,w=>by
  have f:∀(l:U aT)(k:Nat)(v:Int),∃c,Jh N l k v=some c:=λl=>by
   induction l with
   |nil=>intro k v;exact⟨_,rfl⟩
   |cons x l a=>
    intro k v;rw[Jh];cases bL x.bp==bL (bs []);{exact a _ _};{exact a _ _}
  have g:∀(l:U au)(k:Nat)(v:Int),(∀x∈l,x∈e.bk)->∃c,Pv N (tf N d) l k v=some c:=λl=>by
   induction l with
   |nil=>intro k v _;exact⟨_,rfl⟩
   |cons x l a=>
    intro k v b;obtain⟨c,i⟩:=ach N d x (by have:=lA (b x Zt);omega);rw[Pv,i,re];exact a _ _ λy n=>b y (Zk _ n)
  rw[tf];unfold JQ;obtain⟨z,o⟩:=f e.xIdx 0 0;obtain⟨B,t⟩:=g e.bk 0 0 λx u=>u;rw[o,t];cases e.aA==1<;>cases e.aA==2<;>cases e.aA==3<;>exact⟨_,rfl⟩
def apn(N:Nat)(e:au)(h:SizeOf.sizeOf e<N):∃c,RT N e=some c:=ach N N e h
def KV{d:aF}{l:U aF}(h:d∈l):SizeOf.sizeOf d.aX<SizeOf.sizeOf l:=by
 have a:=List.sizeOf_lt_of_mem h;have b:SizeOf.sizeOf d.aX<SizeOf.sizeOf d:=by cases d;simp only[aF.mk.sizeOf_spec];omega
 omega
noncomputable def A5:U aF->aI->Nat
 |[],_=>0
 |d::l,q=>3*SizeOf.sizeOf (lP q d.ar)+4+A5 l q+A5 l (nO q d.ar)
def Vp{N:Nat}(b:Int){env:U aR}{ins m:U aO}:∀(l:U aF)(k:Nat)(n:Int)(q:aI)(all:U aO),Lr N q env->Bc N q->(∀i d,q.ax[i]?=some d->iG q i d)->q.bj.length<=64->A5 l q<N->pL N q env ins m all->0<=n->n+l.length<=1000000->
 ∃r f g,yH N b l k n q.bj q.cO q.aS q.ax q.cB=some (r,f)/\Lr N r env/\pL N r env ins m g/\pn r (m++g)=pn q (m++all)/\0<=f/\f<=n+l.length
 |[],k,n,q,all,W,B,_,_,_,R,t,_=>⟨q,n,all,rfl,W,R,rfl,t,by simp⟩
 |d::l,k,n,q,all,W,B,G,o,T,R,t,hn=>by
  have hN:=W.hN;rw[A5]at T;simp only[Zp]at hn;have a:∃r f g,yH N b l (k+1) n q.bj q.cO q.aS q.ax q.cB=some (r,f)/\Lr N r env/\pL N r env ins m g/\pn r (m++g)=pn q (m++all)/\0<=f/\f<=n+(d::l).length:=by
   obtain⟨r,f,g,u,v,w,z,C,M⟩:=Vp b l (k+1) n q all W B G o k7 R t k7;exact⟨r,f,g,u,v,w,z,C,by simp only[Zp];omega⟩
  rw[yH,RG,re];dsimp only;rcases zB (eW d.ar) q.ax with⟨H,_⟩|⟨j,e,H,P,_,h5⟩
  ·rw[show od q.ax d.ar 0= -1 by unfold od;rw[H]];exact a
  ·obtain⟨c,c1⟩:=apn N e.aX (B.E e (yg P)).2;have F6:od q.ax d.ar 0=(j:Int):=by unfold od;rw[H];dsimp only;rw[ZQ]
   rw[F6,show decide ((j:Int)<0)=false from Zn k7,show decide ((0:Int)<=(j:Int))=true from eD k7,ZR,P];simp only[Tj,Tf,re];rw[c1,re,re];cases hc:decide (c>b)with
   |true=>exact a
   |false=>
    have Q:∀x∈lP q d.ar,3*SizeOf.sizeOf x.aX+2<N:=λx h=>by have:=KV h;omega
    obtain⟨r,x,S,_,o4,_⟩:=R2 k7 B d.ar o λx h=>by have:=Q x h;omega
    have J:qk N ⟨q.bj,q.cO,q.aS,q.ax,q.cB⟩ d.ar=some (r,x):=S;simp only[Tf];rw[J,re];dsimp only;cases h:x==0with
    |false=>exact a
    |true=>
     have C1:=TC.1 h;subst C1;obtain⟨hr,_,_,Gr,_⟩:=o4 rfl;obtain⟨_,Br,W',FB,R1,ou⟩:=acE W B o Q R S;subst hr;have L:∀y∈(nO q d.ar).ax,SizeOf.sizeOf y.aX<SizeOf.sizeOf (lP q d.ar)+1:=λy hy=>by have:=KV (acD hy);omega
     have s1:=aq6 N (SizeOf.sizeOf (lP q d.ar)+1) k7 (nO q d.ar) ⟨q.bj,q.cO,q.aS,q.ax,q.cB⟩ L;simp only[Tj];rw[s1,re,re];cases Sw (SizeOf.sizeOf (lP q d.ar)+1) (nO q d.ar) ⟨q.bj,q.cO,q.aS,q.ax,q.cB⟩with
     |true=>exact a
     |false=>
      obtain⟨r,f,g,u,v,w,z,C,M⟩:=Vp b l (k+1) (aY (n+1)) (nO q d.ar) FB W' Br Gr o k7 R1 (by rw[tP k7 k7];omega) (by rw[tP k7 k7];omega);exact⟨r,f,g,u,v,w,z.trans ou,C,by rw[tP k7 k7]at M;simp only[Zp];omega⟩
def ao4(n:Nat):xn (n+1000)=some true:=by kernel_rfl
def ajH{N:Nat}(h:1000<=N):xn N=some true:=by
 obtain⟨n,rfl⟩:∃n,N=n+1000:=⟨N-1000,by omega⟩;exact ao4 n
def apY{e:au}(h:jR 400 e):ph e:=λy a=>
 ⟨Ze (h y a).iN gy,Ze (h y a).idx gy,λx b=>⟨Ze ((h y a).each x b).iN gy,Ze ((h y a).each x b).at_ gy,λl d=>Ze (((h y a).each x b).q6 l d) gy⟩,Ze (h y a).args gy⟩
def as4{N:Nat}{p:aI}(B:Bd N p)(h:Dp p)(b:∀d∈p.ax,SizeOf.sizeOf d.aX<N):Bc N p:=⟨B,λd a=>⟨apY (h.D d a).body,b d a⟩⟩
def ane{N:Nat}{p:aI}{env:U aR}(W:Lr N p env)(B:Bc N p)(a:p.bj.length<=64){s:so}(b:∀d∈lP p s,3*SizeOf.sizeOf d.aX+2<N){ins m all:U aO}(R:pL N p env ins m all):
 ∃r x,qk N p s=some (r,x)/\(x=0->sN N r env ins=some (pn p (m++all),0)):=by
 have l:=W.hN;obtain⟨r,x,e,_,_,_⟩:=R2 k7 B s a λd f=>by have:=b d f;omega
 refine⟨r,x,e,λg=> ?_⟩;subst g;obtain⟨_,_,h,n,i,k⟩:=acE W B a b R e;rw[aer h i,k]
def akt{N:Nat}(b:Int){p:aI}{env:U aR}(W:Lr N p env)(B:Bc N p)(f:p.bj.length<=64)(g:A5 p.ax p<N){ins m all:U aO}(R:pL N p env ins m all)(h:rh p=true):
 ∃r n,Fm N p b=some (r,n)/\sN N r env ins=some (pn p (m++all),0)/\0<=n/\n<=p.ax.length:=by
 have v:=W.hN;have w:=W.d;obtain⟨a,q1⟩:=auS k7 W.bd h R.V;obtain⟨y,x,i,e,_⟩:=CO (N:=N) k7 W.bd;rw[q1]at e;cases e
 obtain⟨r,n,z,k,l,o,t,u,C⟩:=Vp b p.ax 0 0 p all W B R.G f g R (Int.le_refl 0) k7;refine⟨r,n,?_,?_,u,by omega⟩;{unfold Fm;rw[Pj B,i,re];dsimp only;rw[ml,Tj,re];dsimp only;rw[show((0:Int) !=0)=false from rfl,Tf];exact k};{rw[aer l o,t]}
def aau{N:Nat}{p:aI}{env:U aR}{ins:U aO}{s:so}{a:Int}(b:xn N=some true)(h:∀k,B7 N p env ins s a [] k=some true):∀(l:U aR)(k:Nat),B7 N p env ins s a l k=some true
 |[],k=>h k
 |x::l,k=>by
  rw[B7,b];cases decide (x.cU.toInt>8)with
  |true=>rfl
  |false=>exact aau b h l (k+1)
def aro(N:Nat)(p:aI)(env:U aR)(ins:U aO)(s:so)(a:Int)(l:9223372036854775808<N)(e:∀d∈p.ax,jR tc d.aX/\3*SizeOf.sizeOf d.aX<N)(T:3*SizeOf.sizeOf (lP p s)+3<=N)(t:A5 p.ax p<N):Tg N p env ins s a=some true:=by
 have f:=ajH (N:=N) k7;obtain⟨b,g,u⟩:=ame N 60 gy k7 p λd h=>⟨(e d h).1,by have:=(e d h).2;omega⟩;unfold Tg;have g:Hh N p 60=some b:=g;rw[g,re,f];cases b with
 |true=>rfl
 |false=>
  have Sh:=u rfl;rw[Tf];cases decide ((p.ax.length:Int)>6)with
  |true=>rfl
  |false=>
   rw[Tf];by_cases v:env.length<=12
   ·rw[Zn (show ¬(env.length:Int)>12 by omega),Tf];cases decide ((ins.length:Int)>20)with
    |true=>rfl
    |false=>
     rw[Tf,re];cases decide ((s.size:Int)>100)with
     |true=>rfl
     |false=>
      rw[Tf];refine aau f (λk=> ?_) env 0;have W:Lw N p env:=⟨l,Sh,by omega,λd h=>(e d h).2⟩;have B:=as4 W.bd Sh λd h=>by have:=(e d h).2;omega
      have i:p.bj.length<=64:=Ze Sh.s gy;have y:rh p=true:=by
       unfold rh;have h1:=Sh.s;have h2:=Sh.q;have h3:=Sh.d;have h4:=Sh.o;have h5:=Sh.w;rw[eD (show p.bj.length<=64 by omega),eD (show p.aS.length<=64 by omega),eD (show p.ax.length<=64 by omega),eD (show p.cB.length<=64 by omega),eD (show p.cO.length<=256 by omega)];rfl
      rw[B7,f];rcases aqk W.r ins with⟨z,C,E⟩|⟨m,all,R,G⟩
      ·rw[E,re];dsimp only;rw[Ui.2 C];rfl
      ·rw[G,re];dsimp only;rw[show((0:Int) !=0)=false from rfl,Tf];obtain⟨r,x,H,L⟩:=ane (s:=s) W.r B i (λd h=>by have:=KV h;omega) R;obtain⟨q,n,M,P,a3,Q⟩:=akt a W.r B i t R y;have J:GP N p a env ins (pn p (m++all),0)=some true:=by
         unfold GP;rw[M,re,P,re];dsimp only;rw[show((0:Int)==0)=true from rfl,Tj,afS,re,Tj,eD (show n>=0 by omega),Tj,eD Q,Tj,f];rfl
       rw[H,re];dsimp only;cases S:x==0with
       |false=>exact J
       |true=>
        rw[Tj,L (TC.1 S),re];dsimp only;rw[show((0:Int) !=0)=false from rfl,Tf,afS];exact J
   ·rw[eD (show(env.length:Int)>12 by omega)];rfl
def rN(k:IntKind)(n:Int):Prop:=k.min<=n/\n<=k.max
def I2{n:Int}(h:rN .i64 n):∃m:Int64,n=m.toInt:=by
 refine⟨Int64.ofInt n,?_⟩;have a:aY n=n:=by
  unfold aY;rw[cR];have b: -9223372036854775808<=n:=h.1;have d:n<=9223372036854775807:=h.2;omega
 rw[Int64.toInt_ofInt,<-Ed];exact a.symm
def abD{p:U D}:∀{l:U (U D)},p∈l->SizeOf.sizeOf p<=SizeOf.sizeOf l.flatten
 |[],h=>by cases h
 |q::l,h=>by
  have d:∀a b:U D,SizeOf.sizeOf a<=SizeOf.sizeOf (a++b)/\SizeOf.sizeOf b<=SizeOf.sizeOf (a++b):=by
   intro a b
   induction a with
   |nil=>cases b<;>simp only[W5,List.nil.sizeOf_spec,List.cons.sizeOf_spec]<;>omega
   |cons x a e=>simp only[List.cons_append,List.cons.sizeOf_spec];omega
  rw[List.flatten_cons];rcases Za.1 h with rfl|h
  ·exact(d _ _).1
  ·exact Ze (abD h) (d _ _).2
def aej{xs:U D}(h:fb prog 22 xs):∃l:U so,xs=[.sl (bQ l)]/\(l.length<=140737488355328/\∀a∈l,a.size<=maxLen):=by
 obtain⟨l,rfl,b,d⟩:=h.qa underlying22;obtain⟨r,rfl,e⟩:=pj (f:=je) (Q:=λa=>a.size<=maxLen) l (λx g=>by
  obtain⟨i,rfl,k⟩:=(d x g).vo underlying9;exact⟨i,rfl,k⟩)
 exact⟨r,by rw[pc],by simpa using b,e⟩
structure Ls(x:bD):Prop where
 h0:x.ar.size<=maxLen
 h1:True
def akf{xs:U D}(h:fb prog 95 xs):∃x:bD,xs=GC x/\Ls x:=by
 obtain⟨parts,rfl,b,a⟩:=h.oJ underlying95
 match parts,b with
 |[i,k],_=>
 obtain⟨d,rfl,e⟩:=(a 0 _ _ rfl rfl).vo underlying9;obtain⟨l,rfl,f⟩:=(a 1 _ _ rfl rfl).pI underlying2;obtain⟨g,rfl⟩:=I2 f;exact⟨⟨d,g⟩,rfl,⟨e,trivial⟩⟩
def amD{xs:U D}(h:fb prog 43 xs):∃l:U bD,xs=[.sl (cY l)]/\(l.length<=140737488355328/\∀a∈l,Ls a):=by
 obtain⟨l,rfl,b,d⟩:=h.qa underlying43;obtain⟨r,rfl,e⟩:=pj (f:=GC) (Q:=λa=>Ls a) l (λx g=>akf (d x g));exact⟨r,by rw[uM],by simpa using b,e⟩
structure uT(x:aK):Prop where
 h0:True
 h1:x.xL.length<=140737488355328/\∀a∈x.xL,Ls a
def Ih{xs:U D}(h:fb prog 45 xs):∃x:aK,xs=nq x/\uT x:=by
 obtain⟨parts,rfl,b,a⟩:=h.oJ underlying45
 match parts,b with
 |[i,k],_=>
 obtain⟨l,rfl,d⟩:=(a 0 _ _ rfl rfl).pI underlying2;obtain⟨e,rfl⟩:=I2 d;obtain⟨f,rfl,g⟩:=amD (a 1 _ _ rfl rfl);exact⟨⟨e,f⟩,rfl,⟨trivial,g⟩⟩
structure PH(x:cQ):Prop where
 h0:uT x.aU
 h1:True
def aoH{xs:U D}(h:fb prog 47 xs):∃x:cQ,xs=HO x/\PH x:=by
 obtain⟨parts,rfl,b,a⟩:=h.oJ underlying47
 match parts,b with
 |[g,i],_=>
 obtain⟨d,rfl,e⟩:=Ih (a 0 _ _ rfl rfl);obtain⟨f,rfl⟩:=(a 1 _ _ rfl rfl).amN underlying4;exact⟨⟨d,f⟩,rfl,⟨e,trivial⟩⟩
def akr{xs:U D}(h:fb prog 23 xs):∃l:U cQ,xs=[.sl (dP l)]/\(l.length<=140737488355328/\∀a∈l,PH a):=by
 obtain⟨l,rfl,b,d⟩:=h.qa underlying23;obtain⟨r,rfl,e⟩:=pj (f:=HO) (Q:=λa=>PH a) l (λx g=>aoH (d x g));exact⟨r,by rw[AL],by simpa using b,e⟩
structure E3(x:aQ):Prop where
 h0:rN .i64 x.bt
 h1:rN .i64 x.bW
 h2:rN .i64 x.bR
 h3:rN .i64 x.b9
 h4:rN .i64 x.b8
def NK{xs:U D}(h:fb prog 49 xs):∃x:aQ,xs=LD x/\E3 x:=by
 obtain⟨parts,rfl,b,a⟩:=h.oJ underlying49
 match parts,b with
 |[u,v,w,y,z],_=>
 obtain⟨d,rfl,e⟩:=(a 0 _ _ rfl rfl).pI underlying3;obtain⟨f,rfl,g⟩:=(a 1 _ _ rfl rfl).pI underlying3;obtain⟨i,rfl,k⟩:=(a 2 _ _ rfl rfl).pI underlying3;obtain⟨l,rfl,n⟩:=(a 3 _ _ rfl rfl).pI underlying3;obtain⟨o,rfl,t⟩:=(a 4 _ _ rfl rfl).pI underlying3;exact⟨⟨d,f,i,l,o⟩,rfl,⟨e,g,k,n,t⟩⟩
def ah6{xs:U D}(h:fb prog 50 xs):∃l:U aK,xs=[.sl (dF l)]/\(l.length<=140737488355328/\∀a∈l,uT a):=by
 obtain⟨l,rfl,b,d⟩:=h.qa underlying50;obtain⟨r,rfl,e⟩:=pj (f:=nq) (Q:=λa=>uT a) l (λx g=>Ih (d x g));exact⟨r,by rw[vQ],by simpa using b,e⟩
structure MM(x:cl):Prop where
 h0:x.ar.size<=maxLen
 h1:E3 x.aw
 h2:x.aJ.length<=140737488355328/\∀a∈x.aJ,uT a
def aua{xs:U D}(h:fb prog 52 xs):∃x:cl,xs=EF x/\MM x:=by
 obtain⟨parts,rfl,b,a⟩:=h.oJ underlying52
 match parts,b with
 |[l,n,o],_=>
 obtain⟨d,rfl,e⟩:=(a 0 _ _ rfl rfl).vo underlying9;obtain⟨f,rfl,g⟩:=NK (a 1 _ _ rfl rfl);obtain⟨i,rfl,k⟩:=ah6 (a 2 _ _ rfl rfl);exact⟨⟨d,f,i⟩,rfl,⟨e,g,k⟩⟩
def alh{xs:U D}(h:fb prog 24 xs):∃l:U cl,xs=[.sl (dA l)]/\(l.length<=140737488355328/\∀a∈l,MM a):=by
 obtain⟨l,rfl,b,d⟩:=h.qa underlying24;obtain⟨r,rfl,e⟩:=pj (f:=EF) (Q:=λa=>MM a) l (λx g=>aua (d x g));exact⟨r,by rw[yY],by simpa using b,e⟩
structure FX(x:cq):Prop where
 h0:x.ar.size<=maxLen
 h1:uT x.dq
def ani{xs:U D}(h:fb prog 65 xs):∃x:cq,xs=IG x/\FX x:=by
 obtain⟨parts,rfl,b,a⟩:=h.oJ underlying65
 match parts,b with
 |[i,k],_=>
 obtain⟨d,rfl,e⟩:=(a 0 _ _ rfl rfl).vo underlying9;obtain⟨f,rfl,g⟩:=Ih (a 1 _ _ rfl rfl);exact⟨⟨d,f⟩,rfl,⟨e,g⟩⟩
def acd{xs:U D}(h:fb prog 54 xs):∃l:U cq,xs=[.sl (dC l)]/\(l.length<=140737488355328/\∀a∈l,FX a):=by
 obtain⟨l,rfl,b,d⟩:=h.qa underlying54;obtain⟨r,rfl,e⟩:=pj (f:=IG) (Q:=λa=>FX a) l (λx g=>ani (d x g));exact⟨r,by rw[AZ],by simpa using b,e⟩
structure HC(x:aH):Prop where
 h0:True
 h1:True
def aal{xs:U D}(h:fb prog 56 xs):∃x:aH,xs=DV x/\HC x:=by
 obtain⟨parts,rfl,b,a⟩:=h.oJ underlying56
 match parts,b with
 |[i,k],_=>
 obtain⟨l,rfl,d⟩:=(a 0 _ _ rfl rfl).pI underlying2;obtain⟨e,rfl⟩:=I2 d;obtain⟨n,rfl,f⟩:=(a 1 _ _ rfl rfl).pI underlying2;obtain⟨g,rfl⟩:=I2 f;exact⟨⟨e,g⟩,rfl,⟨trivial,trivial⟩⟩
structure Ln(x:aT):Prop where
 h0:uT x.aU
 h1:x.bp.size<=maxLen
 h2:x.bC.length<=140737488355328/\∀a∈x.bC,uT a
def ald{xs:U D}(h:fb prog 93 xs):∃x:aT,xs=im x/\Ln x:=by
 obtain⟨parts,rfl,b,a⟩:=h.oJ underlying93
 match parts,b with
 |[l,n,o],_=>
 obtain⟨d,rfl,e⟩:=Ih (a 0 _ _ rfl rfl);obtain⟨f,rfl,g⟩:=(a 1 _ _ rfl rfl).vo underlying9;obtain⟨i,rfl,k⟩:=ah6 (a 2 _ _ rfl rfl);exact⟨⟨d,f,i⟩,rfl,⟨e,g,k⟩⟩
def aiV{xs:U D}(h:fb prog 57 xs):∃l:U aT,xs=[.sl (cg l)]/\(l.length<=140737488355328/\∀a∈l,Ln a):=by
 obtain⟨l,rfl,b,d⟩:=h.qa underlying57;obtain⟨r,rfl,e⟩:=pj (f:=im) (Q:=λa=>Ln a) l (λx g=>ald (d x g));exact⟨r,by rw[uR],by simpa using b,e⟩
inductive zt:au->Prop
 |mk (x:au) (h0:rN .i64 x.aA) (h1:x.ar.size<=maxLen) (h2:HC x.cU) (h3:E3 x.aw) (h4:uT x.aU) (h5:x.xIdx.length<=140737488355328/\∀a∈x.xIdx,Ln a) (h6:x.bk.length<=140737488355328) (g6:∀a∈x.bk,zt a):zt x
def ahZ:∀(n:Nat)(xs:U D),SizeOf.sizeOf xs<n->fb prog 60 xs->∃x:au,xs=dV x/\zt x
 |0,_,h,_=>absurd h (ZJ _)
 |n+1,xs,d,h=>by
  obtain⟨parts,rfl,e,a⟩:=h.oJ underlying60
  match parts,e with
  |[E,G,H,J,L,M,P],_=>
  obtain⟨g,rfl,i⟩:=(a 0 _ _ rfl rfl).pI underlying3;obtain⟨k,rfl,l⟩:=(a 1 _ _ rfl rfl).vo underlying9;obtain⟨o,rfl,t⟩:=aal (a 2 _ _ rfl rfl);obtain⟨u,rfl,v⟩:=NK (a 3 _ _ rfl rfl);obtain⟨w,rfl,y⟩:=Ih (a 4 _ _ rfl rfl);obtain⟨z,rfl,B⟩:=aiV (a 5 _ _ rfl rfl);obtain⟨l_,rfl,b,hs_⟩:=(a 6 _ _ rfl rfl).qa underlying58;obtain⟨r_,rfl,hr_⟩:=pj (f:=dV) (Q:=zt) l_ (λx a=>ahZ n x (by have S:=List.sizeOf_lt_of_mem a;have C:SizeOf.sizeOf [D.sl l_]<n+1:=Nat.lt_of_le_of_lt (abD gj) d;simp only[List.cons.sizeOf_spec,D.sl.sizeOf_spec,List.nil.sizeOf_spec]at C;omega) (hs_ x a));refine⟨⟨g,k,o,u,w,z,r_⟩,?_,.mk _ i l t v y B (by simpa using b) hr_⟩;show _=dV _;unfold dV;rw[oY];rfl
def apa{xs:U D}(h:fb prog 60 xs):∃x:au,xs=dV x/\zt x:=ahZ _ xs (ZC _) h
structure Mu(x:aF):Prop where
 h0:x.ar.size<=maxLen
 h1:E3 x.aw
 h2:x.aJ.length<=140737488355328/\∀a∈x.aJ,FX a
 h3:x.bI.length<=140737488355328/\∀a∈x.bI,FX a
 h4:rN .i64 x.cE
 h5:zt x.aX
def aiZ{xs:U D}(h:fb prog 62 xs):∃x:aF,xs=dv x/\Mu x:=by
 obtain⟨parts,rfl,b,a⟩:=h.oJ underlying62
 match parts,b with
 |[w,y,z,B,C,E],_=>
 obtain⟨d,rfl,e⟩:=(a 0 _ _ rfl rfl).vo underlying9;obtain⟨f,rfl,g⟩:=NK (a 1 _ _ rfl rfl);obtain⟨i,rfl,k⟩:=acd (a 2 _ _ rfl rfl);obtain⟨l,rfl,n⟩:=acd (a 3 _ _ rfl rfl);obtain⟨o,rfl,t⟩:=(a 4 _ _ rfl rfl).pI underlying3;obtain⟨u,rfl,v⟩:=apa (a 5 _ _ rfl rfl);exact⟨⟨d,f,i,l,o,u⟩,rfl,⟨e,g,k,n,t,v⟩⟩
def aj8{xs:U D}(h:fb prog 25 xs):∃l:U aF,xs=[.sl (dy l)]/\(l.length<=140737488355328/\∀a∈l,Mu a):=by
 obtain⟨l,rfl,b,d⟩:=h.qa underlying25;obtain⟨r,rfl,e⟩:=pj (f:=dv) (Q:=λa=>Mu a) l (λx g=>aiZ (d x g));exact⟨r,by rw[oc],by simpa using b,e⟩
structure afV(x:aI):Prop where
 h0:x.bj.length<=140737488355328/\∀a∈x.bj,a.size<=maxLen
 h1:x.cO.length<=140737488355328/\∀a∈x.cO,PH a
 h2:x.aS.length<=140737488355328/\∀a∈x.aS,MM a
 h3:x.ax.length<=140737488355328/\∀a∈x.ax,Mu a
 h4:x.cB.length<=140737488355328/\∀a∈x.cB,a.size<=maxLen
def al2{xs:U D}(h:fb prog 27 xs):∃x:aI,xs=alr x/\afV x:=by
 obtain⟨parts,rfl,b,a⟩:=h.oJ underlying27
 match parts,b with
 |[u,v,w,y,z],_=>
 obtain⟨d,rfl,e⟩:=aej (a 0 _ _ rfl rfl);obtain⟨f,rfl,g⟩:=akr (a 1 _ _ rfl rfl);obtain⟨i,rfl,k⟩:=alh (a 2 _ _ rfl rfl);obtain⟨l,rfl,n⟩:=aj8 (a 3 _ _ rfl rfl);obtain⟨o,rfl,t⟩:=aej (a 4 _ _ rfl rfl);exact⟨⟨d,f,i,l,o⟩,rfl,⟨e,g,k,n,t⟩⟩
structure KU(x:aR):Prop where
 h0:x.ar.size<=maxLen
 h1:True
def aqP{xs:U D}(h:fb prog 33 xs):∃x:aR,xs=Io x/\KU x:=by
 obtain⟨parts,rfl,b,a⟩:=h.oJ underlying33
 match parts,b with
 |[i,k],_=>
 obtain⟨d,rfl,e⟩:=(a 0 _ _ rfl rfl).vo underlying9;obtain⟨l,rfl,f⟩:=(a 1 _ _ rfl rfl).pI underlying2;obtain⟨g,rfl⟩:=I2 f;exact⟨⟨d,g⟩,rfl,⟨e,trivial⟩⟩
def ai5{xs:U D}(h:fb prog 28 xs):∃l:U aR,xs=[.sl (bz l)]/\(l.length<=140737488355328/\∀a∈l,KU a):=by
 obtain⟨l,rfl,b,d⟩:=h.qa underlying28;obtain⟨r,rfl,e⟩:=pj (f:=Io) (Q:=λa=>KU a) l (λx g=>aqP (d x g));exact⟨r,by rw[y5],by simpa using b,e⟩
def auL{xs:U D}(h:fb prog 71 xs):∃l:U Int,xs=[.sl (bN l)]/\(l.length<=140737488355328/\∀a∈l,rN .i64 a):=by
 obtain⟨l,rfl,b,d⟩:=h.qa underlying71;obtain⟨r,rfl,e⟩:=pj (f:=fu) (Q:=λa=>rN .i64 a) l (λx g=>by
  obtain⟨i,rfl,k⟩:=(d x g).pI underlying3;exact⟨i,rfl,k⟩)
 exact⟨r,by rw[pO],by simpa using b,e⟩
def as2{xs:U D}(h:fb prog 72 xs):∃l:U aH,xs=[.sl (fa l)]/\(l.length<=140737488355328/\∀a∈l,HC a):=by
 obtain⟨l,rfl,b,d⟩:=h.qa underlying72;obtain⟨r,rfl,e⟩:=pj (f:=DV) (Q:=λa=>HC a) l (λx g=>aal (d x g));exact⟨r,by rw[vA],by simpa using b,e⟩
structure aij(x:bo):Prop where
 h0:E3 x.aw
 h1:x.aJ.length<=140737488355328/\∀a∈x.aJ,rN .i64 a
 h2:x.fE.length<=140737488355328/\∀a∈x.fE,HC a
def apG{xs:U D}(h:fb prog 74 xs):∃x:bo,xs=cx x/\aij x:=by
 obtain⟨parts,rfl,b,a⟩:=h.oJ underlying74
 match parts,b with
 |[l,n,o],_=>
 obtain⟨d,rfl,e⟩:=NK (a 0 _ _ rfl rfl);obtain⟨f,rfl,g⟩:=auL (a 1 _ _ rfl rfl);obtain⟨i,rfl,k⟩:=as2 (a 2 _ _ rfl rfl);exact⟨⟨d,f,i⟩,rfl,⟨e,g,k⟩⟩
structure PN(x:aO):Prop where
 h0:x.ar.size<=maxLen
 h1:aij x.gg
def arp{xs:U D}(h:fb prog 79 xs):∃x:aO,xs=Fh x/\PN x:=by
 obtain⟨parts,rfl,b,a⟩:=h.oJ underlying79
 match parts,b with
 |[i,k],_=>
 obtain⟨d,rfl,e⟩:=(a 0 _ _ rfl rfl).vo underlying9;obtain⟨f,rfl,g⟩:=apG (a 1 _ _ rfl rfl);exact⟨⟨d,f⟩,rfl,⟨e,g⟩⟩
def arz{xs:U D}(h:fb prog 29 xs):∃l:U aO,xs=[.sl (bG l)]/\(l.length<=140737488355328/\∀a∈l,PN a):=by
 obtain⟨l,rfl,b,d⟩:=h.qa underlying29;obtain⟨r,rfl,e⟩:=pj (f:=Fh) (Q:=λa=>PN a) l (λx g=>arp (d x g));exact⟨r,by rw[AE],by simpa using b,e⟩
def auk:U TypeId:=[2,3,4,9,22,23,24,25,27,28,29,33,43,45,47,49,50,52,54,56,57,58,60,62,65,71,72,74,79,93,95]
def RC:Ty prog auk=true:=by kernel_rfl
def asN{e:au}(h:zt e):jR tc e:=by
 induction h with
 |mk x t u v w g d i B k=>
  intro y b;rcases Za.1 b with rfl|b
  ·exact⟨g.h1.1,d.1,λz f=>⟨(d.2 z f).h0.h1.1,(d.2 z f).h2.1,λl n=>((d.2 z f).h2.2 l n).h1.1⟩,i⟩
  ·obtain⟨a,o,b⟩:=By b;exact k a o y b
def al9(p:aI)(b:U aR)(m:U aO)(s:so)(e:Int)(h:afV p)(_:b.length<=140737488355328/\∀a∈b,KU a)(_:m.length<=140737488355328/\∀a∈m,PN a)(_:s.size<=maxLen)(_:(Lit.int .i64 e).wf=true):gq prog 3 [di p,.d (.sl (bz b)),.d (.sl (bG m)),cd s,.d (.v (.int .i64 e))] (·= .d (.v (.bool true))):=by
 refine arC true (aro (9223372036854775900+3*SizeOf.sizeOf p.ax+3*SizeOf.sizeOf (lP p s)+A5 p.ax p) p b m s e k7 (λd f=>⟨asN (h.h3.2 d f).h5,?_⟩) k7 k7);have g:=KV f;omega
end Go.Proofs.YtjploedinjiflaaGreatDoor
