/-
  Part 14 of the proof: SmK, SmL, SmM, SmN, SmO, SmP, SmQ, SmX, EvI, EvNe, SdG, SdX, OpenT, SoundAbs.
-/
import Derived.Test.YtfdhojiehjfghaaGreatDoorPs13
namespace Go.Proofs.YtfdhojiehjfghaaGreatDoor
open Go.RowKit
set_option maxRecDepth 100000
set_option linter.unusedSimpArgs false
set_option linter.unusedVariables false
structure En(N:Nat)(e:an):Prop where
 hN:9223372036854775808<N
 sz:8*SizeOf.sizeOf e+16<=N
 v:vE e
 t:W wT e<=800000
theorem En.arg{N:Nat}{e x:an}(h:En N e)(hx:x∈e.aw):En N x:=
 ⟨h.hN,by have:=h.sz;have:=fW hx;omega,h.v.arg hx,by have:=h.t;rw[cM]at this;have:=ld (w:=wT) hx;omega⟩
theorem En.Rk{N:Nat}{e:an}(h:En N e):2147483648<N:=Nat.lt_trans (by decide) h.hN
theorem En.node{N:Nat}{e:an}(h:En N e):xd e:=O7 (h.v e (vU e))
inductive Sh:an->Prop
 |leaf {op:Int} {n v t l i}:op=1\/op=2\/op=3->Sh ⟨op,n,v,t,l,i,[]⟩
 |one {op:Int} {n v t l i a}:op=8\/op=12\/op=18->Sh ⟨op,n,v,t,l,i,[a]⟩
 |two {op:Int} {n v t l i a b}:op=4\/op=5\/op=6\/op=7\/op=9\/op=10\/op=13\/op=14\/op=15\/op=16\/op=17->Sh ⟨op,n,v,t,l,i,[a,b]⟩
 |three {op:Int} {n v t l i c a b}:op=11->Sh ⟨op,n,v,t,l,i,[c,a,b]⟩
theorem Br{n:Nat}{l:anD an}(h:l.length=n):(n=0->l=[])/\(n=1->∃a,l=[a])/\(n=2->∃a b,l=[a,b])/\(n=3->∃a b c,l=[a,b,c]):=by
 subst h
 match l with
 |[]=>simp
 |[a]=>simp
 |[a,b]=>simp
 |[a,b,c]=>simp
 |_::_::_::_::_=>simp
theorem mn{e:an}(h:xd e):Sh e:=by
 have hp:=h.plain;have hr:=h.T9;unfold jT at hp;unfold jl at hr;simp only[amP,decide_eq_true_eq,beq_iff_eq]at hp hr;obtain⟨o1,o2,_⟩:=hp;obtain⟨r,_⟩:=hr;obtain⟨op,n,v,t,l,i,al⟩:=e;simp only at o1 o2 r;have key:∀k:Nat,iY op=(k:Int)->al.length=k:=λk hk=>by rw[hk]at r;omega
 rcases (by omega:(op=1\/op=2\/op=3)\/(op=8\/op=12\/op=18)\/(op=4\/op=5\/op=6\/op=7\/op=9\/op=10\/op=13\/op=14\/op=15\/op=16\/op=17)\/op=11)with h1|h1|h1|h1
 ·have:=(Br (key 0 (by rcases h1 with rfl|rfl|rfl<;>rfl))).1 rfl;subst this;exact .leaf h1
 ·obtain⟨a,rfl⟩:=(Br (key 1 (by rcases h1 with rfl|rfl|rfl<;>rfl))).2.1 rfl;exact .one h1
 ·obtain⟨a,b,rfl⟩:=(Br (key 2 (by rcases h1 with rfl|rfl|rfl|rfl|rfl|rfl|rfl|rfl|rfl|rfl|rfl<;>rfl))).2.2.1 rfl;exact .two h1
 ·obtain⟨c,a,b,rfl⟩:=(Br (key 3 (by subst h1;rfl))).2.2.2 rfl;exact .three h1
theorem Iz{N:Nat}{a:an}(b:an)(h:3*SizeOf.sizeOf a+3<=N):qK N a b=some (m4 a b):=by
 obtain⟨c,e1,e2⟩:=TA N (SizeOf.sizeOf a+1) a b N (anB _) (by omega);unfold qK Ql;rw[e1,amM,e2];rfl
def kn(t:Kn):alj:=⟨t.yT,t.cW⟩
theorem amg(a b:aF):((a.aL==b.aL)&&((a.bY==b.bY)&&((a.bM==b.bM)&&((a.b5==b.b5)&&((a.bK==b.bK)&&true)))))=gx a b:=rfl
theorem UL(N:Nat):∀(n:Nat)(e:an),SizeOf.sizeOf e<n->vE e->∀d,SizeOf.sizeOf e<d->lr N d e=some (da e)
 |0,_,h,_,_,_=>absurd h (ang _)
 |n+1,e,hn,hv,d,hd=>by
  obtain⟨d,rfl⟩:∃k,d=k+1:=⟨d-1,by omega⟩;have ih:∀x∈e.aw,lr N d x=some (da x):=λx hx=>UL N n x (by have:=fW hx;omega) (hv.arg hx) d (by have:=fW hx;omega);have sh:=mn (O7 (hv e (vU e)));rw[lr,Ov];clear hn hd hv;cases sh with
  |leaf h=>rcases h with rfl|rfl|rfl<;>rfl
  |one h=>
   rename_i a
   have i1:=ih a (by simp);rcases h with rfl|rfl|rfl
   ·show Option.bind (lr N d a) _=some (da a);rw[i1];rfl
   ·rfl
   ·rfl
  |two h=>
   rename_i a b
   have i1:=ih a (by simp);have i2:=ih b (by simp);have J:Option.bind (lr N d a) (λv12=>(some b).bind λaW=>(lr N d aW).bind λbX=>(wW N v12 bX).bind λb7=>some b7)=some (bif (da a).cW then da a else da b):=by
    rw[i1,amM,amM,i2,amM];unfold wW;cases (da a).cW<;>rfl
   rcases h with rfl|rfl|rfl|rfl|rfl|rfl|rfl|rfl|rfl|rfl|rfl
   ·exact J
   ·exact J
   ·exact J
   ·exact J
   ·exact J
   ·exact J
   all_goals rfl
  |three h=>
   rename_i c a b
   have i1:=ih a (by simp);have i2:=ih b (by simp);subst h;show Option.bind (lr N d a) (λv6=>Option.bind (bif v6.cW then Option.bind (lr N d b) _ else some false) _)=some (bif true&&((da a).cW&&((da b).cW&&gx (da a).yT (da b).yT))then da a else mE);rw[i1,amM,i2];generalize da a=A;generalize da b=B;obtain⟨At,Ak⟩:=A;obtain⟨Bt,Bk⟩:=B;dsimp only;cases Ak with
   |false=>rfl
   |true=>
    simp only[cond_true,amM,amg];cases Bk<;>cases gx At Bt<;>rfl
theorem GV{N:Nat}{e:an}(h:En N e):q7 N e=some (da e):=UL N _ e (anB _) h.v N (by have:=h.sz;omega)
theorem adb{N:Nat}{a b:an}(h:En N a)(h2:En N b):((q7 N a).bind λv7=>(some b).bind λv8=>(q7 N v8).bind λv9=>(wW N v7 v9).bind λv10=>some v10)=some (u7 a b):=by
 rw[GV h,amM,amM,GV h2,amM];unfold wW u7;cases (da a).cW<;>rfl
theorem ai0(i:Nat):decide ((i:Int)>0)= !(i==0):=by
 by_cases h:i=0
 ·subst h;rfl
 ·rw[anv (by omega),beq_false_of_ne h];rfl
theorem adQ{N:Nat}{e:an}(h:En N e)(k:Kn)(i:Nat):P1 N e k (i:Int)=some (jF e k i):=by
 have A:∀x∈e.aw,En N x:=λx hx=>h.arg hx;have sh:=mn h.node;clear h;unfold jF;cases sh with
 |leaf h=>rcases h with rfl|rfl|rfl<;>rfl
 |one h=>
  rename_i a
  have i1:=GV (A a (by simp));rcases h with rfl|rfl|rfl
  ·rfl
  ·show Option.bind (q7 N a) _=some (da a);rw[i1];rfl
  ·rfl
 |two h=>
  rename_i a b
  have i1:=adb (A a (by simp)) (A b (by simp));rcases h with rfl|rfl|rfl|rfl|rfl|rfl|rfl|rfl|rfl|rfl|rfl
  ·rfl
  ·rfl
  ·rfl
  ·rfl
  ·rfl
  ·rfl
  ·exact i1
  ·exact i1
  ·exact i1
  ·rfl
  ·rfl
 |three h=>
  subst h;show(bif decide ((i:Int)>0)then some k else some Cd)=some (bif (false||(false||(true&& !(i==0))))then k else mE);rw[ai0];cases i==0<;>rfl
def dK(e:an):aP×Bool:=match gX e with|some l=>(l,true)|none=>(dI,false)
theorem HR(N:Nat)(e:an):sJ N e=some (dK e):=by
 unfold sJ dK gX Mu;rw[fJ,amM];cases e.aq==2 with
 |true=>rfl
 |false=>
  simp only[cond_false];cases (e.aq==1&&e.aD.aL==3)<;>rfl
theorem U2(e:an):(dK e).1.xL.length<=wT e:=by
 unfold dK;cases h:gX e with
 |some l=>exact Rt h
 |none=>exact Nat.zero_le _
theorem Io(e:an):wT e<=W wT e:=by rw[cM];exact ant _ _
def lD(f g:aP):aP×Bool:=match kR f g with| .ok d=>(d,true)| .error _=>(dI,false)
theorem Sv(e:Er):(e.code==0)=false:=by cases e<;>rfl
theorem VJ(N:Nat)(hN:1000000<N){f g:aP}(h:f.xL.length+g.xL.length<=800000):yU N f g=some (lD f g):=by
 unfold yU lD kR;rw[NY N (by omega) g (-1) (show g.xL.length<=1000000000 by omega),amM];cases hs:kV g (-1)with
 |error e=>show(bif e.code !=0 then _ else _)=_;rw[Er.ne e];rfl
 |ok q=>
  have hl:=EZ hs;show(bif (0:Int) !=0 then _ else Option.bind (wG N f q) _)=_;rw[V6 N (by omega) f q (by omega) (by omega)]
  change _=some (match n4 f q with| .ok d=>(d,true)| .error _=>(dI,false))
  cases n4 f q with
  |error e=>show some (dI,e.code==0)=_;rw[Sv]
  |ok d=>rfl
theorem Yw(a b c:Bool):(bif a then(bif b then some c else some false)else some false)=some (a&&(b&&c)):=by cases a<;>cases b<;>rfl
theorem akA(a b:an):BF a b=bif (dK a).2&&(dK b).2 then(bif (lD (dK a).1 (dK b).1).2&&(lD (dK a).1 (dK b).1).1.xL.length==0 then some (lD (dK a).1 (dK b).1).1.xK else none)else none:=by
 unfold BF dK;cases gX a with
 |none=>rfl
 |some f=>
  cases gX b with
  |none=>rfl
  |some g=>
   show(match kR f g with| .ok d=>bif d.xL.length==0 then some d.xK else none| .error _=>none)=bif (lD f g).2&&(lD f g).1.xL.length==0 then some (lD f g).1.xK else none;unfold lD;cases kR f g with
   |error e=>rfl
   |ok d=>cases h:d.xL.length==0<;>simp [h]
theorem YD(N:Nat)(op s:Int):ye N op s=some (EO op s):=by
 unfold ye EO;cases op==13<;>cases op==14<;>rfl
theorem abG(k:Int)(f:Int->anF (Bool×Bool)):(bif decide (k<0)then f (-1)else bif decide (k>0)then f 1 else f 0)=f (mF k 0):=by
 unfold mF;cases decide (k<0)with
 |true=>rfl
 |false=>cases decide (k>0)<;>rfl
structure vy(N:Nat)(a b:an):Prop where
 l:En N a
 r:En N b
 t:W wT a+W wT b<=800000
theorem En.two{N:Nat}{op:Int}{n v t l i a b}(h:En N ⟨op,n,v,t,l,i,[a,b]⟩):vy N a b:=
 ⟨h.arg (by simp),h.arg (by simp),by have:=h.t;rw[cM]at this;have e:WL wT [a,b]=W wT a+W wT b:=fV wT a b;change _+WL wT [a,b]<=_ at this;omega⟩
theorem vy.len{N:Nat}{a b:an}(h:vy N a b):(dK a).1.xL.length+(dK b).1.xL.length<=800000:=by
 have:=U2 a;have:=U2 b;have:=Io a;have:=Io b;have:=h.t;omega
theorem En.ED{N:Nat}{e:an}(h:En N e):1000000<N:=Nat.lt_trans (by decide) h.hN
theorem En.eq{N:Nat}{e:an}(h:En N e):3*SizeOf.sizeOf e+3<=N:=by have:=h.sz;omega
theorem Pa{N:Nat}{op:Int}{n v t l i a b}(h:vy N a b)(hv:b9 a.aD=true\/a.aq≠1):xq N ⟨op,n,v,t,l,i,[a,b]⟩=some (qa op a b):=by
 have J:El N a b ⟨op,n,v,t,l,i,[a,b]⟩=some (bif m4 a b then(!(op==13),true)else(false,false)):=by
  unfold El;rw[Iz b h.l.eq,amM];cases m4 a b<;>rfl
 unfold xq qa;show Option.bind (bif (a.aq==1)then(bif (b.aq==1)then some (gx a.aD b.aD)else some false)else some false) _=_;rw[Yw,amM,akA];cases hc:(a.aq==1&&(b.aq==1&&gx a.aD b.aD))with
 |true=>
  have ha:a.aq=1:=by simp only[amP,beq_iff_eq]at hc;exact hc.1
  have ht:b9 a.aD=true:=by
   rcases hv with hv|hv
   ·exact hv
   ·exact absurd ha hv
  simp only[cond_true];rw[Lo N h.l.Rk _ _ _ ht,amM,YD];rfl
 |false=>
  simp only[cond_false];rw[HR,amM,HR,amM,fJ,amM];cases (dK a).2&&(dK b).2 with
  |false=>exact J
  |true=>
   simp only[cond_true];rw[VJ N h.l.ED h.len,amM,BE,fJ,amM];cases (lD (dK a).1 (dK b).1).2&&(lD (dK a).1 (dK b).1).1.xL.length==0 with
   |false=>exact J
   |true=>
    simp only[cond_true,YD,amM];exact abG _ λs=>some (EO op s,true)
theorem akM{e:an}(h:xd e):b9 e.aD=true\/e.aq≠1:=by
 have ht:=h.typed;unfold jr at ht;by_cases h1:e.aq=1
 ·rw[h1]at ht;simp at ht;exact .inl ht.1
 ·exact .inr h1
theorem agX{op:Int}{l:anD an}:∀{k i:Nat}{x:an},lF op k l=true->l[i]?=some x->bn x=wantsB op (k+i):=by
 induction l with
 |nil=>intro k i x _ h;cases h
 |cons a l ih=>
  intro k i x h hx;rw[lF,amP,beq_iff_eq]at h;cases i with
  |zero=>cases hx;exact h.1
  |succ i=>
   rw[anp]at hx;have:=ih h.2 hx
   rwa [show k+1+i=k+(i+1) by omega]at this
theorem xd.arg{e x:an}{i:Nat}(h:xd e)(hx:e.aw[i]?=some x):bn x=wantsB e.aq i:=by
 have ht:=h.typed;unfold jr at ht;rw[amP]at ht;have:=agX ht.2 hx
 rwa [am7]at this
theorem agc{e:an}(h:bn e=true):13<=e.aq:=by
 unfold bn at h;simp only[amP,decide_eq_true_eq]at h;exact h.1
theorem X2(x:Bool)(q r:Bool×Bool):(Option.bind (bif q.2 then(bif (q.1==x)then some true else(bif r.2 then some (r.1==x)else some false))else(bif r.2 then some (r.1==x)else some false)) λv12=>
 bif v12 then some (x,true)else Option.bind (bif x then(bif q.2 then some (false,r.2)else some (false,false))else(bif q.2 then some (r.2,r.2)else some (false,false))) λaW=>some (aW.1,aW.2))
 =some (bif (q.2&&q.1==x)||(r.2&&r.1==x)then(x,true)else(!x&&(q.2&&r.2),q.2&&r.2)):=by
 obtain⟨q1,q2⟩:=q;obtain⟨r1,r2⟩:=r;cases x<;>cases q1<;>cases q2<;>cases r1<;>cases r2<;>rfl
theorem ahn(q:Bool×Bool):(Option.bind (bif q.2 then some (!q.1)else some false) λv6=>some (v6,q.2))=some (q.2&& !q.1,q.2):=by
 obtain⟨q1,q2⟩:=q;cases q1<;>cases q2<;>rfl
theorem Ww(N:Nat):∀(n:Nat)(e:an),SizeOf.sizeOf e<n->En N e->bn e=true->∀d,SizeOf.sizeOf e<d->kt N d e=some (fa e)
 |0,_,h,_,_,_,_=>absurd h (ang _)
 |n+1,e,hn,hE,hc,d,hd=>by
  obtain⟨d,rfl⟩:∃k,d=k+1:=⟨d-1,by omega⟩;have ih:∀x∈e.aw,bn x=true->kt N d x=some (fa x):=λx hx tM=>Ww N n x (by have:=fW hx;omega) (hE.arg hx) tM d (by have:=fW hx;omega);have hA:∀(i:Nat)(x:an),e.aw[i]?=some x->bn x=wantsB e.aq i:=λi x hx=>hE.node.arg hx;have hT:∀x∈e.aw,b9 x.aD=true\/x.aq≠1:=λx hx=>akM (hE.arg hx).node;have sh:=mn hE.node;have ho:=agc hc;rw[kt,SA];clear hn hd;cases sh with
  |leaf h=>exfalso;dsimp only at ho;omega
  |one h=>
   rename_i a
   have gN:=ho;dsimp only at gN;rcases h with rfl|rfl|rfl
   ·exact absurd gN (by decide)
   ·exact absurd gN (by decide)
   ·have i1:=ih a (by simp) ((hA 0 a rfl).trans rfl);show((kt N d a).bind λv5=>Option.bind (bif v5.2 then some (!v5.1)else some false) λv6=>some (v6,v5.2))=some ((fa a).2&& !(fa a).1,(fa a).2);rw[i1,amM];exact ahn _
  |two h=>
   rename_i a b
   have gN:=ho;dsimp only at gN;have t1:=hT a (by simp);rcases h with rfl|rfl|rfl|rfl|rfl|rfl|rfl|rfl|rfl|rfl|rfl
   ·exact absurd gN (by decide)
   ·exact absurd gN (by decide)
   ·exact absurd gN (by decide)
   ·exact absurd gN (by decide)
   ·exact absurd gN (by decide)
   ·exact absurd gN (by decide)
   ·show Option.bind (xq N _) _=some (qa 13 a b);rw[Pa hE.two t1];rfl
   ·show Option.bind (xq N _) _=some (qa 14 a b);rw[Pa hE.two t1];rfl
   ·show Option.bind (xq N _) _=some (qa 15 a b);rw[Pa hE.two t1];rfl
   ·have i1:=ih a (by simp) ((hA 0 a rfl).trans rfl);have i2:=ih b (by simp) ((hA 1 b rfl).trans rfl);show Option.bind (kt N d a) (λv9=>Option.bind (kt N d b) _)=_;rw[i1,amM,i2,amM];exact X2 false _ _
   ·have i1:=ih a (by simp) ((hA 0 a rfl).trans rfl);have i2:=ih b (by simp) ((hA 1 b rfl).trans rfl);show Option.bind (kt N d a) (λv9=>Option.bind (kt N d b) _)=_;rw[i1,amM,i2,amM];exact X2 true _ _
  |three h=>exfalso;dsimp only at ho;omega
theorem C1{N:Nat}{e:an}(h:En N e)(hc:bn e=true):wX N e=some (fa e):=Ww N _ e (anB _) h hc N (by have:=h.sz;omega)
def cV(r:anF (an×Bool))(o:anF an):Prop:=∃x,r=some (x,o.isSome)/\∀y,o=some y->x=y
theorem cV.no{r:anF (an×Bool)}{x:an}(h:r=some (x,false)):cV r none:=⟨x,h,λ_ h=>by cases h⟩
theorem cV.yes{r:anF (an×Bool)}{x:an}(h:r=some (x,true)):cV r (some x):=⟨x,h,λ_ h=>by cases h;rfl⟩
theorem cV.ite{r:anF (an×Bool)}{x:an}{b:Bool}(h:r=some (x,b)):cV r (bif b then some x else none):=by
 cases b
 ·exact .no h
 ·exact .yes h
theorem cV.eta{r:anF (an×Bool)}{o:anF an}(h:cV r o):cV (Option.bind r λv=>some (v.1,v.2)) o:=by
 obtain⟨x,rfl,h2⟩:=h;exact⟨x,rfl,h2⟩
theorem cV.ic{l:aP}{o:X aP}(r:anF (an×Bool))(h:r=some (ixE (AU dI o).1,(AU dI o).2==0)):cV r (kO o):=by
 cases o with
 |ok l=>exact .yes h
 |error e=>exact .no (h.trans (by show some (_,e.code==0)=_;rw[Sv]))
theorem cV.lD{f g:aP}{r:anF (an×Bool)}(h:r=some (ixE (lD f g).1,(lD f g).2)):cV r (kO (kR f g)):=by
 unfold Go.Proofs.YtfdhojiehjfghaaGreatDoor.lD at h;cases hm:kR f g with
 |ok l=>rw[hm]at h;exact .yes h
 |error e=>rw[hm]at h;exact .no h
theorem cV.Qu{o:X aP}{r:anF (an×Bool)}(h:r=some (ixE (AU dI o).1,(AU dI o).2==0)):cV r (kO o):=cV.ic (l:=dI) r h
theorem cV.val{t:aF}{o:aB×Int}{r:anF (an×Bool)}(h:r=some (fB t o.1,o.2==0)):cV r (ve t o):=cV.ite h
abbrev nd(e:an)(k:Kn):fb:=⟨e,k⟩
theorem ajT(t:aF):gx t t=true:=By.2 rfl
theorem YU(a b c:Bool):(bif a then some true else(bif b then some true else some c))=some (a||(b||c)):=by cases a<;>cases b<;>rfl
theorem xS(N:Nat)(hN:9223372036854775808<N)(op:Int)(a b:an):cV (Option.bind (bif (a.aq !=1)then some true else(bif (b.aq !=1)then some true else some (!gx a.aD b.aD))) λv6=>bif v6 then some (fg,false)else (xJ N op a.aD a.bg b.bg).bind λv7=>(ta N a.aD v7.1).bind λv8=>some (v8,(v7.2==0)))
 (bif a.aq==1&&(b.aq==1&&gx a.aD b.aD)then ve a.aD (cJ op a.aD a.bg b.bg)else none):=by
 rw[YU,amM,K7 N hN,amM];unfold ta;rw[amM,kY,kY];cases a.aq==1 with
 |false=>exact .no rfl
 |true=>
  cases b.aq==1 with
  |false=>exact .no rfl
  |true=>
   cases gx a.aD b.aD with
   |false=>exact .no rfl
   |true=>exact .val rfl
theorem Wb:aS ((1:Nat)-(1:Int))=0:=by decide
theorem VZ:aS ((2:Nat)-(1:Int))=1:=by decide
theorem akJ{N:Nat}{e:an}(h:En N e)(k:Kn):cV (BR N (nd e k)) (pY e):=by
 have hN:=h.hN;have sh:=mn h.node;clear h;unfold BR pY;cases sh with
 |leaf h=>rcases h with rfl|rfl|rfl<;>exact .no rfl
 |one h=>
  rename_i a
  rcases h with rfl|rfl|rfl
  ·have c:=xS N hN 8 a a;have e1:aS ((([a]:anD an).length:Int)-1)=0:=Wb;dsimp only at e1 ⊢;rw[e1];have c2:(a.aq==1&&(a.aq==1&&gx a.aD a.aD))=(true&&a.aq==1):=by rw[ajT];cases a.aq==1<;>rfl
   rw[c2]at c;exact c
  ·exact .no rfl
  ·exact .no rfl
 |two h=>
  rename_i a b
  have e1:aS ((([a,b]:anD an).length:Int)-1)=1:=VZ;dsimp only at e1 ⊢;rw[e1];rcases h with rfl|rfl|rfl|rfl|rfl|rfl|rfl|rfl|rfl|rfl|rfl
  ·exact xS N hN 4 a b
  ·exact xS N hN 5 a b
  ·exact xS N hN 6 a b
  ·exact xS N hN 7 a b
  ·exact xS N hN 9 a b
  ·exact xS N hN 10 a b
  all_goals exact .no rfl
 |three h=>subst h;exact .no rfl
theorem ami{N:Nat}{e:an}(h:En N e)(k:Kn):cV (Gr N (nd e k)) (oU e):=by
 have hN:=h.hN;have A:∀x∈e.aw,En N x:=λx hx=>h.arg hx;have sh:=mn h.node;clear h;unfold Gr oU;cases sh with
 |leaf h=>rcases h with rfl|rfl|rfl<;>exact .no rfl
 |one h=>
  rename_i nm v t l i a
  rcases h with rfl|rfl|rfl
  ·exact .no rfl
  ·show cV (bif a.aq==1 then Option.bind (AF N a.aD t a.bg) _ else Option.bind (q7 N a) _) (bif a.aq==1 then ve t (nx a.aD t a.bg)else bif (da a).cW&&gx (da a).yT t then some a else none);rw[Xp N hN,GV (A a (by simp)),amM,amM];cases a.aq==1 with
   |true=>exact .val rfl
   |false=>
    show cV (Option.bind (bif (da a).cW then some (gx (da a).yT t)else some false) λv6=>some (a,v6)) _;rw[fJ];exact .ite rfl
  ·exact .no rfl
 |two h=>rcases h with rfl|rfl|rfl|rfl|rfl|rfl|rfl|rfl|rfl|rfl|rfl<;>exact .no rfl
 |three h=>subst h;exact .no rfl
theorem aiX(op:Int)(a b:an):rX op a b=bif (dK a).2&&((dK b).2&&(a.aq==2||b.aq==2))then kO (bif op==5 then kR (dK a).1 (dK b).1 else n4 (dK a).1 (dK b).1)else none:=by
 unfold rX dK;cases gX a with
 |none=>rfl
 |some f=>cases gX b<;>rfl
theorem SW{N:Nat}{op:Int}{n v t l i a b}(h:vy N a b)(ho:op=4\/op=5):cV (HU N ⟨op,n,v,t,l,i,[a,b]⟩) (rX op a b):=by
 rw[aiX];unfold HU;show cV ((sJ N a).bind λv3=>Option.bind (sJ N b) _) _;rw[HR,amM,HR,amM];have e1:(bif (dK a).2 then(bif (dK b).2 then(bif (a.aq !=2)then some (b.aq !=2)else some false)else some true)else some true)=some (!((dK a).2&&((dK b).2&&(a.aq==2||b.aq==2)))):=by
   rw[kY,kY];cases (dK a).2<;>cases (dK b).2<;>cases a.aq==2<;>cases b.aq==2<;>rfl
 rw[e1,amM];cases (dK a).2&&((dK b).2&&(a.aq==2||b.aq==2))with
 |false=>exact .no rfl
 |true=>
  simp only[Bool.not_true,cond_false,cond_true];have hl:=h.len;have hn:=h.l.ED;rcases ho with rfl|rfl
  ·show cV (Option.bind (wG N (dK a).1 (dK b).1) _) (kO (n4 (dK a).1 (dK b).1));rw[V6 N (by omega) _ _ (by omega) (by omega)];exact .Qu rfl
  ·show cV (Option.bind (yU N (dK a).1 (dK b).1) _) (kO (kR (dK a).1 (dK b).1));rw[VJ N hn hl];exact .lD rfl
theorem al6{N:Nat}{a b:an}(h:vy N a b):cV (JG N a b) (tN a b):=by
 have J:∀x y:an,W wT x<=800000->cV (E2 N x y) (bif x.aq==2&&qV y then kO (kV x.aM y.bg.xN)else none):=λx y hx=>by
  unfold E2 qV;rw[YU,amM,kY,kY,kY];cases x.aq==2 with
  |false=>exact .no rfl
  |true=>
   cases y.aq==1 with
   |false=>exact .no rfl
   |true=>
    cases y.aD.aL==3 with
    |false=>exact .no rfl
    |true=>
     show cV (Option.bind (vm N x.aM y.bg.xN) _) (kO (kV x.aM y.bg.xN));rw[NY N (by have:=h.l.ED;omega) _ _ (am5 (Io x) (am5 hx (by decide)))];exact .Qu rfl
 have ht:=h.t;have j1:=J a b (by omega);have j2:=J b a (by omega);unfold JG tN;cases h1:a.aq==1 with
 |true=>
  have ha:a.aq=1:=by simpa using h1
  have ha2:(a.aq==2)=false:=by rw[ha];rfl
  rw[ha2];simp only[cond_true,Bool.false_and,cond_false];rw[Bool.and_comm];exact j2
 |false=>
  have hw:qV a=false:=by unfold qV;rw[h1];rfl
  rw[hw];simp only[cond_false,Bool.false_and];exact j1
theorem agT{N:Nat}{e:an}(h:En N e)(k:Kn):cV (Hz N (nd e k)) (pF e):=by
 have A:∀x∈e.aw,En N x:=λx hx=>h.arg hx;have ED:=h.ED;have B:∀a b,e.aw=[a,b]->vy N a b:=λa b hab=>by
  obtain⟨op,n,v,t,l,i,al⟩:=e;cases hab
  exact h.two
 have sh:=mn h.node;clear h;unfold Hz pF;cases sh with
 |leaf h=>
  rcases h with rfl|rfl|rfl
  ·exact .no rfl
  ·rename_i n v t l i
   show cV (Option.bind (ta N DM ⟨l.xK,1⟩) λv2=>Option.bind (bif ((l.xL.length:Int)==0)then(bif decide (-2147483647<=l.xK.toInt)then some (decide (l.xK.toInt<=2147483647))else some false)else some false) λv3=>some (v2,v3)) (bif l.xL.length==0&&(decide (-2147483647<=l.xK.toInt)&&decide (l.xK.toInt<=2147483647))then some (fB DM ⟨l.xK,1⟩)else none);rw[Yw,BE];exact .ite rfl
  ·exact .no rfl
 |one h=>
  rename_i n v t l i a
  rcases h with rfl|rfl|rfl
  ·show cV (bif a.aq==2 then Option.bind (vm N a.aM (-1)) _ else some (fg,false)) (bif true&&a.aq==2 then kO (kV a.aM (-1))else none);rw[NY N (by omega) _ _ (am5 (Io a) (am5 (A a (by simp)).t (by decide)))];cases a.aq==2 with
   |false=>exact .no rfl
   |true=>exact .Qu rfl
  ·exact .no rfl
  ·exact .no rfl
 |two h=>
  rename_i n v t l i a b
  have E:=B a b rfl;rcases h with rfl|rfl|rfl|rfl|rfl|rfl|rfl|rfl|rfl|rfl|rfl
  ·exact(SW E (.inl rfl)).eta
  ·exact(SW E (.inr rfl)).eta
  ·exact(al6 E).eta
  all_goals exact .no rfl
 |three h=>subst h;exact .no rfl
theorem ahV{r:anF (Bool×Bool)}{p:Bool×Bool}{a b:an}(h:r=some p):cV (Option.bind r λv3=>bif v3.1 then (some a).bind λv4=>some (v4,v3.2)else (some b).bind λv5=>some (v5,v3.2)) (bif true&&p.2 then some (bif p.1 then a else b)else none):=by
 subst h;obtain⟨p1,p2⟩:=p;cases p1
 ·exact .ite rfl
 ·exact .ite rfl
theorem ad9{N:Nat}{e:an}(h:En N e)(k:Kn):cV (JY N (nd e k)) (pR e):=by
 have A:∀x∈e.aw,En N x:=λx hx=>h.arg hx;have hA:∀(i:Nat)(x:an),e.aw[i]?=some x->bn x=wantsB e.aq i:=λi x hx=>h.node.arg hx;have sh:=mn h.node;clear h;unfold JY pR;cases sh with
 |leaf h=>rcases h with rfl|rfl|rfl<;>exact .no rfl
 |one h=>rcases h with rfl|rfl|rfl<;>exact .no rfl
 |two h=>rcases h with rfl|rfl|rfl|rfl|rfl|rfl|rfl|rfl|rfl|rfl|rfl<;>exact .no rfl
 |three h=>
  rename_i c a b
  subst h;exact ahV (C1 (A c (by simp)) ((hA 0 c rfl).trans rfl))
theorem Cq{r:anF Bool}{p:Bool}{a:an}(h:r=some p):cV (Option.bind r λv8=>some (a,v8)) (bif true&&p then some a else none):=by
 subst h;exact .ite rfl
theorem aao{N:Nat}{e:an}(h:En N e)(k:Kn):cV (Gy N (nd e k)) (ot e):=by
 have A:∀x∈e.aw,3*SizeOf.sizeOf x+3<=N:=λx hx=>(h.arg hx).eq;have sh:=mn h.node;clear h;unfold Gy ot;cases sh with
 |leaf h=>rcases h with rfl|rfl|rfl<;>exact .no rfl
 |one h=>rcases h with rfl|rfl|rfl<;>exact .no rfl
 |two h=>
  rename_i a b
  have s:=Iz b (A a (by simp));rcases h with rfl|rfl|rfl|rfl|rfl|rfl|rfl|rfl|rfl|rfl|rfl
  ·exact .no rfl
  ·exact .no rfl
  ·exact .no rfl
  ·exact .no rfl
  ·exact Cq s
  ·exact Cq s
  ·exact .no rfl
  ·exact .no rfl
  ·exact .no rfl
  ·exact Cq s
  ·exact Cq s
 |three h=>
  rename_i c a b
  subst h;exact Cq (Iz b (A a (by simp)))
theorem UF(N:Nat)(e:an):ku N e=some (jh e):=by
 unfold ku jh;rw[X8,amM];show Option.bind (bif e.aq==1 then some (tX e.bg (tn e.aD))else some false) _=_;rw[fJ,amM]
theorem aba{N:Nat}{e:an}(h:En N e)(k:Kn):cV (FE N (nd e k)) (oS e):=by
 have sh:=mn h.node;clear h;unfold FE oS;cases sh with
 |leaf h=>rcases h with rfl|rfl|rfl<;>exact .no rfl
 |one h=>rcases h with rfl|rfl|rfl<;>exact .no rfl
 |two h=>
  rename_i a b
  have za:=UF N a;have zb:=UF N b;rcases h with rfl|rfl|rfl|rfl|rfl|rfl|rfl|rfl|rfl|rfl|rfl
  ·show cV ((ku N b).bind λv5=>bif v5 then some (a,true)else (ku N a).bind λv6=>some (b,v6)) (bif jh b then some a else bif jh a then some b else none);rw[za,zb];cases jh b
   ·exact .ite rfl
   ·exact .yes rfl
  ·show cV ((ku N b).bind λv5=>bif v5 then some (a,true)else Option.bind (s6 N 8 [b]) λv8=>(ku N a).bind λv6=>some (v8,v6)) (bif jh b then some a else bif jh a then some (cu 8 [b])else none);rw[za,zb];cases jh b
   ·exact .ite rfl
   ·exact .yes rfl
  ·show cV ((ku N b).bind λv5=>bif v5 then some (b,true)else (ku N a).bind λv6=>some (a,v6)) (bif jh b then some b else bif jh a then some a else none);rw[za,zb];cases jh b
   ·exact .ite rfl
   ·exact .yes rfl
  ·show cV ((ku N a).bind λv6=>some (a,v6)) (bif jh a then some a else none);rw[za];exact .ite rfl
  all_goals exact .no rfl
 |three h=>subst h;exact .no rfl
theorem Uh(N:Nat)(hN:2147483648<N)(e:an):vr N e=some (nS e):=by
 unfold vr nS;rw[Ud N hN,amM,kY];cases e.aq==1 with
 |false=>rfl
 |true=>
  show Option.bind (bif (fM e.aD).2==0 then some (tX e.bg (fM e.aD).1)else some false) _=_;rw[fJ,amM];rfl
theorem ahj{N:Nat}{e:an}(h:En N e)(k:Kn):cV (Hw N (nd e k)) (pz e):=by
 have hN:=h.Rk;have sh:=mn h.node;clear h;unfold Hw pz;cases sh with
 |leaf h=>rcases h with rfl|rfl|rfl<;>exact .no rfl
 |one h=>rcases h with rfl|rfl|rfl<;>exact .no rfl
 |two h=>
  rename_i a b
  have za:=Uh N hN a;have zb:=Uh N hN b;rcases h with rfl|rfl|rfl|rfl|rfl|rfl|rfl|rfl|rfl|rfl|rfl
  ·exact .no rfl
  ·exact .no rfl
  ·show cV ((vr N b).bind λv5=>bif v5 then some (a,true)else Option.bind ((vr N a).bind λv6=>some v6) λv7=>some (b,v7)) (bif nS b then some a else bif nS a then some b else none);rw[za,zb];cases nS b
   ·exact .ite rfl
   ·exact .yes rfl
  ·show cV ((vr N b).bind λv5=>bif v5 then some (a,true)else some (b,false)) (bif nS b then some a else none);rw[zb];cases nS b
   ·exact .no rfl
   ·exact .yes rfl
  all_goals exact .no rfl
 |three h=>subst h;exact .no rfl
theorem aa3{N:Nat}{e:an}(h:En N e)(k:Kn):cV (Hh N (nd e k)) (pQ e k):=by
 have hN:=h.Rk;have A:∀x∈e.aw,3*SizeOf.sizeOf x+3<=N:=λx hx=>(h.arg hx).eq;have sh:=mn h.node;clear h;unfold Hh pQ;cases sh with
 |leaf h=>rcases h with rfl|rfl|rfl<;>exact .no rfl
 |one h=>rcases h with rfl|rfl|rfl<;>exact .no rfl
 |two h=>
  rename_i a b
  have s:=Iz b (A a (by simp));rcases h with rfl|rfl|rfl|rfl|rfl|rfl|rfl|rfl|rfl|rfl|rfl
  ·exact .no rfl
  ·show cV (Option.bind (bif k.cW then (qK N a b).bind λv7=>some (!v7)else some true) λv8=>bif v8 then some (fg,false)else (y0 N k.yT).bind λv9=>some (fB k.yT v9,true)) (bif true&&(k.cW&&m4 a b)then some (fB k.yT (tn k.yT))else none);rw[s,X8];cases k.cW
   ·exact .no rfl
   ·cases m4 a b
    ·exact .no rfl
    ·exact .yes rfl
  ·exact .no rfl
  ·show cV (Option.bind (bif k.cW then (qK N a b).bind λv7=>some (!v7)else some true) λv8=>bif v8 then some (fg,false)else (Ai N k.yT).bind λv11=>Option.bind (bif (k.yT.aL !=2)then some (v11.2==0)else some false) λaW=>some (fB k.yT v11.1,aW)) (bif true&&(k.cW&&m4 a b)then(bif !(k.yT.aL==2)&&(fM k.yT).2==0 then some (fB k.yT (fM k.yT).1)else none)else none);rw[s,Ud N hN];cases k.cW
   ·exact .no rfl
   ·cases m4 a b
    ·exact .no rfl
    ·show cV (Option.bind (bif !(k.yT.aL==2)then some ((fM k.yT).2==0)else some false) λaW=>some (fB k.yT (fM k.yT).1,aW)) _;rw[fJ];exact .ite rfl
  all_goals exact .no rfl
 |three h=>subst h;exact .no rfl
theorem Wc{N:Nat}{a:an}(h:En N a):(a.aw.length:Int)=iY a.aq:=h.v.lX a (vU a)
theorem zT{N:Nat}{a:an}(h:En N a)(ho:(a.aq==8)=true\/(a.aq==18)=true):∃x,a.aw=[x]:=by
 refine Pc (Wc h) ?_;rcases ho with ho|ho<;>(rw[beq_iff_eq]at ho;rw[ho];rfl)
theorem Tw{N:Nat}{a:an}(h:En N a)(ho:(a.aq==13)=true\/(a.aq==14)=true):∃x y,a.aw=[x,y]:=by
 have hr:=Wc h;have:iY a.aq=2:=by rcases ho with ho|ho<;>(rw[beq_iff_eq]at ho;rw[ho];rfl)
 rw[this]at hr;exact(Br (show a.aw.length=2 by omega)).2.2.1 rfl
theorem ajp(k:Kn)(z:Bool):(bif k.cW then(bif (k.yT.aL==2)then(bif (k.yT.bK !=2)then some true else some z)else some z)else some true)=some (!(k.cW&&(!(k.yT.aL==2)||k.yT.bK==2))||z):=by
 rw[kY];cases k.cW<;>cases k.yT.aL==2<;>cases k.yT.bK==2<;>cases z<;>rfl
theorem amc{N:Nat}{e:an}(h:En N e)(k:Kn):cV (JL N (nd e k)) (po e k):=by
 have A:∀x∈e.aw,En N x:=λx hx=>h.arg hx;have sh:=mn h.node;clear h;unfold JL po;rw[ajp,amM];dsimp only;cases (k.cW&&(!(k.yT.aL==2)||k.yT.bK==2))with
 |false=>exact .no rfl
 |true=>
  cases sh with
  |leaf h=>rcases h with rfl|rfl|rfl<;>exact .no rfl
  |one h=>
   rename_i a
   have e1:aS ((([a]:anD an).length:Int)-1)=0:=Wb;dsimp only at e1 ⊢;rw[e1];rcases h with rfl|rfl|rfl
   ·show cV (Option.bind (some (a.aq==8)) λv5=>bif v5 then Option.bind (a.aw[0]?) λv6=>some (v6,true)else _) (bif true&&a.aq==8 then a.aw[0]? else none);cases ho:a.aq==8 with
    |false=>exact .no rfl
    |true=>
     obtain⟨x,hx⟩:=zT (A a (by simp)) (.inl ho);rw[hx];exact .yes rfl
   ·exact .no rfl
   ·exact .no rfl
  |two h=>
   rename_i a b
   have e1:aS ((([a,b]:anD an).length:Int)-1)=1:=VZ;dsimp only at e1 ⊢;rw[e1];rcases h with rfl|rfl|rfl|rfl|rfl|rfl|rfl|rfl|rfl|rfl|rfl
   ·show cV (Option.bind (some (b.aq==8)) λv7=>bif v7 then Option.bind (b.aw[0]?) λv8=>some (cu 5 [a,v8],true)else Option.bind (some (a.aq==8)) λv10=>bif v10 then Option.bind (a.aw[0]?) λv11=>some (cu 5 [b,v11],true)else some (fg,false))
     (bif b.aq==8 then(b.aw[0]?).map λx=>cu 5 [a,x]else bif a.aq==8 then(a.aw[0]?).map λx=>cu 5 [b,x]else none)
    cases ho:b.aq==8 with
    |true=>
     obtain⟨x,hx⟩:=zT (A b (by simp)) (.inl ho);rw[hx];exact .yes rfl
    |false=>
     cases I6:a.aq==8 with
     |true=>
      obtain⟨x,hx⟩:=zT (A a (by simp)) (.inl I6);rw[hx];exact .yes rfl
     |false=>exact .no rfl
   ·show cV (Option.bind (some (b.aq==8)) λaW=>bif aW then Option.bind (b.aw[0]?) λbX=>some (cu 4 [a,bX],true)else some (fg,false))
     (bif true&&b.aq==8 then(b.aw[0]?).map λx=>cu 4 [a,x]else none)
    cases ho:b.aq==8 with
    |true=>
     obtain⟨x,hx⟩:=zT (A b (by simp)) (.inl ho);rw[hx];exact .yes rfl
    |false=>exact .no rfl
   all_goals exact .no rfl
  |three h=>
   rename_i c a b
   subst h;have e1:aS ((([c,a,b]:anD an).length:Int)-1)=2:=by
    have:aS ((3:Nat)-(1:Int))=2:=by decide
    exact this
   dsimp only at e1 ⊢;rw[e1];exact .no rfl
theorem ajP{N:Nat}{e:an}(h:En N e)(k:Kn):cV (Hx N (nd e k)) (n8 e):=by
 have A:∀x∈e.aw,En N x:=λx hx=>h.arg hx;have sh:=mn h.node;clear h;unfold Hx n8;cases sh with
 |leaf h=>rcases h with rfl|rfl|rfl<;>exact .no rfl
 |one h=>
  rename_i c
  rcases h with rfl|rfl|rfl
  ·exact .no rfl
  ·exact .no rfl
  ·show cV (bif c.aq==18 then Option.bind (c.aw[0]?) λv8=>some (v8,true)else bif c.aq==13 then Option.bind (c.aw[1]?) λv9=>Option.bind (c.aw[0]?) λv10=>some (cu 14 [v9,v10],true)else bif c.aq==14 then Option.bind (c.aw[1]?) λv12=>Option.bind (c.aw[0]?) λaW=>some (cu 13 [v12,aW],true)else some (fg,false))
    (bif c.aq==18 then c.aw[0]? else bif c.aq==13 then(match c.aw with|[x,y]=>some (cu 14 [y,x])|_=>none)else bif c.aq==14 then(match c.aw with|[x,y]=>some (cu 13 [y,x])|_=>none)else none)
   have C:=A c (by simp);cases ho:c.aq==18 with
   |true=>
    obtain⟨x,hx⟩:=zT C (.inr ho);rw[hx];exact .yes rfl
   |false=>
    cases I6:c.aq==13 with
    |true=>
     obtain⟨x,y,hx⟩:=Tw C (.inl I6);rw[hx];exact .yes rfl
    |false=>
     cases ho3:c.aq==14 with
     |true=>
      obtain⟨x,y,hx⟩:=Tw C (.inr ho3);rw[hx];exact .yes rfl
     |false=>exact .no rfl
 |two h=>rcases h with rfl|rfl|rfl|rfl|rfl|rfl|rfl|rfl|rfl|rfl|rfl<;>exact .no rfl
 |three h=>
  rename_i c a b
  subst h;show cV (bif !(c.aq==18)then some (fg,false)else Option.bind (c.aw[0]?) λv4=>some (cu 11 [v4,b,a],true)) (bif true&&c.aq==18 then(c.aw[0]?).map λx=>cu 11 [x,b,a]else none);cases ho:c.aq==18 with
  |true=>
   obtain⟨x,hx⟩:=zT (A c (by simp)) (.inr ho);rw[hx];exact .yes rfl
  |false=>exact .no rfl
theorem Tg{f:an->anF (Bool×Bool)}{a b:an}{p q:Bool×Bool}(z:Bool)(ha:f a=some p)(hb:f b=some q):cV ((f a).bind λv4=>Option.bind (bif v4.2 then some (v4.1==z)else some false) λv5=>bif v5 then (some b).bind λv6=>some (v6,true)else (some b).bind λv7=>(f v7).bind λv8=>Option.bind (bif v8.2 then some (v8.1==z)else some false) λv9=>some (a,v9))
 (bif p.2&&p.1==z then some b else bif q.2&&q.1==z then some a else none):=by
 rw[ha,amM,fJ,amM];cases (p.2&&p.1==z)with
 |true=>exact .yes rfl
 |false=>
  simp only[cond_false,amM];rw[hb,amM,fJ];exact .ite rfl
theorem Z7{N:Nat}{e:an}(h:En N e)(k:Kn):cV (J5 N (nd e k)) (pM e):=by
 have A:∀x∈e.aw,En N x:=λx hx=>h.arg hx;have hA:∀(i:Nat)(x:an),e.aw[i]?=some x->bn x=wantsB e.aq i:=λi x hx=>h.node.arg hx;have sh:=mn h.node;clear h;unfold J5 pM;cases sh with
 |leaf h=>rcases h with rfl|rfl|rfl<;>exact .no rfl
 |one h=>rcases h with rfl|rfl|rfl<;>exact .no rfl
 |two h=>
  rename_i a b
  rcases h with rfl|rfl|rfl|rfl|rfl|rfl|rfl|rfl|rfl|rfl|rfl
  case inr.inr.inr.inr.inr.inr.inr.inr.inr.inl=>exact Tg (f:=wX N) true (C1 (A a (by simp)) ((hA 0 a rfl).trans rfl)) (C1 (A b (by simp)) ((hA 1 b rfl).trans rfl))
  case inr.inr.inr.inr.inr.inr.inr.inr.inr.inr=>exact Tg (f:=wX N) false (C1 (A a (by simp)) ((hA 0 a rfl).trans rfl)) (C1 (A b (by simp)) ((hA 1 b rfl).trans rfl))
  all_goals exact .no rfl
 |three h=>subst h;exact .no rfl
abbrev Tp:=Bool×anE×an
def pA(b:Bool)(s:anE)(x:an):Tp:=(b,s,x)
def lK(v:Tp):an:=v.2.2
theorem Ag(b:Bool)(s:anE)(x:an):lK (pA b s x)=x:=rfl
abbrev Tr:=anE->an->anF Tp
def ch:anD Tr->anE->an->anF (Bool×an×anE)
 |[],s,x=>some (false,x,s)
 |[f],s,x=>(f s x).bind λv=>some (v.1,lK v,v.2.1)
 |f::g::l,s,x=>(f s x).bind λv=>bif v.1 then some (true,lK v,v.2.1)else ch (g::l) v.2.1 (lK v)
def Je(o:anF an)(s old:anE)(x:an):Tp:=match o with|some y=>pA true s y|none=>pA false old x
def Tx(f:Tr)(o:anF an)(s:anE):Prop:=∀old x,f old x=some (Je o s old x)
theorem qe{r:anF (an×Bool)}{o:anF an}(s old:anE)(x:an)(h:cV r o):(Option.bind r λv=>bif v.2 then some (pA v.2 s v.1)else some (pA v.2 old x))=some (Je o s old x):=by
 obtain⟨y,rfl,h2⟩:=h;cases o with
 |none=>rfl
 |some z=>obtain rfl:=h2 z rfl;rfl
def BL(r:Rw)(old:anE)(x:an):Bool×an×anE:=match r with|some y=>(true,y.1,y.2)|none=>(false,x,old)
def CY(l:anD (Tr×anF an×anE)):Rw:=l.foldr (λt r=>kT t.2.1 t.2.2 r) none
theorem WE:∀(l:anD (Tr×anF an×anE))(old:anE)(x:an),(∀t∈l,Tx t.1 t.2.1 t.2.2)->
 ch (l.map (·.1)) old x=some (BL (CY l) old x)
 |[],old,x,_=>rfl
 |[t],old,x,h=>by
  show Option.bind (t.1 old x) (λv=>some (v.1,lK v,v.2.1))=some (BL (kT t.2.1 t.2.2 none) old x);rw[h t (by simp) old x];cases t.2.1 with
  |some y=>show some (true,lK (pA true t.2.2 y),t.2.2)=_;rw[Ag];rfl
  |none=>show some (false,lK (pA false old x),old)=_;rw[Ag];rfl
 |t::u::l,old,x,h=>by
  show Option.bind (t.1 old x) (λv=>bif v.1 then some (true,lK v,v.2.1)else ch ((u::l).map (·.1)) v.2.1 (lK v))=some (BL (kT t.2.1 t.2.2 (CY (u::l))) old x);have ih:=WE (u::l) old x λq hq=>h q (amW _ hq);rw[h t (by simp) old x];cases t.2.1 with
  |some y=>show some (true,lK (pA true t.2.2 y),t.2.2)=_;rw[Ag];rfl
  |none=>show ch ((u::l).map (·.1)) old (lK (pA false old x))=_;rw[Ag];exact ih
noncomputable def E4(N:Nat)(e:an)(k:Kn):anD (Tr×anF an×anE):=
 [(λold _=>ym N (nd e k) (bs [102,111,108,100]) old 0 (bs []) bZ dZ 0,pY e,LD),
  (λold x=>Qy N (nd e k) (bs [99,97,115,116]) old x,oU e,PH),
  (λold x=>Q1 N (nd e k) (bs [105,110,100,101,120]) old x,pF e,Ni),
  (λold x=>QF N (nd e k) (bs [105,102]) old x,pR e,Ra),
  (λold x=>Li N (nd e k) (bs [115,97,109,101]) old x,ot e,L8),
  (λold x=>MF N (nd e k) (bs [122,101,114,111]) old x,oS e,KT),
  (λold x=>KK N (nd e k) (bs [111,110,101]) old x,pz e,P3),
  (λold x=>Ri N (nd e k) (bs [99,97,110,99,101,108]) old x,pQ e k,P8),
  (λold x=>QL N (nd e k) (bs [110,101,103,97,116,101]) old x,po e k,PM),
  (λold x=>Oo N (nd e k) (bs [110,111,116]) old x,n8 e,Mg),
  (λold x=>OZ N (nd e k) (bs [108,111,103,105,99]) old x,pM e,Lc)]
theorem aei(N:Nat)(e:an)(k:Kn):ER N (nd e k)=Option.bind (ch ((E4 N e k).map (·.1)) (bs []) fg) λaW=>some (aW.2.1,aW.2.2,aW.1):=by
 unfold ER E4;simp only[anc,List.map_nil,ch];rw[Option.bind_assoc];rfl
theorem ag7{N:Nat}{e:an}(k:Kn){o:anF an}(s old:anE)(h:cV (BR N (nd e k)) o):ym N (nd e k) s old 0 (bs []) bZ dZ 0=some (Je o s old fg):=by
 obtain⟨y,e1,h2⟩:=h;unfold ym C0;rw[e1];cases o with
 |none=>rfl
 |some z=>obtain rfl:=h2 z rfl;cases y;rfl
def r3(r:Rw)(e:an):an×anE×Bool:=match r with|some y=>(y.1,y.2,true)|none=>(e,bs [],false)
theorem ZZ(t u:Tr×anF an×anE)(l:anD (Tr×anF an×anE))(old:anE)(x:an)(h0:t.1 old x=some (Je t.2.1 t.2.2 old x))(h:∀q∈u::l,Tx q.1 q.2.1 q.2.2):
 ch ((t::u::l).map (·.1)) old x=some (BL (CY (t::u::l)) old x):=by
 show Option.bind (t.1 old x) (λv=>bif v.1 then some (true,lK v,v.2.1)else ch ((u::l).map (·.1)) v.2.1 (lK v))=some (BL (kT t.2.1 t.2.2 (CY (u::l))) old x);have ih:=WE (u::l) old x h;rw[h0];cases t.2.1 with
 |some y=>show some (true,lK (pA true t.2.2 y),t.2.2)=_;rw[Ag];rfl
 |none=>show ch ((u::l).map (·.1)) old (lK (pA false old x))=_;rw[Ag];exact ih
theorem ajs{N:Nat}{e:an}(h:En N e)(k:Kn):ER N (nd e k)=some (r3 (jo e k) fg):=by
 rw[aei];unfold E4;rw[ZZ]
 ·show some _=_;have:CY (E4 N e k)=jo e k:=rfl;unfold E4 at this;rw[this];cases jo e k<;>rfl
 ·exact ag7 k LD _ (akJ h k)
 ·intro t ht;simp only[ani,anu,or_false]at ht;rcases ht with rfl|rfl|rfl|rfl|rfl|rfl|rfl|rfl|rfl|rfl
  ·exact λold x=>qe PH old x (ami h k)
  ·exact λold x=>qe Ni old x (agT h k)
  ·exact λold x=>qe Ra old x (ad9 h k)
  ·exact λold x=>qe L8 old x (aao h k)
  ·exact λold x=>qe KT old x (aba h k)
  ·exact λold x=>qe P3 old x (ahj h k)
  ·exact λold x=>qe P8 old x (aa3 h k)
  ·exact λold x=>qe PM old x (amc h k)
  ·exact λold x=>qe Mg old x (ajP h k)
  ·exact λold x=>qe Lc old x (Z7 h k)
theorem abp{e:an}(h:xd e):e.aw.length<=3:=by
 have sh:=mn h;clear h;cases sh<;>simp
theorem SF{N:Nat}{e:an}(h:En N e)(k:Kn)(rec:an->Kn->anF (an×anE×Bool))(hr:∀x∈e.aw,∀q,rec x q=some (r3 (lv x q) x)):
 ∀(l:anD an)(i:Nat),e.aw.drop i=l->GI N e k rec l i=some (r3 (l8 lv e k i l) e)
 |[],i,_=>rfl
 |x::l,i,hd=>by
  have hx:x∈e.aw:=am0 (cO hd);have hl:=abp h.node;rw[GI,adQ h,amM,hr x hx,amM,l8];cases hf:lv x (jF e k i)with
  |none=>exact SF h k rec hr l (i+1) (nC hd)
  |some y=>
   show(bif Nat.ble (e.aw.length*160) 140737488355328 then Option.bind (e.aw[i]?) λv10=>bif Nat.beq (e.aw.set i y.1).length e.aw.length then some ((⟨e.aq,e.aO,e.bg,e.aD,e.aM,e.xIdx,e.aw.set i y.1⟩:an),y.2,true)else none else none)=_;rw[xo (by omega),cO hd,List.length_set,ui];rfl
theorem XK(N:Nat):∀(d:Nat)(e:an)(k:Kn),SizeOf.sizeOf e<d->En N e->vA N d e k=some (r3 (lv e k) e)
 |0,_,_,h,_=>absurd h (ang _)
 |d+1,e,k,hd,h=>by
  have hw:=ajs h k;rw[vA,hw,amM,CD];cases jo e k with
  |some y=>rfl
  |none=>exact SF h k _ (λx hx q=>XK N d x q (by have:=fW hx;omega) (h.arg hx)) e.aw 0 rfl
structure nbN(e:an):Prop where
 idx:e.xIdx.length<=1000000
 each:∀x∈e.xIdx,Qg x
 args:e.aw.length<=1000000
structure Iv(e:an):Prop where
 nb:∀y∈dq e,nbN y
 ic:∀y∈dq e,y.aM.xL.length<=1000000
 t:hJ e=0->W wT e<=600000
theorem Iv.bd{e:an}(h:Iv e):uh e:=λy hy=>⟨h.ic y hy,(h.nb y hy).idx,(h.nb y hy).each,(h.nb y hy).args⟩
theorem X4{w:an->Nat}:∀{l:anD an}{y:an},y∈l->w y<=(l.map w).sum
 |x::l,y,h=>by
  rw[anc,List.sum_cons];rcases ani.1 h with rfl|h
  ·omega
  ·have:=X4 (w:=w) h;omega
theorem Uc{w:an->Nat}{B:Nat}:∀{l:anD an},(∀y∈l,w y<=B)->(l.map w).sum<=l.length*B
 |[],_=>Nat.zero_le _
 |x::l,h=>by
  rw[anc,List.sum_cons,amQ];have:=Uc (w:=w) λy hy=>h y (amW x hy);have:=h x amT;rw[Nat.succ_mul];omega
theorem Wi{w:an->Nat}{B:Nat}{e:an}(h:∀y∈dq e,w y<=B)(hv:hJ e=0):W w e<=2000*B:=by
 have h1:=Uc h;have h2:=(Aj hv).2.2;have h3:(dq e).length*B<=2000*B:=Nat.mul_le_mul_right _ h2;exact am5 h1 h3
theorem Iv.step{t:aF}{e x:an}{s:anE}(h:Iv e)(hs:fv t e=some (x,s)):Iv x:=by
 have hv:=(rP hs).2.1;have ht:W wT x<=W wT e:=G9 abB ajE hs;have h6:=h.t hv;refine⟨Vv (λt v=>⟨Nat.zero_le _,λx hx=>(by cases hx),Nat.zero_le _⟩) (λl=>⟨Nat.zero_le _,λx hx=>(by cases hx),Nat.zero_le _⟩) (λop l _ hl=>⟨Nat.zero_le _,λx hx=>(by cases hx),am5 hl (by decide)⟩) (λe i x hb=>⟨hb.idx,hb.each,by show(e.aw.set i x).length<=_;rw[List.length_set];exact hb.args⟩) hs h.nb,λy hy=> ?_,λ_=>by omega⟩;have:wT y<=W wT x:=X4 hy;exact am5 this (by omega)
theorem Iv.en{N:Nat}{e:an}(h:Iv e)(hv:hJ e=0)(hN:9223372036854775808<N)(hs:8*SizeOf.sizeOf e+16<=N):En N e:=
 ⟨hN,hs,(Aj hv).1,am5 (h.t hv) (by decide)⟩
theorem ahS{N:Nat}{t:aF}{e:an}(h:Iv e)(hN:9223372036854775808<N)(hs:8*SizeOf.sizeOf e+16<=N)(hx:∀x s,fv t e=some (x,s)->SizeOf.sizeOf x<N):tO N t e=some (r3 (fv t e) e):=by
 have hb:=h.bd;unfold tO;rw[pE,Zk N (Nat.lt_trans (by decide) hN) e hb.ok,Rx,PU N e (by omega) hb];have jn:fv t e=bif b9 t&&hJ e==0 then lv e ⟨t,!bn e⟩else none:=rfl;cases ht:b9 t with
 |false=>rw[jn,ht];rfl
 |true=>
  cases hv:hJ e==0 with
  |false=>
   rw[jn,ht,hv];simp only[amM,cond_true,bne_self_eq_false,cond_false,kY,hv];rfl
  |true=>
   have rh:hJ e=0:=by simpa using hv
   have E:=h.en rh hN hs;simp only[amM,cond_true,bne_self_eq_false,cond_false,kY,hv,Bool.not_true];have hf:=XK N N e ⟨t,!bn e⟩ (by omega) E;have Vr:fv t e=lv e ⟨t,!bn e⟩:=by rw[jn,ht,hv];rfl
   unfold Pg;rw[hf,amM,Vr];cases hr:lv e ⟨t,!bn e⟩with
   |none=>
    show Option.bind (vM N e) _=_;rw[PU N e (by omega) hb];rfl
   |some y=>
    have bP:fv t e=some (y.1,y.2):=by rw[Vr,hr]
    show Option.bind (vM N y.1) _=_;rw[PU N y.1 (hx y.1 y.2 bP) (h.step bP).bd];rfl
theorem acL(n:Nat):AD (n+3000)=some true:=by kernel_rfl
theorem mD.iv{e:an}(h:mD 300 e):Iv e:=by
 refine⟨λy hy=> ?_,λy hy=>am5 (h y hy).ic (by decide),λhv=>Wi (w:=wT) (B:=300) (λy hy=>(h y hy).ic) hv⟩;have H:=h y hy;exact⟨am5 H.idx (by decide),λx hx=>⟨am5 (H.each x hx).ic (by decide),am5 (H.each x hx).at_ (by decide),λl hl=>am5 ((H.each x hx).vw l hl) (by decide)⟩,am5 H.args (by decide)⟩
noncomputable def oW:Nat->aF->an->Nat->an×Nat
 |0,_,e,n=>(e,n)
 |f+1,t,e,n=>match fv t e with|some y=>oW f t y.1 (n+1)|none=>(e,n)
noncomputable def uy:Nat->aF->an->Nat
 |0,_,e=>SizeOf.sizeOf e
 |f+1,t,e=>SizeOf.sizeOf e+match fv t e with|some y=>uy f t y.1|none=>0
theorem AB(f:Nat)(t:aF)(e:an):SizeOf.sizeOf e<=uy f t e:=by
 cases f with
 |zero=>exact amY _
 |succ f=>exact ant _ _
theorem Ow{f:Nat}{t:aF}{e:an}{y:an×anE}(h:fv t e=some y):uy (f+1) t e=SizeOf.sizeOf e+uy f t y.1:=by rw[uy,h]
theorem PI{f:Nat}{t:aF}{e:an}{n:Nat}{y:an×anE}(h:fv t e=some y):oW (f+1) t e n=oW f t y.1 (n+1):=by rw[oW,h]
theorem On{f:Nat}{t:aF}{e:an}{n:Nat}(h:fv t e=none):oW (f+1) t e n=(e,n):=by rw[oW,h]
structure Rn(N f:Nat)(t:aF)(e:an)(n:Nat):Prop where
 m:W wM e<f
 hN:9223372036854775808<N
 sz:8*uy f t e+16<=N
 iv:Iv e
 n:hJ e=0->n+W wM e<=100000
theorem Rn.next{N f:Nat}{t:aF}{e:an}{n:Nat}(h:Rn N (f+1) t e n){y:an×anE}(hs:fv t e=some y):Rn N f t y.1 (n+1):=by
 have bP:fv t e=some (y.1,y.2):=hs;have hm:=aiP bP;have:=h.m;have h1:=h.sz;rw[Ow hs]at h1;have h2:=h.n (rP bP).2.1;exact⟨by omega,h.hN,by omega,h.iv.step bP,λ_=>by omega⟩
theorem Rn.MQ{N f:Nat}{t:aF}{e:an}{n:Nat}(h:Rn N f t e n):tO N t e=some (r3 (fv t e) e):=by
 obtain⟨f,rfl⟩:∃k,f=k+1:=⟨f-1,by have:=h.m;omega⟩;have h1:=h.sz;have h2:=AB (f+1) t e;refine ahS h.iv h.hN (by omega) λx s hs=> ?_;rw[Ow hs]at h1;have h3:=AB f t x;dsimp only at h1;omega
theorem Zt(N:Nat)(t:aF):∀(f:Nat)(e:an)(n F:Nat),Rn N f t e n->f<=F->zY N t F (n:Int) e=some ((oW f t e n).1,((oW f t e n).2:Int))
 |0,e,n,F,h,_=>absurd h.m (ang _)
 |f+1,e,n,F,h,hF=>by
  obtain⟨F,rfl⟩:∃k,F=k+1:=⟨F-1,by omega⟩;rw[zY,h.MQ,amM];cases hs:fv t e with
  |none=>rw[On hs];rfl
  |some y=>
   have hn:=h.n (rP (x:=y.1) (s:=y.2) hs).2.1;rw[PI hs];show zY N t F (aS ((n:Int)+1)) y.1=_;rw[Nc (by omega)];exact Zt N t f y.1 (n+1) F (h.next hs) (by omega)
noncomputable def Jk(t:aF)(e:an):an×Nat:=oW (W wM e+1) t e 0
noncomputable def Fe(t:aF)(e:an):Nat:=uy (W wM e+1) t e
theorem ae0{N:Nat}{t:aF}{e:an}(h:Rn N (W wM e+1) t e 0)(hN:W wM e<N):LN N t e=some ((Jk t e).1,((Jk t e).2:Int)):=Zt N t _ e 0 N h (by omega)
structure Sy(N:Nat)(t:aF)(e x:an):Prop where
 none:fv t x=none
 step:tO N t x=some (r3 (fv t x) x)
 sz:8*SizeOf.sizeOf x+16<=N
 nn:W wN x<=W wN e
 cost:W wC x<=W wC e
 same:x=e\/hJ e=0
 iv:Iv x
 ajB:(∀y∈dq e,y.aq=1\/y.aq=2\/y.aq=3->y.aw=[])->∀y∈dq x,y.aq=1\/y.aq=2\/y.aq=3->y.aw=[]
theorem Ze(N:Nat)(t:aF):∀(f:Nat)(e:an)(n:Nat),Rn N f t e n->Sy N t e (oW f t e n).1
 |0,e,n,h=>absurd h.m (ang _)
 |f+1,e,n,h=>by
  cases hs:fv t e with
  |none=>
   rw[On hs];exact⟨hs,h.MQ,by have:=h.sz;have:=AB (f+1) t e;show 8*SizeOf.sizeOf e+16<=N;omega,amY _,amY _, .inl rfl,h.iv,λh=>h⟩
  |some y=>
   have bP:fv t e=some (y.1,y.2):=hs;rw[PI hs];have r:=Ze N t f y.1 (n+1) (h.next hs);refine⟨r.none,r.step,r.sz,am5 r.nn (G9 WT VI bP),am5 r.cost (G9 agL aia bP), .inr (rP bP).2.1,r.iv,λhl=>r.ajB ?_⟩;refine Vv (P:=λy=>y.aq=1\/y.aq=2\/y.aq=3->y.aw=[]) (λ_ _ _=>rfl) (λ_ _=>rfl) (λop l h4 _ h=> ?_) (λe i x hp h=> ?_) bP hl
   ·have h':op=1\/op=2\/op=3:=h;omega
   ·have h':e.aq=1\/e.aq=2\/e.aq=3:=h;show e.aw.set i x=[];rw[hp h'];rfl
noncomputable def mg(mem:anD bp)(env:anD bm)(e:an):aB×aF×Int:=
 bif hJ e !=0 then(bZ,dZ,hJ e)else bif bn e then(bZ,dZ,10)else match bE mem env e with
  | .ok x=>(x.1,x.2,0)
  | .error z=>(bZ,dZ,z)
theorem ad4{mem:anD bp}{env:anD bm}{e:an}{z:Int}(h:nK mem env e= .error z):z≠0:=by
 unfold nK at h;cases k1:(e.aq==1)with
 |true=>rw[k1]at h;cases h
 |false=>
  rw[k1,cond_false]at h;cases k2:(e.aq==2)with
  |true=>
   rw[k2,cond_true]at h;cases he:((cU e.aM env).2 !=0)with
   |true=>rw[he]at h;cases h;simpa using he
   |false=>
    rw[he,cond_false]at h;cases hc:(decide ((cU e.aM env).1.toInt>2147483647)||decide ((cU e.aM env).1.toInt< -2147483647))with
    |true=>rw[hc]at h;cases h;decide
    |false=>rw[hc]at h;cases h
  |false=>
   rw[k2,cond_false]at h;unfold Ff at h;cases lx:nD mem e.aO with
   |error y=>rw[lx]at h;cases h;exact SN lx
   |ok t=>
    rw[lx]at h;dsimp only at h;cases qM:((e.xIdx.length:Int) !=(t.dg.length:Int))with
    |true=>rw[qM]at h;cases h;decide
    |false=>
     rw[qM,cond_false]at h;cases hp:o7 mem env e.xIdx t.dg 0 with
     |error y=>rw[hp]at h;cases h;exact V4 mem env _ _ _ _ hp
     |ok c=>
      rw[hp]at h;dsimp only at h;cases hv:t.eN[c.toNat]? with
      |none=>rw[hv]at h;cases h;decide
      |some v=>rw[hv]at h;cases h
theorem p9{α β:Type}{r:Except Int α}{f:α->Except Int β}{z:Int}(h:iu r f= .error z):r= .error z\/∃x,r= .ok x/\f x= .error z:=by
 cases r with
 |error y=>exact .inl (by cases h;rfl)
 |ok x=>exact .inr ⟨x,rfl,h⟩
theorem N3{t:aF}{r:aB×Int}{z:Int}(h:jy t r= .error z):z≠0:=by
 unfold jy at h;cases hz:r.2 !=0 with
 |true=>rw[hz]at h;cases h;simpa using hz
 |false=>rw[hz]at h;cases h
theorem CH{α:Type}{b:Bool}{x y:Except Int α}{z:Int}(h:(bif b then x else y)= .error z):x= .error z\/y= .error z:=by
 cases b with
 |true=>exact .inl h
 |false=>exact .inr h
theorem nA{mem:anD bp}{env:anD bm}:∀(n:Nat)(e:an),SizeOf.sizeOf e<=n->Ev e->(∀z,bE mem env e= .error z->bn e=false->z≠0)/\(∀z,eK mem env e= .error z->bn e=true->z≠0)
 |0,e,hn,_=>by cases e;simp at hn
 |n+1,e,hn,H=>by
  refine⟨λz h hc=> ?_,λz h hc=> ?_⟩
  ·rcases kd H.n hc with k0|⟨a,ha,ho⟩|⟨a,ha,ho⟩|⟨a,b,ha,ho⟩|⟨c,a,b,ha,ho⟩
   ·rw[wU k0]at h;exact ad4 h
   ·have s1:=rF ha;rw[o6 (by omega) ha]at h;rcases p9 h with h|⟨x,_,h⟩
    ·exact(nA n a (by omega) (H.a1 ha)).1 z h (H.c1 ha (by omega) (by omega))
    ·rcases CH h with h|h<;>exact N3 h
   ·have s1:=rF ha;rw[o6 (by omega) ha]at h;rcases p9 h with h|⟨x,_,h⟩
    ·exact(nA n a (by omega) (H.a1 ha)).1 z h (H.c1 ha (by omega) (by omega))
    ·rcases CH h with h|h<;>exact N3 h
   ·have s2:=rQ ha;have c2:=H.c2 ha (by omega) (by omega);rw[tT (by omega) ha]at h;rcases p9 h with h|⟨x,_,h⟩
    ·exact(nA n a (by omega) (H.a2 ha).1).1 z h c2.1
    ·rcases p9 h with h|⟨y,_,h⟩
     ·exact(nA n b (by omega) (H.a2 ha).2).1 z h c2.2
     ·rcases CH h with h|h
      ·exact N3 h
      ·cases h;decide
   ·have s3:=Bf ha;have c3:=H.c3 ha ho;rw[wA (by omega) ha]at h;rcases p9 h with h|⟨x,_,h⟩
    ·exact(nA n c (by omega) (H.a3 ha).1).2 z h c3.1
    ·rcases CH h with h|h
     ·exact(nA n a (by omega) (H.a3 ha).2.1).1 z h c3.2.1
     ·exact(nA n b (by omega) (H.a3 ha).2.2).1 z h c3.2.2
  ·rcases kc H.n hc with⟨a,ha,ho⟩|⟨a,b,ha,ho⟩|⟨a,b,ha,ho⟩
   ·have s1:=rF ha;rw[Gz ha]at h;rcases p9 h with h|⟨x,_,h⟩
    ·exact(nA n a (by omega) (H.a1 ha)).2 z h (H.k1 ha ho)
    ·cases h
   ·have s2:=rQ ha;have c2:=H.c2 ha (by omega) (by omega);rw[mV ha,anv (show e.aq<16 by omega),cond_true]at h;rcases p9 h with h|⟨x,_,h⟩
    ·exact(nA n a (by omega) (H.a2 ha).1).1 z h c2.1
    ·rcases p9 h with h|⟨y,_,h⟩
     ·exact(nA n b (by omega) (H.a2 ha).2).1 z h c2.2
     ·rcases CH h with h|h
      ·cases h
      ·cases h;decide
   ·have s2:=rQ ha;have k2:=H.k2 ha ho;rw[mV ha,anw (show ¬e.aq<16 by omega),cond_false]at h;rcases p9 h with h|⟨x,_,h⟩
    ·exact(nA n a (by omega) (H.a2 ha).1).2 z h k2.1
    ·rcases p9 h with h|⟨y,_,h⟩
     ·exact(nA n b (by omega) (H.a2 ha).2).2 z h k2.2
     ·cases h
theorem agI{mem:anD bp}{env:anD bm}{z:Int}(n:Nat)(e:an)(hn:SizeOf.sizeOf e<=n)(H:Ev e)(h:bE mem env e= .error z)(hc:bn e=false):z≠0:=(nA n e hn H).1 z h hc
theorem Iv.ev{e:an}(h:Iv e)(hv:hJ e=0):Ev e:=
 have hm:1000000<=4611686018427387904:=by decide
 ⟨λy hy=>aat hv y hy,λy hy=>⟨am5 (h.ic y hy) hm,λx hx=>
  have B:=(h.nb y hy).each x hx
  ⟨am5 B.ic hm,λl hl=>am5 (B.vw l hl) hm⟩⟩⟩
structure m7(mem:List bp)(env:List bm)(e:an)(x:aB×aF):Prop where
 iv:Iv e
 v:hJ e=0
 c:bn e=false
 x:bE mem env e= .ok x
theorem m7.step{mem:anD bp}{env:anD bm}{e y:an}{x:aB×aF}{s:anE}(h:m7 mem env e x)(hs:fv x.2 e=some (y,s)):m7 mem env y x:=by
 have H:=h.iv.ev h.v;have v:=ab8 hs H;exact⟨h.iv.step hs,v.1,v.2.trans h.c,ZJ hs H h.c h.x rfl⟩
theorem m7.run{mem:anD bp}{env:anD bm}{x:aB×aF}:∀(f:Nat)(e:an)(n:Nat),m7 mem env e x->m7 mem env (oW f x.2 e n).1 x
 |0,e,n,h=>h
 |f+1,e,n,h=>by
  cases hs:fv x.2 e with
  |none=>rw[On hs];exact h
  |some y=>
   rw[PI hs];exact m7.run f y.1 (n+1) (h.step (show fv x.2 e=some (y.1,y.2)from hs))
theorem LY(N:Nat)(hN:9223372036854775808<N)(mem:anD bp)(hm:mem.length<=1000000)(env:anD bm){e:an}(h:Iv e)(hs:3*SizeOf.sizeOf e<N):vS N mem env e=some (mg mem env e):=by
 unfold vS mg;rw[Zk N (by omega) e h.bd.ok,amM];cases hv:(hJ e !=0)with
 |true=>rfl
 |false=>
  rw[bne_eq_false_iff_eq]at hv;rw[cond_false,Rx,amM];cases hc:bn e with
  |true=>rfl
  |false=>
   rw[cond_false];unfold FR H4 Rv;rw[amM,amM];obtain⟨t,er,dT,h1,h2,h3⟩:=(mch N hN mem (by omega) env _ e (amY _) (h.ev hv)).v hc N [] (by omega) (CK.nil mem);show Option.bind (lG N N e env mem []) _=_;rw[h1,amM];cases hr:bE mem env e with
   |error z=>
    rw[hr]at h3;obtain⟨rfl,hz⟩:=h3;simp only;rw[bne_iff_ne.2 hz];rfl
   |ok x=>
    rw[hr]at h3;obtain⟨rfl,e1,e2,e3⟩:=h3;simp only;rw[e1,e2];rfl
theorem adq{mem:anD bp}{env:anD bm}{e:an}(h:Iv e)(h0:(mg mem env e).2.2=0):∃x,m7 mem env e x/\mg mem env e=(x.1,x.2,0):=by
 unfold mg at h0 ⊢;cases hv:(hJ e !=0)with
 |true=>rw[hv,cond_true]at h0;have h0:hJ e=0:=h0;rw[h0]at hv;cases hv
 |false=>
  rw[hv,cond_false]at h0;rw[bne_eq_false_iff_eq]at hv;rw[cond_false];cases hc:bn e with
  |true=>rw[hc]at h0;cases h0
  |false=>
   rw[hc,cond_false]at h0;rw[cond_false];cases hr:bE mem env e with
   |error z=>
    rw[hr]at h0;have h0:z=0:=h0;subst h0;exact absurd rfl (agI _ e (amY _) (h.ev hv) hr hc)
   |ok x=>exact⟨x,⟨h,hv,hc,hr⟩,rfl⟩
theorem m7.mg{mem:anD bp}{env:anD bm}{e:an}{x:aB×aF}(h:m7 mem env e x):mg mem env e=(x.1,x.2,0):=by
 unfold Go.Proofs.YtfdhojiehjfghaaGreatDoor.mg;rw[h.v,h.c,h.x];rfl
theorem akY{N:Nat}{t:aF}{e:an}(hN:9223372036854775808<N)(hs:8*Fe t e+16<=N)(hI:Iv e):Rn N (W wM e+1) t e 0:=⟨anB _,hN,hs,hI,λhv=>by
 have:=Wi (w:=wM) (B:=3) (λy _=>by unfold wM;cases y.aq==2<;>simp) hv;omega⟩
theorem abk(t:aF)(e:an):SizeOf.sizeOf (r3 (fv t e) e).1<=Fe t e:=by
 unfold Fe;cases hs:fv t e with
 |none=>exact AB _ _ _
 |some y=>
  rw[Ow hs];exact am5 (AB (W wM e) t y.1) (Nat.le_add_left _ _)
theorem m7.r3{mem:anD bp}{env:anD bm}{e:an}{x:aB×aF}(H:m7 mem env e x):m7 mem env (r3 (fv x.2 e) e).1 x:=by
 cases hs:fv x.2 e with
 |none=>exact H
 |some y=>exact H.step (show fv x.2 e=some (y.1,y.2)from hs)
theorem agu{N:Nat}(h:3000<=N):AD N=some true:=by
 obtain⟨n,rfl⟩:∃n,N=n+3000:=⟨N-3000,by omega⟩;exact acL n
theorem afp(N:Nat)(mem:anD bp)(env:anD bm)(e:an)(hN:9223372036854775808<N)(hl:mD AQ e)(hm:W wM e+2<=N)(hs:8*Fe (mg mem env e).2.1 e+16<=N):Ml N mem env e=some true:=by
 have ex:=agu (N:=N) (by omega);have amz:=AB (W wM e+1) (mg mem env e).2.1 e;have bP:8*uy (W wM e+1) (mg mem env e).2.1 e+16<=N:=hs;obtain⟨w,w1,w2,w3,w4⟩:=TJ N N e 300 (by decide) (by omega) hl;unfold Ml Lb;have w1':rJ N N e 300=some (w:Int):=w1;rw[w1',amM,ex];by_cases hw:w<=300
 ·have hI:=(w4 hw).iv;rw[anw (show ¬(w:Int)>300 by omega),cond_false];by_cases jN:mem.length<=20
  ·rw[anw (show ¬(mem.length:Int)>20 by omega),cond_false,amM];by_cases he1:env.length<=20
   ·rw[anw (show ¬(env.length:Int)>20 by omega),cond_false,LY N hN mem (by omega) env hI (by omega),amM];cases h0:((mg mem env e).2.2 !=0)with
    |true=>rfl
    |false=>
     obtain⟨x,H,hx⟩:=adq hI (by simpa using h0);rw[cond_false];rw[hx]at hs ⊢;dsimp only at hs ⊢;have R:=akY hN hs hI;have E:Sy N x.2 e (Jk x.2 e).1:=Ze N x.2 _ e 0 R;have H1:=H.r3;have H2:m7 mem env (Jk x.2 e).1 x:=H.run (W wM e+1) e 0;have z1:=abk x.2 e;have z2:=E.sz;rw[R.MQ,amM,LY N hN mem (by omega) env H1.iv (by omega),amM,H1.mg];unfold xk;rw[ae0 R (by omega),amM,amM,LY N hN mem (by omega) env H2.iv (by omega),amM,H2.mg];simp only[anx,Bool.and_true,Bool.and_self,cond_true,amM]
   ·rw[anv (show(env.length:Int)>20 by omega)];rfl
  ·rw[anv (show(mem.length:Int)>20 by omega)];rfl
 ·rw[anv (show(w:Int)>300 by omega)];rfl
def qJ(k:IntKind)(n:Int):Prop:=k.min<=n/\n<=k.max
theorem Dw{n:Int}(h:qJ .i64 n):∃m:Int64,n=m.toInt:=by
 refine⟨Int64.ofInt n,?_⟩;have h1:aS n=n:=by
  unfold aS;rw[IntKind.wrap_i64];have h2: -9223372036854775808<=n:=h.1;have h3:n<=9223372036854775807:=h.2;omega
 rw[Int64.toInt_ofInt,<-Ac];exact h1.symm
theorem WC{p:anD D}:∀{l:anD (anD D)},p∈l->SizeOf.sizeOf p<=SizeOf.sizeOf l.flatten
 |[],h=>by cases h
 |q::l,h=>by
  have app:∀a b:anD D,SizeOf.sizeOf a<=SizeOf.sizeOf (a++b)/\SizeOf.sizeOf b<=SizeOf.sizeOf (a++b):=by
   intro a b
   induction a with
   |nil=>cases b<;>simp only[List.nil_append,List.nil.sizeOf_spec,List.cons.sizeOf_spec]<;>omega
   |cons x a ih=>simp only[List.cons_append,List.cons.sizeOf_spec];omega
  rw[List.flatten_cons];rcases ani.1 h with rfl|h
  ·exact(app _ _).1
  ·exact am5 (WC h) (app _ _).2
structure B3(x:aB):Prop where
 h0:True
 h1:True
theorem Yz{xs:anD D}(h:eo Tryz.prog 25 xs):∃x:aB,xs=Eh x/\B3 x:=by
 obtain⟨parts,rfl,hl,hx⟩:=h.sC Tryz.underlying25
 match parts,hl with
 |[a0,a1],_=>
 obtain⟨ml,rfl,kL⟩:=(hx 0 _ _ rfl rfl).nV Tryz.underlying2;obtain⟨Rc,rfl⟩:=Dw kL;obtain⟨mG,rfl,kA⟩:=(hx 1 _ _ rfl rfl).nV Tryz.underlying2;obtain⟨DE,rfl⟩:=Dw kA;exact⟨⟨Rc,DE⟩,rfl,⟨trivial,trivial⟩⟩
structure PB(x:aF):Prop where
 h0:qJ .i64 x.aL
 h1:qJ .i64 x.bY
 h2:qJ .i64 x.bM
 h3:qJ .i64 x.b5
 h4:qJ .i64 x.bK
theorem TV{xs:anD D}(h:eo Tryz.prog 23 xs):∃x:aF,xs=agZ x/\PB x:=by
 obtain⟨parts,rfl,hl,hx⟩:=h.sC Tryz.underlying23
 match parts,hl with
 |[a0,a1,a2,a3,a4],_=>
 obtain⟨ml,rfl,kL⟩:=(hx 0 _ _ rfl rfl).nV Tryz.underlying3;obtain⟨mG,rfl,kA⟩:=(hx 1 _ _ rfl rfl).nV Tryz.underlying3;obtain⟨vK,rfl,wB⟩:=(hx 2 _ _ rfl rfl).nV Tryz.underlying3;obtain⟨Nv,rfl,PT⟩:=(hx 3 _ _ rfl rfl).nV Tryz.underlying3;obtain⟨L5,rfl,Oc⟩:=(hx 4 _ _ rfl rfl).nV Tryz.underlying3;exact⟨⟨ml,mG,vK,Nv,L5⟩,rfl,⟨kL,kA,wB,PT,Oc⟩⟩
structure JV(x:bf):Prop where
 h0:x.aO.size<=maxLen
 h1:True
theorem aai{xs:anD D}(h:eo Tryz.prog 133 xs):∃x:bf,xs=CU x/\JV x:=by
 obtain⟨parts,rfl,hl,hx⟩:=h.sC Tryz.underlying133
 match parts,hl with
 |[a0,a1],_=>
 obtain⟨ml,rfl,kL⟩:=(hx 0 _ _ rfl rfl).DY Tryz.underlying9;obtain⟨mG,rfl,kA⟩:=(hx 1 _ _ rfl rfl).nV Tryz.underlying2;obtain⟨DE,rfl⟩:=Dw kA;exact⟨⟨ml,DE⟩,rfl,⟨kL,trivial⟩⟩
theorem abc{xs:anD D}(h:eo Tryz.prog 26 xs):∃l:anD bf,xs=[.sl (cC l)]/\(l.length<=140737488355328/\∀a∈l,JV a):=by
 obtain⟨l,rfl,hl,hs⟩:=h.ux Tryz.underlying26;obtain⟨r,rfl,hr⟩:=sY (f:=CU) (Q:=λa=>JV a) l (λx hx=>aai (hs x hx));exact⟨r,by rw[se],by simpa using hl,hr⟩
structure yn(x:aP):Prop where
 h0:True
 h1:x.xL.length<=140737488355328/\∀a∈x.xL,JV a
theorem Qh{xs:anD D}(h:eo Tryz.prog 28 xs):∃x:aP,xs=lu x/\yn x:=by
 obtain⟨parts,rfl,hl,hx⟩:=h.sC Tryz.underlying28
 match parts,hl with
 |[a0,a1],_=>
 obtain⟨ml,rfl,kL⟩:=(hx 0 _ _ rfl rfl).nV Tryz.underlying2;obtain⟨Rc,rfl⟩:=Dw kL;obtain⟨mG,rfl,kA⟩:=abc (hx 1 _ _ rfl rfl);exact⟨⟨Rc,mG⟩,rfl,⟨trivial,kA⟩⟩
theorem ai6{xs:anD D}(h:eo Tryz.prog 71 xs):∃l:anD aP,xs=[.sl (ew l)]/\(l.length<=140737488355328/\∀a∈l,yn a):=by
 obtain⟨l,rfl,hl,hs⟩:=h.ux Tryz.underlying71;obtain⟨r,rfl,hr⟩:=sY (f:=lu) (Q:=λa=>yn a) l (λx hx=>Qh (hs x hx));exact⟨r,by rw[th],by simpa using hl,hr⟩
structure Gc(x:aN):Prop where
 h0:yn x.aM
 h1:x.bI.size<=maxLen
 h2:x.aZ.length<=140737488355328/\∀a∈x.aZ,yn a
theorem alx{xs:anD D}(h:eo Tryz.prog 73 xs):∃x:aN,xs=fG x/\Gc x:=by
 obtain⟨parts,rfl,hl,hx⟩:=h.sC Tryz.underlying73
 match parts,hl with
 |[a0,a1,a2],_=>
 obtain⟨ml,rfl,kL⟩:=Qh (hx 0 _ _ rfl rfl);obtain⟨mG,rfl,kA⟩:=(hx 1 _ _ rfl rfl).DY Tryz.underlying9;obtain⟨vK,rfl,wB⟩:=ai6 (hx 2 _ _ rfl rfl);exact⟨⟨ml,mG,vK⟩,rfl,⟨kL,kA,wB⟩⟩
theorem ahQ{xs:anD D}(h:eo Tryz.prog 29 xs):∃l:anD aN,xs=[.sl (cH l)]/\(l.length<=140737488355328/\∀a∈l,Gc a):=by
 obtain⟨l,rfl,hl,hs⟩:=h.ux Tryz.underlying29;obtain⟨r,rfl,hr⟩:=sY (f:=fG) (Q:=λa=>Gc a) l (λx hx=>alx (hs x hx));exact⟨r,by rw[sO],by simpa using hl,hr⟩
inductive vJ:an->Prop
 |mk (x:an) (h0:qJ .i64 x.aq) (h1:x.aO.size<=maxLen) (h2:B3 x.bg) (h3:PB x.aD) (h4:yn x.aM) (h5:x.xIdx.length<=140737488355328/\∀a∈x.xIdx,Gc a) (h6:x.aw.length<=140737488355328) (g6:∀a∈x.aw,vJ a):vJ x
theorem RI:∀(n:Nat)(xs:anD D),SizeOf.sizeOf xs<n->eo Tryz.prog 32 xs->∃x:an,xs=dd x/\vJ x
 |0,_,h,_=>absurd h (ang _)
 |n+1,xs,hn,h=>by
  obtain⟨parts,rfl,hl,hx⟩:=h.sC Tryz.underlying32
  match parts,hl with
  |[a0,a1,a2,a3,a4,a5,a6],_=>
  obtain⟨ml,rfl,kL⟩:=(hx 0 _ _ rfl rfl).nV Tryz.underlying3;obtain⟨mG,rfl,kA⟩:=(hx 1 _ _ rfl rfl).DY Tryz.underlying9;obtain⟨vK,rfl,wB⟩:=Yz (hx 2 _ _ rfl rfl);obtain⟨Nv,rfl,PT⟩:=TV (hx 3 _ _ rfl rfl);obtain⟨L5,rfl,Oc⟩:=Qh (hx 4 _ _ rfl rfl);obtain⟨aiW,rfl,aid⟩:=ahQ (hx 5 _ _ rfl rfl);obtain⟨l_,rfl,ak3,hs_⟩:=(hx 6 _ _ rfl rfl).ux Tryz.underlying30;obtain⟨r_,rfl,hr_⟩:=sY (f:=dd) (Q:=vJ) l_ (λx hx=>RI n x (by have h1:=List.sizeOf_lt_of_mem hx;have h2:SizeOf.sizeOf [D.sl l_]<n+1:=Nat.lt_of_le_of_lt (WC (by simp)) hn;simp only[List.cons.sizeOf_spec,D.sl.sizeOf_spec,List.nil.sizeOf_spec]at h2;omega) (hs_ x hx));refine⟨⟨ml,mG,vK,Nv,L5,aiW,r_⟩,?_, .mk _ kL kA wB PT Oc aid (by simpa using ak3) hr_⟩;show _=dd _;unfold dd;rw[iH];rfl
theorem ab3{xs:anD D}(h:eo Tryz.prog 32 xs):∃x:an,xs=dd x/\vJ x:=RI _ xs (anB _) h
structure HP(x:bm):Prop where
 h0:x.aO.size<=maxLen
 h1:True
theorem agh{xs:anD D}(h:eo Tryz.prog 55 xs):∃x:bm,xs=DO x/\HP x:=by
 obtain⟨parts,rfl,hl,hx⟩:=h.sC Tryz.underlying55
 match parts,hl with
 |[a0,a1],_=>
 obtain⟨ml,rfl,kL⟩:=(hx 0 _ _ rfl rfl).DY Tryz.underlying9;obtain⟨mG,rfl,kA⟩:=(hx 1 _ _ rfl rfl).nV Tryz.underlying2;obtain⟨DE,rfl⟩:=Dw kA;exact⟨⟨ml,DE⟩,rfl,⟨kL,trivial⟩⟩
theorem abm{xs:anD D}(h:eo Tryz.prog 42 xs):∃l:anD bm,xs=[.sl (bt l)]/\(l.length<=140737488355328/\∀a∈l,HP a):=by
 obtain⟨l,rfl,hl,hs⟩:=h.ux Tryz.underlying42;obtain⟨r,rfl,hr⟩:=sY (f:=DO) (Q:=λa=>HP a) l (λx hx=>agh (hs x hx));exact⟨r,by rw[w5],by simpa using hl,hr⟩
theorem abD{xs:anD D}(h:eo Tryz.prog 123 xs):∃l:anD Int,xs=[.sl (iQ l)]/\(l.length<=140737488355328/\∀a∈l,qJ .i64 a):=by
 obtain⟨l,rfl,hl,hs⟩:=h.ux Tryz.underlying123;obtain⟨r,rfl,hr⟩:=sY (f:=BP) (Q:=λa=>qJ .i64 a) l (λx hx=>by
  obtain⟨n_x,rfl,w_x⟩:=(hs x hx).nV Tryz.underlying3;exact⟨n_x,rfl,w_x⟩)
 exact⟨r,by rw[xY],by simpa using hl,hr⟩
theorem acC{xs:anD D}(h:eo Tryz.prog 124 xs):∃l:anD aB,xs=[.sl (kf l)]/\(l.length<=140737488355328/\∀a∈l,B3 a):=by
 obtain⟨l,rfl,hl,hs⟩:=h.ux Tryz.underlying124;obtain⟨r,rfl,hr⟩:=sY (f:=Eh) (Q:=λa=>B3 a) l (λx hx=>Yz (hs x hx));exact⟨r,by rw[wx],by simpa using hl,hr⟩
structure Yp(x:a8):Prop where
 h0:PB x.aD
 h1:x.dg.length<=140737488355328/\∀a∈x.dg,qJ .i64 a
 h2:x.eN.length<=140737488355328/\∀a∈x.eN,B3 a
theorem ac2{xs:anD D}(h:eo Tryz.prog 126 xs):∃x:a8,xs=bR x/\Yp x:=by
 obtain⟨parts,rfl,hl,hx⟩:=h.sC Tryz.underlying126
 match parts,hl with
 |[a0,a1,a2],_=>
 obtain⟨ml,rfl,kL⟩:=TV (hx 0 _ _ rfl rfl);obtain⟨mG,rfl,kA⟩:=abD (hx 1 _ _ rfl rfl);obtain⟨vK,rfl,wB⟩:=acC (hx 2 _ _ rfl rfl);exact⟨⟨ml,mG,vK⟩,rfl,⟨kL,kA,wB⟩⟩
structure F9(x:bp):Prop where
 h0:x.aO.size<=maxLen
 h1:Yp x.jS
theorem afK{xs:anD D}(h:eo Tryz.prog 128 xs):∃x:bp,xs=Ca x/\F9 x:=by
 obtain⟨parts,rfl,hl,hx⟩:=h.sC Tryz.underlying128
 match parts,hl with
 |[a0,a1],_=>
 obtain⟨ml,rfl,kL⟩:=(hx 0 _ _ rfl rfl).DY Tryz.underlying9;obtain⟨mG,rfl,kA⟩:=ac2 (hx 1 _ _ rfl rfl);exact⟨⟨ml,mG⟩,rfl,⟨kL,kA⟩⟩
theorem aiv{xs:anD D}(h:eo Tryz.prog 41 xs):∃l:anD bp,xs=[.sl (bq l)]/\(l.length<=140737488355328/\∀a∈l,F9 a):=by
 obtain⟨l,rfl,hl,hs⟩:=h.ux Tryz.underlying41;obtain⟨r,rfl,hr⟩:=sY (f:=Ca) (Q:=λa=>F9 a) l (λx hx=>afK (hs x hx));exact⟨r,by rw[xA],by simpa using hl,hr⟩
def ag6:anD TypeId:=[2,3,4,9,23,25,26,28,29,30,32,41,42,47,48,49,50,52,55,66,68,71,73,104,106,109,123,124,126,128,133]
theorem NZ:Ph Tryz.prog ag6=true:=by kernel_rfl
theorem ahP{e:an}(h:vJ e):mD AQ e:=by
 induction h with
 |mk x h0 h1 h2 h3 h4 h5 h6 g6 ih=>
  intro y hy;rcases ani.1 hy with rfl|hy
  ·exact⟨h4.h1.1,h5.1,λz hz=>⟨(h5.2 z hz).h0.h1.1,(h5.2 z hz).h2.1,λl hl=>((h5.2 z hz).h2.2 l hl).h1.1⟩,h6⟩
  ·obtain⟨a,ha,hy⟩:=zi hy;exact ih a ha y hy
theorem acZ(m:anD bp)(b:anD bm)(e:an)(_:m.length<=140737488355328/\∀a∈m,F9 a)(_:b.length<=140737488355328/\∀a∈b,HP a)(h:vJ e):gn Tryz.prog 4 [.d (.sl (bq m)), .d (.sl (bt b)),aA e] (·= .d (.v (.bool true))):=
 alX true (afp (9223372036854775900+8*Fe (mg m b e).2.1 e+W wM e) m b e (by omega) (ahP h) (by omega) (by omega))
end Go.Proofs.YtfdhojiehjfghaaGreatDoor
