/-
  Part 14 of the proof: EvM, CnB, EvQ, EvN, EvO, EvP, EvR, EvS, EvRl, EvT, SdA, SdB, SdV, EvU, EvW, EvX, OpenT, EvAbs, SdL, EvY, EvZ, EvScansAbs.
-/
import Derived.Test.YtpeecnpmcbnahaaGreatDoorPr13
namespace Go.Proofs.YtpeecnpmcbnahaaGreatDoor
open Go.RowKit
set_option maxRecDepth 100000
set_option linter.unusedSimpArgs false
set_option linter.unusedVariables false
theorem ahM{e:ar}(h:mD e=0):(dB e).length<=2000:=by
 unfold mD at h;cases J:decide (40<jh 40 e)with
 |true=>rw[J]at h;cases h
 |false=>
  rw[J,cond_false]at h;cases h2:decide (2000<(dB e).length)with
  |true=>rw[h2]at h;cases h
  |false=>rw[decide_eq_false_iff_not]at h2;omega
noncomputable def C1(e:ar):an3 an4:=jE (qM (dB e))
theorem acW(N:Nat)(e:ar)(hv:mD e=0)(hl:ik 400 e):FD N e=some (C1 e):=by
 have hc:=ahM hv;have hb:=Sp 400 (dB e) λx hx=>(hl x hx).idx;have fK:(qM (dB e)).length<=1000000:=by
  have:(dB e).length*(400+1)<=2000*401:=Nat.mul_le_mul hc (anp _);omega
 unfold FD AW;rw[anc];have:=OY N (dB e) [] (by simp only[anq];omega);rw[List.nil_append]at this;exact this
def uP(f:Int):Int:=bif f==1||f==5 then 4 else bif f==2 then 6 else bif f==3 then 9 else 10
def oY(f:Int)(t:aF)(a b:ax):Except Int ax:=
 bif decide (1<=f)&&decide (f<=5)then
  (bif dD t a&&dD t b then(bif (ot (uP f) t a b).2 !=0 then .error (ot (uP f) t a b).2 else .ok (ot (uP f) t a b).1)else .error 1)
 else .error 1
def AgD(r:Except Int ax)(q:ax×Int):Prop:=match r with
 | .ok x=>q=(x,0)
 | .error z=>q.2=z/\z≠0
theorem akG(N:Nat)(f:Int):Jf N f=some (bif decide (1<=f)&&decide (f<=5)then(uP f,true)else(0,false)):=by
 unfold Jf IB uP;by_cases h:1<=f/\f<=5
 ·rw[anW h.1,anW h.2];have:f=1\/f=2\/f=3\/f=4\/f=5:=by omega
  rcases this with h|h|h|h|h<;>rw[h]<;>rfl
 ·have e:(decide (1<=f)&&decide (f<=5))=false:=by
   by_cases J:1<=f
   ·rw[anX (show ¬f<=5 by omega),Bool.and_false]
   ·rw[anX J];rfl
  rw[e,show(f==1)=false by rw[beq_eq_false_iff_ne];omega,show(f==2)=false by rw[beq_eq_false_iff_ne];omega,show(f==3)=false by rw[beq_eq_false_iff_ne];omega,show(f==4)=false by rw[beq_eq_false_iff_ne];omega,show(f==5)=false by rw[beq_eq_false_iff_ne];omega];rfl
theorem Yb(N:Nat)(hN:9223372036854775808<N)(f:Int)(t:aF)(a b:ax)(ht:c7 t=true):∃q,Cz N f t [a,b]=some q/\AgD (oY f t a b) q:=by
 unfold Cz oY;rw[akG,anc];cases hf:(decide (1<=f)&&decide (f<=5))with
 |false=>exact⟨_,rfl,rfl,by decide⟩
 |true=>
  rw[cond_true,cond_true,cond_true,pE,anc,ht,cond_true];show ∃q,Option.bind (lX N t a) _=some q/\_;rw[qf N (by omega) t a ht,anc];cases J:dD t a with
  |false=>exact⟨_,rfl,rfl,by decide⟩
  |true=>
   rw[cond_true];show ∃q,Option.bind (lX N t b) _=some q/\_;rw[qf N (by omega) t b ht,anc];cases h2:dD t b with
   |false=>exact⟨_,rfl,rfl,by decide⟩
   |true=>
    rw[cond_true];show ∃q,Option.bind (wQ N (uP f) t a b) _=some q/\_;rw[Pz N hN,anc];cases h3:((ot (uP f) t a b).2 !=0)with
    |true=>exact⟨_,rfl,rfl,by simpa using h3⟩
    |false=>exact⟨_,rfl,rfl⟩
theorem XG(N:Nat)(v:an3 Int):∀(l:an3 Int)(k:Nat),Hy N v l k=zG N v l k
 |[],_=>rfl
 |x::l,k=>by rw[Hy,zG,XG N v l (k+1)]
theorem agN(N:Nat)(a b:an3 Int):JJ N a b=Jd N a b:=by
 unfold JJ Jd;rw[XG]
theorem Yc(N:Nat)(v:an3 Int):∀(l:an3 Int)(k:Nat),l.length+k<=v.length->∃b,zG N v l k=some b
 |[],_,_=>⟨_,rfl⟩
 |x::l,k,h=>by
  simp only[anh]at h;rw[zG,anG,ani (show k<v.length by omega),anc];cases x !=v[k]with
  |true=>exact⟨_,rfl⟩
  |false=>exact Yc N v l (k+1) (by omega)
theorem aio(N:Nat)(a b:an3 Int):∃q,Jd N a b=some q:=by
 unfold Jd;cases h:((a.length:Int) !=(b.length:Int))with
 |true=>exact⟨_,rfl⟩
 |false=>
  rw[bne_eq_false_iff_eq]at h;exact Yc N b a 0 (by omega)
theorem Ve(N:Nat)(hN:2147483648<N)(mem:an3 aJ)(s:an4)(t:aF)(d:an3 Int):∃x,ED N mem s t d=some x/\(x=0->∃y,ib mem s=some y/\kf y=true/\y.aB=t):=by
 unfold ED;rw[QV,anc];cases hf:ib mem s with
 |none=>exact⟨9,rfl,λh=>by cases h⟩
 |some y=>
  simp only[cond_true];obtain⟨e1,J,h2⟩:=TI N hN y;rw[J,anc,h2];cases ht:kf y with
  |false=>exact⟨1,rfl,λh=>by cases h⟩
  |true=>
   simp only[Bool.not_true,cond_false];show ∃x,(bif kP y.aB t then _ else _)=some x/\_;cases nr:kP y.aB t with
   |false=>exact⟨10,rfl,λh=>by cases h⟩
   |true=>
    obtain⟨b,hb⟩:=aio N y.aU d;rw[agN,hb];cases b with
    |true=>exact⟨0,rfl,λ_=>⟨y,rfl,ht,acp.1 nr⟩⟩
    |false=>exact⟨15,rfl,λh=>by cases h⟩
theorem ajx(p:aV)(env:an3 aL)(s:an4):(eQ p env s).2.1=(dI p.aW p.aN s).1:=by
 unfold eQ;dsimp only;cases (dI p.aW p.aN s).2.2 with
 |false=>rfl
 |true=>
  rw[cond_true];cases (fb env (dI p.aW p.aN s).2.1 []).2 !=0 with
  |true=>rfl
  |false=>cases decide (cS (fb env (dI p.aW p.aN s).2.1 []).1>4096)<;>rfl
def Dk(p:aV)(mem:an3 aJ)(s:an4):Prop:=∃y,ib mem s=some y/\kf y=true/\y.aB=(dI p.aW p.aN s).1
theorem Xz(N:Nat)(hN:2147483648<N)(p:aV)(env:an3 aL)(mem:an3 aJ)(hP:lT p.aW)(hD:gO p.aN):∀(l:an3 an4)(k:Nat),∃x,Ix N p env mem l k=some x/\(x=0->∀s∈l,Dk p mem s)
 |[],k=>⟨0,rfl,λ_ s hs=>by cases hs⟩
 |s::l,k=>by
  rw[Ix,OV N hN p env s hP hD,anc];cases J:((eQ p env s).2.2 !=0)with
  |true=>exact⟨_,rfl,λh=>by have h':(eQ p env s).2.2=0:=h;rw[h']at J;cases J⟩
  |false=>
   rw[cond_false];obtain⟨x,q1,q3⟩:=Ve N hN mem s (eQ p env s).2.1 (eQ p env s).1;rw[q1,anc];cases hx:x !=0 with
   |true=>exact⟨x,rfl,λh=>by rw[h]at hx;cases hx⟩
   |false=>
    obtain⟨z,z1,z3⟩:=Xz N hN p env mem hP hD l (k+1);refine⟨z,z1,λh u hu=> ?_⟩;rcases anJ.1 hu with rfl|hu
    ·have:=q3 (by simpa using hx)
     rwa [ajx]at this
    ·exact z3 h u hu
theorem ahD(N:Nat)(hN:2147483648<N)(p:aV)(env:an3 aL)(mem:an3 aJ)(hP:lT p.aW)(hD:gO p.aN)(d:bx)(hv:mD d.bO=0)(hl:ik 400 d.bO):∃x,GR N p env mem d.bO=some x/\(x=0->∀s∈C1 d.bO,Dk p mem s):=by
 unfold GR;rw[acW N d.bO hv hl,anc];exact Xz N hN p env mem hP hD _ 0
theorem alQ{l:an3 an4}{s:an4}:cH l s=true↔s∈l:=by
 unfold cH;rw[List.any_eq_true];constructor
 ·rintro⟨w,hw,e⟩;rw[beq_iff_eq]at e;rw[<-Gk e];exact hw
 ·intro h;exact⟨s,h,by simp⟩
theorem Ui{α:Type}{f:α->Int}:∀{l:an3 α},fQ f l=0->∀x∈l,f x=0
 |x::l,h,y,hy=>by
  rw[fQ]at h;cases e:f x !=0 with
  |true=>rw[e]at h;simp only[cond_true]at h;rw[h]at e;cases e
  |false=>
   rw[e]at h;simp only[cond_false]at h;rcases anJ.1 hy with rfl|hy
   ·exact jq e
   ·exact Ui h y hy
def KT(S:an3 an4):an3 an4->an3 eH->Prop
 |_,[]=>True
 |T,x::l=>uG S T x=0/\KT S (T++[x.au]) l
def PE:an3 an4->an3 bx->Prop
 |_,[]=>True
 |T,d::l=>iE T d.au=0/\PE (T++[d.au]) l
structure VP(p:aV):Prop where
 names:qU [] p.bn=0
 wh:∀c∈p.dS,iu p.bn c.bq=0
 WX:KT p.bn [] p.aW
 defs:PE (p.bn++p.aW.map (·.au)) p.aN
 outs:∀s∈p.du,s∈p.aW.map (·.au)++p.aN.map (·.au)
section
variable {N:Nat} {p:aV}
theorem YT(hD:gO p.aN):∀(l:an3 an4)(k:Nat)(at_:Int){a:Int},qa N p l k at_=some (a,0)->∀s∈l,s∈p.aW.map (·.au)++p.aN.map (·.au)
 |s::l,k,at_,a,h,y,hy=>by
  rw[qa,Ch N p s hD,anc,M0]at h;cases e:cH (p.aW.map (·.au)++p.aN.map (·.au)) s with
  |false=>rw[e]at h;cases h
  |true=>
   rw[e]at h;simp only[cond_true]at h;obtain⟨_,h⟩:=uJ h;rw[AI,anc]at h;cases e2:cH ((p.du.take ((k:Int)).toNat).drop 0) s with
   |true=>rw[e2]at h;cases h
   |false=>
    rw[e2]at h;rcases anJ.1 hy with rfl|hy
    ·exact alQ.1 e
    ·exact YT hD l (k+1) (aP (at_+1)) h y hy
theorem ahB(hN:16<N){k:Nat}{d:bx}{T:an3 an4}(hd:p.aN[k]?=some d)(h:vL N p (k:Int) T=some 0):iE T d.au=0:=by
 unfold vL at h;obtain⟨_,h⟩:=uJ h;rw[anG,hd,anc,zW N hN,anc]at h;cases e:iE T d.au !=0 with
 |false=>exact jq e
 |true=>rw[e]at h;simp only[cond_true]at h;rw[anx h]at e;cases e
theorem aaD(hN:16<N):∀(l:an3 bx)(k:Nat)(at_:Int)(T:an3 an4){a:Int},p.aN.drop k=l->om N p l k T at_=some (a,0)->PE T l/\∃at' a',qa N p p.du 0 at'=some (a',0)
 |[],k,at_,T,a,_,h=>⟨trivial,at_,a,h⟩
 |d::l,k,at_,T,a,hk,h=>by
  rw[om]at h;obtain⟨x,e,h⟩:=ck h;cases e2:x !=0 with
  |true=>rw[e2]at h;simp only[cond_true]at h;rw[(Prod.mk.inj (anx h)).2]at e2;cases e2
  |false=>
   rw[e2]at h;obtain⟨_,h⟩:=uJ h;have hx:=jq e2;rw[hx]at e;obtain⟨k1,k2⟩:=aaD hN l (k+1) _ _ (uz hk) h;exact⟨⟨ahB hN (cE hk) e,k1⟩,k2⟩
theorem NB(hN:16<N):∀(l:an3 eH)(k:Nat)(at_:Int)(T:an3 an4){a:Int},lT l->sZ N p l k (p.bn++T) at_=some (a,0)->KT p.bn T l/\∃at' a',om N p p.aN 0 (p.bn++(T++l.map (·.au))) at'=some (a',0)
 |[],k,at_,T,a,_,h=>⟨trivial,at_,a,by rw[List.map_nil,anA];exact h⟩
 |x::l,k,at_,T,a,hl,h=>by
  rw[sZ,V0 N hN x p.bn T (λy hy=>(hl.kg x ank y hy).ok),anc]at h;cases e2:uG p.bn T x !=0 with
  |true=>rw[e2]at h;simp only[cond_true]at h;rw[(Prod.mk.inj (anx h)).2]at e2;cases e2
  |false=>
   rw[e2]at h;obtain⟨_,h⟩:=uJ h;dsimp only at h;rw[anv]at h;obtain⟨k1,k2⟩:=NB hN l (k+1) _ (T++[x.au]) ⟨λy hy=>hl.len y (ann _ hy),λy hy=>hl.kg y (ann _ hy)⟩ h;rw[anv]at k2;exact⟨⟨jq e2,k1⟩,k2⟩
theorem abl(hN:16<N)(B:Bd N p){a:Int}(h:x8 N p=some (a,0)):VP p:=by
 have hs:=B.s;unfold x8 H5 at h;rw[OP,anc]at h;cases e:wo p with
 |false=>rw[e]at h;cases h
 |true=>
  rw[e]at h;simp only[Bool.not_true,cond_false]at h;rw[IT hN p.bn 0 rfl,anc,List.take_zero]at h;cases ez:qU [] p.bn !=0 with
  |true=>rw[ez]at h;simp only[cond_true]at h;rw[(Prod.mk.inj (anx h)).2]at ez;cases ez
  |false=>
   rw[ez]at h;simp only[cond_false]at h;rw[I9 hN hs p.dS 0 B.W]at h;cases ew:fQ (λc:gL=>iu p.bn c.bq) p.dS !=0 with
   |true=>rw[ew]at h;simp only[cond_true]at h;rw[(Prod.mk.inj (anx h)).2]at ew;cases ew
   |false=>
    rw[ew]at h;simp only[cond_false]at h;obtain⟨k1,PB,a1,J⟩:=NB hN p.aW 0 2 [] B.P (by rw[anA];exact h);rw[List.nil_append]at J;obtain⟨k2,Fb,a2,h2⟩:=aaD hN p.aN 0 PB _ rfl J;exact⟨jq ez,Ui (jq ew),k1,k2,YT B.D p.du 0 Fb h2⟩
end
structure DQ(N:Nat)(p:aV)(k:Nat)(T:List ByteArray)(d:bx):Prop where
 name:iE T d.au=0
 type:c7 d.aB=true
 l1:d.aU.length<=6
 l2:d.bV.length<=6
 ajW:qY p.bn [] (d.aU++d.bV)=0
 fold:uF d=0
 tp:∃t:aF,xB N (⟨p.bn,[],p.aW,((p.aN.take k).drop 0),[]⟩:aV) (RP d) d.bO=some (t,0)/\((t.bk==d.aB.bk)&&((t.bX==d.aB.bX)&&((t.bS==d.aB.bS)&&((t.ct==d.aB.ct)&&((t.cu==d.aB.cu)&&true)))))=true
structure VQ(N:Nat)(p:aV):Prop where
 names:qU [] p.bn=0
 wh:∀c∈p.dS,iu p.bn c.bq=0
 WX:KT p.bn [] p.aW
 defs:∀k d,p.aN[k]?=some d->DQ N p k (p.bn++p.aW.map (·.au)++(p.aN.take k).map (·.au)) d
 outs:∀k s,p.du[k]?=some s->cH (p.aW.map (·.au)++p.aN.map (·.au)) s=true/\cH (p.du.take k) s=false
theorem aaY{c m:Nat}{α:Type}{x:an5 α}{z:α}(h:(bif Nat.ble c m then x else none)=some z):x=some z:=by
 cases e:Nat.ble c m with
 |false=>rw[e]at h;cases h
 |true=>rw[e]at h;exact h
theorem Su{b:Bool}{α:Type}{x:an5 α}{z:α}(h:(bif b then x else none)=some z):b=true/\x=some z:=by
 cases b with
 |false=>cases h
 |true=>exact⟨rfl,h⟩
theorem Hp{a:Int}{x:an5 Int}(h:(bif a !=0 then some a else x)=some 0):a=0/\x=some 0:=by
 cases e:a !=0 with
 |true=>rw[e]at h;simp only[cond_true]at h;rw[anx h]at e;cases e
 |false=>rw[e]at h;exact⟨jq e,h⟩
section
variable {N:Nat} {p:aV}
theorem agU(hN:16<N){k:Nat}{d:bx}{T:an3 an4}(hd:p.aN[k]?=some d)(hs:p.bn.length<=1000)(hx:∀x∈d.aU++d.bV,jR x.dH)(h:vL N p (k:Int) T=some 0):DQ N p k T d:=by
 unfold vL at h;obtain⟨_,h⟩:=Su h;rw[anG,hd,anc,zW N hN,anc]at h;obtain⟨n1,h⟩:=Hp h;rw[HY,anc]at h;cases e1:c7 d.aB with
 |false=>rw[e1]at h;cases h
 |true=>
  rw[e1,cond_true,vO,vO,l5,anc]at h;cases e2: !decide (d.aU.length<=6)|| !decide (d.bV.length<=6)with
  |true=>rw[e2]at h;cases h
  |false=>
   rw[e2,cond_false]at h;simp only[an2,Bool.not_eq_false',decide_eq_true_eq]at e2;have h:=aaY (aaY h);rw[ZB N hN p.bn _ hx (by rw[anf];omega),anc]at h;obtain⟨n2,h⟩:=Hp h;rw[Vh,anc]at h;obtain⟨n3,h⟩:=Hp h;obtain⟨_,h⟩:=Su h;rw[SN N d (by omega),anc]at h;obtain⟨⟨t,x⟩,J,h⟩:=ck h;obtain⟨n4,h⟩:=Hp h;dsimp only at n4 h;subst n4;refine⟨n1,e1,e2.1,e2.2,n2,n3,t,J,?_⟩;cases e3:((t.bk==d.aB.bk)&&((t.bX==d.aB.bX)&&((t.bS==d.aB.bS)&&((t.ct==d.aB.ct)&&((t.cu==d.aB.cu)&&true)))))with
   |true=>rfl
   |false=>rw[e3]at h;cases h
theorem Sx(hD:gO p.aN):∀(l:an3 an4)(k:Nat)(at_:Int){a:Int},p.du.drop k=l->qa N p l k at_=some (a,0)->∀i s,k<=i->p.du[i]?=some s->cH (p.aW.map (·.au)++p.aN.map (·.au)) s=true/\cH (p.du.take i) s=false
 |[],k,at_,a,hk,h,i,s,hi,hs=>by
  have:=(ane.1 hs).1;have:=List.drop_eq_nil_iff.1 hk;omega
 |s::l,k,at_,a,hk,h,i,y,hi,hy=>by
  rw[qa,Ch N p s hD,anc,M0]at h;cases e:cH (p.aW.map (·.au)++p.aN.map (·.au)) s with
  |false=>rw[e]at h;cases h
  |true=>
   rw[e]at h;simp only[cond_true]at h;obtain⟨_,h⟩:=uJ h;rw[AI,anc]at h;cases e2:cH ((p.du.take ((k:Int)).toNat).drop 0) s with
   |true=>rw[e2]at h;cases h
   |false=>
    rw[e2]at h;rcases Nat.lt_or_ge k i with aI|j0
    ·exact Sx hD l (k+1) (aP (at_+1)) (uz hk) h i y aI hy
    ·have:i=k:=by omega
     subst this;rw[cE hk]at hy;cases hy
     exact⟨e,e2⟩
theorem W6(hN:16<N)(hD:gO p.aN)(hs:p.bn.length<=1000):∀(l:an3 bx)(k:Nat)(at_:Int){a:Int},p.aN.drop k=l->om N p l k (p.bn++p.aW.map (·.au)++(p.aN.take k).map (·.au)) at_=some (a,0)->
 (∀i d,k<=i->p.aN[i]?=some d->DQ N p i (p.bn++p.aW.map (·.au)++(p.aN.take i).map (·.au)) d)/\∃at' a',qa N p p.du 0 at'=some (a',0)
 |[],k,at_,a,hk,h=>⟨λi d hi hd=>by
    have:=(ane.1 hd).1;have:=List.drop_eq_nil_iff.1 hk;omega,at_,a,h⟩
 |d::l,k,at_,a,hk,h=>by
  rw[om]at h;obtain⟨x,e,h⟩:=ck h;cases e2:x !=0 with
  |true=>rw[e2]at h;simp only[cond_true]at h;rw[(Prod.mk.inj (anx h)).2]at e2;cases e2
  |false=>
   rw[e2]at h;obtain⟨_,h⟩:=uJ h;have hx:=jq e2;rw[hx]at e;have et:p.bn++p.aW.map (·.au)++(p.aN.take k).map (·.au)++[d.au]=p.bn++p.aW.map (·.au)++(p.aN.take (k+1)).map (·.au):=by
     rw[RM hk,List.map_append,anv (p.bn++p.aW.map (·.au))];rfl
   dsimp only at h;rw[et]at h;obtain⟨k1,k2⟩:=W6 hN hD hs l (k+1) _ (uz hk) h;refine⟨λi d' hi iN=> ?_,k2⟩;rcases Nat.lt_or_ge k i with aI|j0
   ·exact k1 i d' aI iN
   ·have:i=k:=by omega
    subst this;rw[cE hk]at iN;cases iN
    exact agU hN (cE hk) hs (λx hx=>(hD.kg d (HR (cE hk)) x hx).ok) e
theorem ad3(hN:16<N):∀(l:an3 eH)(k:Nat)(at_:Int)(T:an3 an4){a:Int},lT l->sZ N p l k (p.bn++T) at_=some (a,0)->∃at' a',om N p p.aN 0 (p.bn++(T++l.map (·.au))) at'=some (a',0):=λl k at_ T a hl h=>(NB hN l k at_ T hl h).2
theorem Vg{α:Type}{f:α->Int}:∀{l:an3 α},(∀x∈l,f x=0)->fQ f l=0
 |[],_=>rfl
 |x::l,h=>by
  rw[fQ,h x ank];exact Vg λy hy=>h y (ann _ hy)
theorem agJ(hN:16<N)(B:Bd N p){a:Int}(h:x8 N p=some (a,0)):VQ N p:=by
 have hs:=B.s;have V:=abl hN B h;unfold x8 H5 at h;rw[OP,anc]at h;cases e:wo p with
 |false=>rw[e]at h;cases h
 |true=>
  rw[e]at h;simp only[Bool.not_true,cond_false]at h;rw[IT hN p.bn 0 rfl,anc,List.take_zero,V.names]at h;simp only[bne_self_eq_false,cond_false]at h;rw[I9 hN hs p.dS 0 B.W,Vg V.wh]at h;simp only[bne_self_eq_false,cond_false]at h;obtain⟨PB,a1,J⟩:=ad3 hN p.aW 0 2 [] B.P (by rw[anA];exact h);rw[List.nil_append]at J;obtain⟨k2,Fb,a2,h2⟩:=W6 hN B.D hs p.aN 0 PB rfl (by rw[List.take_zero,List.map_nil,anA];exact J);exact⟨V.names,V.wh,V.WX,λk d=>k2 k d (Nat.zero_le _),λk s=>Sx B.D p.du 0 Fb rfl h2 k s (Nat.zero_le _)⟩
end
structure Df(N:Nat)(d:bx):Prop where
 ty:c7 d.aB=true
 ev:Ev d.bO
 cond:eB d.bO=false
 size:3*SizeOf.sizeOf d.bO<N
 l1:d.aU.length<=6
 l2:d.bV.length<=6
 plain:(d.c9==0||d.c9==5)=true->d.bV=[]
 scan:d.c9=5->d.aU≠ []
def mh(f:an3 Int->Except Int (ax×aF))(d:bx):an3 (an3 Int)->an5 ax->Except Int ax
 |[],acc=> .ok (acc.getD cB)
 |q::l,acc=>match f q with
  | .error z=> .error z
  | .ok x=>match acc with
    |none=>mh f d l (some x.1)
    |some a=>match oY d.c9 d.aB a x.1 with
     | .error z=> .error z
     | .ok v=>mh f d l (some v)
def PU(d:bx):an3 an4:=d.bV.map (·.au)
def th(d:bx):an3 an4:=d.aU.map (·.au)
noncomputable def rE(mem:an3 aJ)(env:an3 aL)(d:bx)(q:an3 Int):Except Int (ax×aF):=ff mem (kM (PU d) q++env) d.bO
noncomputable def xf(mem:an3 aJ)(env:an3 aL)(d:bx)(red:an3 Int):Except Int ax:=mh (rE mem env d) d (iK red 0 (cS red).toNat) none
theorem M8{l:an3 Int}(h:pj l):∀(m k:Nat),(k:Int)+m<=cS l->∀q∈iK l k m,q.length=l.length/\∀x∈q,0<=x/\x<4096
 |0,k,_,q,hq=>by cases hq
 |m+1,k,hk,q,hq=>by
  rw[ug]at hq;rcases anJ.1 hq with rfl|hq
  ·have:=h.p;exact⟨amy _ _,alv h.r (by omega) (by omega)⟩
  ·exact M8 h m (k+1) (by omega) q hq
theorem Uf(N:Nat)(hN:9223372036854775808<N)(mem:an3 aJ)(hm:mem.length<=4611686018427387904)(env:an3 aL)(he:env.length<=1000000)(d:bx)(H:Df N d):∀(jk:an3 (an3 Int))(acc:an5 ax)(kv:an3 (an4×aR)),(∀q∈jk,q.length=d.bV.length/\∀x∈q,0<=x/\x<4096)->CK mem kv->
 ∃v er dE,tW N d env mem jk (acc.getD cB).xN (acc.getD cB).xD acc.isNone kv=some (v,er,dE)/\CK mem dE/\m9 (mh (rE mem env d) d jk acc) er v (λa b=>b=a)
 |[],acc,kv,_,hk=>⟨_,_,_,rfl,hk,rfl,rfl⟩
 |q::jk,acc,kv,hp,hk=>by
  have hq:=hp q ank;have yU:=H.l2;have hs:=H.size;rw[tW,YO N d.bV q env hq.1.symm (by omega) hq.2 (by omega),anc];unfold xO zU;rw[anc];obtain⟨t,er,dE,J,h2,h3⟩:=(mch N hN mem hm (kM (PU d) q++env) _ d.bO (anp _) H.ev).v H.cond N kv (by omega) hk;have mA:lD N N d.bO (kM (d.bV.map (·.au)) q++env) mem kv=some (t,er,dE):=J;rw[mA,anc,mh];unfold rE;cases hv:ff mem (kM (PU d) q++env) d.bO with
  |error z=>
   rw[hv]at h3;obtain⟨rfl,hz⟩:=h3;dsimp only;rw[bne_iff_ne.2 hz,cond_true];exact⟨_,_,_,rfl,h2,rfl,hz⟩
  |ok x=>
   rw[hv]at h3;obtain⟨rfl,e1,e2,e3⟩:=h3;dsimp only;rw[show((0:Int) !=0)=false from rfl,cond_false,e1];have ih:=λacc=>Uf N hN mem hm env he d H jk acc dE (λy hy=>hp y (ann _ hy)) h2;cases acc with
   |none=>exact ih (some x.1)
   |some a=>
    simp only[Option.isNone_some,cond_false,Option.getD_some];obtain⟨r,r1,r2⟩:=Yb N hN d.c9 d.aB a x.1 H.ty;rw[r1,anc];cases hr:oY d.c9 d.aB a x.1 with
    |error z=>
     rw[hr]at r2;obtain⟨r3,hz⟩:=r2;rw[r3,bne_iff_ne.2 hz,cond_true];exact⟨_,_,_,rfl,h2,rfl,hz⟩
    |ok v=>
     rw[hr]at r2;have r3:r=(v,0):=r2;subst r3;exact ih (some v)
theorem aiM(N:Nat)(hN:9223372036854775808<N)(mem:an3 aJ)(hm:mem.length<=4611686018427387904)(env:an3 aL)(he:env.length<=1000000)(d:bx)(H:Df N d)(red:an3 Int)(hR:pj red)(hl:red.length=d.bV.length)(kv:an3 (an4×aR))(hk:CK mem kv):
 ∃v er dE,AR N d red env mem kv=some (v,er,dE)/\CK mem dE/\m9 (xf mem env d red) er v (λa b=>b=a):=by
 have hs:=H.size;have hp:=hR.p;have h0:=sT hR.r;unfold AR xf;have hf:(bif (d.c9==0)then some true else some (d.c9==5))=some (d.c9==0||d.c9==5):=by cases d.c9==0<;>rfl
 rw[hf,anc];cases hb:(d.c9==0||d.c9==5)with
 |true=>
  have hr:red=[]:=by
   have:=H.plain hb;rw[this]at hl;exact List.eq_nil_of_length_eq_zero hl
  subst hr;rw[cond_true];unfold xO zU;rw[anc];obtain⟨t,er,dE,J,h2,h3⟩:=(mch N hN mem hm env _ d.bO (anp _) H.ev).v H.cond N kv (by omega) hk;rw[J,anc];refine⟨_,_,_,rfl,h2,?_⟩;have e:iK [] 0 (cS []).toNat=[[]]:=rfl;rw[e,mh];have e2:rE mem env d []=ff mem env d.bO:=by
   unfold rE kM;rw[List.zipWith_nil_right,List.nil_append]
  rw[e2];cases hv:ff mem env d.bO with
  |error z=>rw[hv]at h3;exact h3
  |ok x=>
   rw[hv]at h3;obtain⟨h4,e1,e3,e4⟩:=h3;exact⟨h4,e1⟩
 |false=>
  rw[cond_false,Tc N red hR,anc,Uu N (by omega) red hR,anc];exact Uf N hN mem hm env he d H _ none kv (by rw[<-hl];exact M8 hR _ 0 (by omega)) hk
def we(q:an3 Int):Int:=(q[q.length-1]?).getD 0
noncomputable def o0(mem:an3 aJ)(env:an3 aL)(d:bx)(red:an3 Int)(q:an3 Int):Except Int ax:=xf mem (kM (th d) q++env) d red
def kF(f:an3 Int->Except Int ax)(d:bx):an3 (an3 Int)->an3 ax->Except Int (an3 ax)
 |[],acc=> .ok acc
 |q::l,acc=>match f q with
  | .error z=> .error z
  | .ok v=>bif d.c9==5&&decide (we q>0)then(match acc[acc.length-1]? with
   |none=> .error 1
   |some w=>match oY 1 d.aB w v with
    | .error z=> .error z
    | .ok u=>kF f d l (acc++[u]))else kF f d l (acc++[v])
def U0(t:aF)(ext:an3 Int)(r:Except Int (an3 ax)):aR×Int:=match r with
 | .ok vs=>(⟨t,ext,vs⟩,0)
 | .error z=>(mE,z)
theorem ajL{ext:an3 Int}(h:ext≠ []):∃e,ext[ext.length-1]?=some e:=by
 have:0<ext.length:=List.length_pos_iff.2 h;exact⟨_,ani (by omega)⟩
theorem acy{acc:an3 ax}(h:0<acc.length):∃w,acc[acc.length-1]?=some w:=⟨_,ani (by omega)⟩
theorem TR(N:Nat)(hN:9223372036854775808<N)(mem:an3 aJ)(hm:mem.length<=4611686018427387904)(env:an3 aL)(he:env.length<=100000)(d:bx)(H:Df N d)(D:an3 Int×aF×Int)(hD:pj D.1)(A6:D.1.length=d.aU.length)(R:an3 Int×Int)(hR:pj R.1)(Ue:R.1.length=d.bV.length)(Un:an3 (an4×aR)):∀(m k:Nat)(acc:an3 ax)(kv:an3 (an4×aR)),(k:Int)+m=cS D.1->acc.length=k->CK mem kv->
 sL N d D env R (mem,Un) (iK D.1 k m) acc kv=some (U0 d.aB D.1 (kF (o0 mem env d R.1) d (iK D.1 k m) acc))
 |0,k,acc,kv,_,_,_=>rfl
 |m+1,k,acc,kv,hk,ha,hc=>by
  have hp:=hD.p;have Je:=H.l1;have hq:=M8 hD (m+1) k (by omega) (jx D.1 (k:Int)) (by rw[ug];exact ank);rw[ug,sL,YO N d.aU _ env (by rw[hq.1,A6]) (by omega) hq.2 (by omega),anc];obtain⟨v,er,dE,J,h2,h3⟩:=aiM N hN mem hm (kM (th d) (jx D.1 (k:Int))++env) (by rw[anf,adI _ _ (by unfold th;rw[anj,hq.1,A6])];unfold th;rw[anj];omega) d H R.1 hR Ue kv hc;have mA:AR N d R.1 (kM (d.aU.map (·.au)) (jx D.1 (k:Int))++env) mem kv=some (v,er,dE):=J;rw[mA,anc,kF];have ih:=λnu(hh:nu.length=k+1)=>TR N hN mem hm env he d H D hD A6 R hR Ue Un m (k+1) nu dE (by omega) hh h2;unfold o0;cases hv:xf mem (kM (th d) (jx D.1 (k:Int))++env) d R.1 with
  |error z=>
   rw[hv]at h3;obtain⟨rfl,hz⟩:=h3;dsimp only;rw[show(er==0)=false by rw[beq_eq_false_iff_ne];exact hz,cond_false,anc,cond_false];unfold ue;rw[bne_iff_ne.2 hz];rfl
  |ok x=>
   rw[hv]at h3;obtain⟨rfl,rfl⟩:=h3;dsimp only;rw[show((0:Int)==0)=true from rfl,cond_true];cases h5:(d.c9==5)with
   |false=>
    rw[cond_false,anc,cond_false,Bool.false_and,cond_false];unfold ue;rw[show((0:Int) !=0)=false from rfl,cond_false,fJ (by omega),cond_true];exact ih _ (by simp [ha])
   |true=>
    have cA:D.1≠ []:=λh=>H.scan (by simpa using h5) (List.eq_nil_of_length_eq_zero (by rw[<-A6,h];rfl));have Gg:0<D.1.length:=List.length_pos_iff.2 cA;obtain⟨e,pG⟩:=ajL cA;have wc:=UH (n:=(k:Int)) pG;have CS:we (jx D.1 (k:Int))=(k:Int).tmod e:=by unfold we;rw[hq.1,wc];rfl
    rw[cond_true,hq.1,jr (by have:=hD.n;omega) (by have:=hD.n;omega),anW (show(0:Int)<=(D.1.length:Int)-1 by omega),cond_true,show((D.1.length:Int)-1).toNat=D.1.length-1 by omega,wc,anc,anc,CS,Bool.true_and];cases hg:decide ((k:Int).tmod e>0)with
    |false=>
     rw[cond_false,cond_false];unfold ue;rw[show((0:Int) !=0)=false from rfl,cond_false,fJ (by omega),cond_true];exact ih _ (by simp [ha])
    |true=>
     have gv:0<acc.length:=by
      rw[ha];refine Classical.byContradiction λh=> ?_;have:k=0:=by omega
      subst this;rw[decide_eq_true_eq]at hg;simp at hg
     obtain⟨w,hw⟩:=acy gv;rw[cond_true,cond_true,jr (by omega) (by omega),anW (show(0:Int)<=(acc.length:Int)-1 by omega),cond_true,show((acc.length:Int)-1).toNat=acc.length-1 by omega,hw,anc];obtain⟨r,r1,r2⟩:=Yb N hN 1 d.aB w v H.ty;rw[r1,anc];unfold ue;dsimp only;cases hr:oY 1 d.aB w v with
     |error z=>
      rw[hr]at r2;obtain⟨r3,hz⟩:=r2;rw[r3,bne_iff_ne.2 hz];rfl
     |ok u=>
      rw[hr]at r2;have r3:r=(u,0):=r2;subst r3;rw[show((0:Int) !=0)=false from rfl,cond_false,fJ (by omega),cond_true];exact ih _ (by simp [ha])
theorem FY(env:an3 aL):∀(l:an3 bj)(acc:an3 Int),(fb env l acc).2=0->(fb env l acc).1.length=acc.length+l.length
 |[],acc,_=>rfl
 |f::l,acc,h=>by
  rw[fb]at h ⊢;cases J:(cW f env).2 !=0 with
  |true=>rw[J,cond_true]at h;simp only at h;rw[h]at J;cases J
  |false=>
   rw[J,cond_false]at h;rw[cond_false];cases h2:pM (cW f env).1 with
   |false=>rw[h2,cond_false]at h;cases h
   |true=>
    rw[h2,cond_true]at h;rw[cond_true,FY env l _ h];simp only[anf,anh,anq];omega
theorem Vf{p:aV}{i:Nat}{d:bx}(hd:p.aN[i]?=some d)(G:pV p i d):dI p.aW p.aN d.au=(d.aB,d.aU.map (·.dH),true):=by
 unfold dI;have J:=DT (·.au) d.au p.aW;rw[G.par]at J;have h2:=DT (·.au) d.au (p.aN.take i);rw[G.acZ]at h2;have e1:p.aW.find? (λx=>bL x.au==bL d.au)=none:=by
  cases hh:p.aW.find? (λx=>bL x.au==bL d.au)with
  |none=>rfl
  |some y=>rw[hh]at J;cases J
 rw[e1];have e:p.aN=p.aN.take i++(d::p.aN.drop (i+1)):=by rw[<-RQ hd,anS]
 have e2:p.aN.find? (lg d.au)=some d:=by
  rw[e,List.find?_append];have:(p.aN.take i).find? (lg d.au)=none:=by
    cases hh:(p.aN.take i).find? (lg d.au)with
    |none=>rfl
    |some y=>
     have h3:false=((p.aN.take i).find? (lg d.au)).isSome:=h2;rw[hh]at h3;cases h3
  rw[this,Option.none_or,List.find?_cons_of_pos];unfold lg;exact anY _
 rw[e2]
theorem Qy{N:Nat}(hN:9223372036854775808<N){p:aV}(B:Bd N p)(V:VQ N p){i:Nat}{d:bx}(hd:p.aN[i]?=some d)(G:pV p i d)(hl:ik 400 d.bO)(hs:3*SizeOf.sizeOf d.bO<N):Df N d:=by
 have Q:=V.defs i d hd;have hm:=anr hd;have hf:=Q.fold;refine⟨Q.type,hl.ev (by decide) G.body,?_,hs,Q.l1,Q.l2,λh=> ?_,λh=> ?_⟩
 ·obtain⟨t,J,h2⟩:=Q.tp;unfold xB at J;rw[Z2 N (by omega) d.bO (by omega) (hl.na (by decide)),anc,G.body,show((0:Int) !=0)=false from rfl,cond_false,JS,anc]at J;cases hc:eB d.bO with
  |false=>rfl
  |true=>rw[hc,cond_true]at J;cases J
 ·unfold uF at hf;cases h0:(d.c9==0)with
  |true=>
   rw[h0,cond_true]at hf;cases hr:(d.bV.length==0)with
   |true=>rw[beq_iff_eq]at hr;exact List.eq_nil_of_length_eq_zero hr
   |false=>rw[hr]at hf;cases hf
  |false=>
   rw[h0,Bool.false_or,beq_iff_eq]at h;rw[h]at hf;cases hr:(d.bV.length==0)with
   |true=>rw[beq_iff_eq]at hr;exact List.eq_nil_of_length_eq_zero hr
   |false=>rw[hr]at hf;cases hf
 ·unfold uF at hf;rw[h]at hf;intro hn;rw[hn]at hf;simp at hf
theorem SF(N:Nat):∀(l:an3 dh)(k:Nat)(acc:an3 bj),acc.length+l.length<=1000000000->Cx N l k acc=some (acc++l.map (·.dH))
 |[],k,acc,_=>by rw[Cx,List.map_nil,anA]
 |a::l,k,acc,h=>by
  simp only[anh]at h;rw[Cx,fJ (by omega),cond_true];dsimp only;rw[SF N l (k+1) _ (by simp only[anf,anh,anq];omega),anE,anv];rfl
theorem aap:∀a b:an3 Int,cS (a++b)=cS a*cS b
 |[],b=>by rw[List.nil_append,cS,Int.one_mul]
 |x::a,b=>by rw[List.cons_append,cS,cS,aap a b,Int.mul_assoc]
theorem TV(N:Nat)(lim:Int)(hl:lim<=65536)(L:an3 Int)(hL:L.length<=1000000):∀(l:an3 Int)(k f:Nat)(v:Int),L.drop k=l->k<=L.length->l.length<f->(∀x∈l,1<=x/\x<=4096)->1<=v->v<=lim->ua N L.length L lim f v (k:Int)=some (if v*cS l<=lim then v*cS l else lim+1)
 |[],k,f,v,hd,hk,hf,_,J,h2=>by
  obtain⟨f,rfl⟩:∃f',f=f'+1:=⟨f-1,by omega⟩;have:L.length<=k:=List.drop_eq_nil_iff.1 hd;rw[ua,anX (show ¬(k:Int)<(L.length:Int) by omega),cond_false,cS,Int.mul_one,if_pos h2]
 |x::l,k,f,v,hd,hk,hf,h,J,h2=>by
  obtain⟨f,rfl⟩:∃f',f=f'+1:=⟨f-1,by omega⟩;have hx:=h x ank;have hp:=sT (l:=l) λy hy=>h y (ann _ hy);have iC:v*x<=65536*4096:=Int.mul_le_mul (by omega) hx.2 (by omega) (by omega);have lG:1*1<=v*x:=Int.mul_le_mul J hx.1 (by decide) (by omega);have gM:k<L.length:=by
   refine Classical.byContradiction λh=> ?_;rw[List.drop_of_length_le (by omega)]at hd;cases hd
  simp only[anh]at hf;rw[ua,anW (show(k:Int)<(L.length:Int) by omega),cond_true,anW (show(0:Int)<=(k:Int) by omega),cond_true,anG,cE hd,anc,cS,jr (z:=v*x) (by omega) (by omega),<-Int.mul_assoc];by_cases hc:v*x>lim
  ·rw[anW hc,cond_true,jr (by omega) (by omega),if_neg];have:v*x*1<=v*x*cS l:=Int.mul_le_mul_of_nonneg_left hp (by omega);omega
  ·rw[anX hc,cond_false,jr (by omega) (by omega),show(k:Int)+1=((k+1:Nat):Int) by omega];exact TV N lim hl L hL l (k+1) f (v*x) (by rw[<-List.drop_drop,hd];rfl) gM (by omega) (λy hy=>h y (ann _ hy)) (by omega) (by omega)
theorem aga(N:Nat)(hN:2147483648<N)(L:an3 Int)(hL:L.length<=1000000)(h:∀x∈L,1<=x/\x<=4096):BU N L.length 65536 L=some (if cS L<=65536 then cS L else 65537):=by
 unfold BU;rw[Nat.beq_refl,cond_true];have:=TV N 65536 (by decide) L hL L 0 N 1 rfl (by omega) (by omega) h (by decide) (by decide);rw[Int.one_mul]at this;exact this
theorem Vs{p:aV}{env:an3 aL}{s:an4}(h:(eQ p env s).2.2=0):(eQ p env s).1=(fb env (dI p.aW p.aN s).2.1 []).1/\(fb env (dI p.aW p.aN s).2.1 []).2=0/\cS (eQ p env s).1<=4096:=by
 unfold eQ at h ⊢;dsimp only at h ⊢;cases J:(dI p.aW p.aN s).2.2 with
 |false=>rw[J]at h;cases h
 |true=>
  rw[J,cond_true]at h;rw[cond_true];cases h2:(fb env (dI p.aW p.aN s).2.1 []).2 !=0 with
  |true=>rw[h2,cond_true]at h;simp only at h;rw[h]at h2;cases h2
  |false=>
   rw[h2,cond_false]at h;rw[cond_false];cases h3:decide (cS (fb env (dI p.aW p.aN s).2.1 []).1>4096)with
   |true=>rw[h3]at h;cases h
   |false=>
    rw[decide_eq_false_iff_not]at h3;exact⟨rfl,by simpa using h2,by simp only[cond_false];omega⟩
noncomputable def po(p:aV)(env:an3 aL)(mem:an3 aJ)(d:bx)(rx:Int):aR×Int:=
 bif (eQ p env d.au).2.2 !=0 then(mE,(eQ p env d.au).2.2)else
 bif (fb env (d.bV.map (·.dH)) []).2 !=0 then(mE,(fb env (d.bV.map (·.dH)) []).2)else
 bif decide (cS (eQ p env d.au).1*cS (fb env (d.bV.map (·.dH)) []).1>65536)then(mE,2)else
 bif rx !=0 then(mE,rx)else
 U0 d.aB (eQ p env d.au).1 (kF (o0 mem env d (fb env (d.bV.map (·.dH)) []).1) d (iK (eQ p env d.au).1 0 (cS (eQ p env d.au).1).toNat) [])
structure Lw(N:Nat)(p:aV)(env:List aL):Prop where
 hN:9223372036854775808<N
 sh:zo p
 env:env.length<=20
 size:∀d∈p.aN,3*SizeOf.sizeOf d.bO<N
theorem Lw.bd{N:Nat}{p:aV}{env:an3 aL}(W:Lw N p env):Bd N p:=alC W.sh λd h=>by have:=W.size d h;omega
theorem Lw.wh{N:Nat}{p:aV}{env:an3 aL}(W:Lw N p env):∀c∈p.dS,c.bq.xL.length<=4611686018427387904:=λc hc=>anw (W.sh.W c hc) (by decide)
structure tv(t:aR):Prop where
 d:t.aU.length<=1000000
 v:t.dJ.length<=1000000
theorem x9:tv mE:=⟨by decide,by decide⟩
theorem abb(N:Nat){t:aR}(h:tv t):Ff N t=some t:=by
 have J:=h.d;have h2:=h.v;unfold Ff Ns OU;rw[fJ (by omega),cond_true,anc,fJ (by omega),cond_true,anc]
theorem J0(f:an3 Int->Except Int ax)(d:bx):∀(l:an3 (an3 Int))(acc vs:an3 ax),kF f d l acc= .ok vs->vs.length=acc.length+l.length
 |[],acc,vs,h=>by rw[kF]at h;cases h;rfl
 |q::l,acc,vs,h=>by
  rw[kF]at h;cases hf:f q with
  |error z=>rw[hf]at h;cases h
  |ok v=>
   rw[hf]at h;dsimp only at h;cases hb:(d.c9==5&&decide (we q>0))with
   |false=>
    rw[hb,cond_false]at h;have:=J0 f d l _ vs h;simp only[anf,anh,anq]at this ⊢;omega
   |true=>
    rw[hb,cond_true]at h;cases ha:acc[acc.length-1]? with
    |none=>rw[ha]at h;cases h
    |some w=>
     rw[ha]at h;dsimp only at h;cases hr:oY 1 d.aB w v with
     |error z=>rw[hr]at h;cases h
     |ok u=>
      rw[hr]at h;have:=J0 f d l _ vs h;simp only[anf,anh,anq]at this ⊢;omega
theorem UY(l:an3 Int)(k n:Nat):(iK l k n).length=n:=by unfold iK;rw[anj,List.length_range']
theorem adv{N:Nat}{p:aV}{env:an3 aL}{i:Nat}{d:bx}(hd:p.aN[i]?=some d)(G:pV p i d)(H:Df N d)(mem:an3 aJ)(rx:Int):tv (po p env mem d rx).1:=by
 unfold po;cases J:((eQ p env d.au).2.2 !=0)with
 |true=>exact x9
 |false=>
  rw[bne_eq_false_iff_eq]at J;obtain⟨d1,d2,d3⟩:=Vs J;rw[Vf hd G]at d1 d2;have LU:(eQ p env d.au).1.length=d.aU.length:=by rw[d1,FY env _ [] d2];simp
  have Je:=H.l1;rw[cond_false];cases (fb env (d.bV.map (·.dH)) []).2 !=0 with
  |true=>exact x9
  |false=>
   rw[cond_false];cases decide (cS (eQ p env d.au).1*cS (fb env (d.bV.map (·.dH)) []).1>65536)with
   |true=>exact x9
   |false=>
    rw[cond_false];cases rx !=0 with
    |true=>exact x9
    |false=>
     rw[cond_false];cases hf:kF (o0 mem env d (fb env (d.bV.map (·.dH)) []).1) d (iK (eQ p env d.au).1 0 (cS (eQ p env d.au).1).toNat) []with
     |error z=>exact x9
     |ok vs=>
      have:=J0 _ _ _ _ _ hf;rw[UY,anq]at this;exact⟨by show(eQ p env d.au).1.length<=1000000;omega,by show vs.length<=1000000;omega⟩
def vH(l:an3 aJ):Prop:=∀x∈l,tv x.dY
def ui(l:an3 aJ)(s:an4):aR×Bool:=match ib l s with|none=>(mE,false)|some t=>(t,true)
theorem aaK(N:Nat)(l:an3 aJ)(s:an4):uy N l s=some (ui l s):=by
 rw[QV];unfold ui;cases ib l s<;>rfl
theorem vH.find{l:an3 aJ}(h:vH l)(s:an4):tv (ui l s).1:=by
 unfold ui;cases hf:ib l s with
 |none=>exact x9
 |some t=>
  obtain⟨x,hx,e,_⟩:=Pq hf;have:=h x hx;rw[e]at this;exact this
theorem ajC(N:Nat)(hN:9223372036854775808<N)(p:aV)(env:an3 aL)(he:env.length<=100000)(mem:an3 aJ)(hm:mem.length<=4611686018427387904)(B:Bd N p){i:Nat}{d:bx}(hd:p.aN[i]?=some d)(G:pV p i d)(H:Df N d)(hl:ik 400 d.bO):∃rx,(rx=0->∀s∈C1 d.bO,Dk p mem s)/\A2 N p env mem (i:Int)=some (po p env mem d rx):=by
 have hs:=H.size;have hi:i<p.aN.length:=(ane.1 hd).1;have jI:=anr hd;have Je:=H.l1;have yU:=H.l2;obtain⟨rx,r1,r3⟩:=ahD N (by omega) p env mem B.P B.D d G.body hl;refine⟨rx,r3,?_⟩;unfold A2 po;have Sj:∀y∈d.bV.map (·.dH),lQ 1000000000 y:=λy hy=>by
  obtain⟨a,ha,rfl⟩:=List.mem_map.1 hy;exact B.D.kg d jI a (List.mem_append_right _ ha)
 have eR:=RB N (by omega) env (d.bV.map (·.dH)) 0 [] Sj (by simp only[anq,anj];omega);rw[anX (show ¬(i:Int)<0 by omega),cond_false,anX (show ¬(i:Int)>=(p.aN.length:Int) by omega),anc,cond_false,anW (show(0:Int)<=(i:Int) by omega),cond_true,anG,hd,anc,OV N (by omega) p env d.au B.P B.D,anc];cases PD:((eQ p env d.au).2.2 !=0)with
 |true=>rfl
 |false=>
  rw[bne_eq_false_iff_eq]at PD;obtain⟨d1,d2,d3⟩:=Vs PD;rw[Vf hd G]at d1 d2;have GL:∀x∈(eQ p env d.au).1,1<=x/\x<=4096:=by rw[d1];exact Hl env _ [] λx hx=>by cases hx
  have LU:(eQ p env d.au).1.length=d.aU.length:=by rw[d1,FY env _ [] d2];simp
  have hD:pj (eQ p env d.au).1:=⟨GL,by omega,by omega⟩;have UL:=sT GL;unfold OE Cd;rw[cond_false,cond_false,SF N d.bV 0 [] (by simp only[anq];omega)];simp only[List.nil_append,anc];rw[eR,anc];cases nJ:((fb env (d.bV.map (·.dH)) []).2 !=0)with
  |true=>rfl
  |false=>
   rw[bne_eq_false_iff_eq]at nJ;have Iw:∀x∈(fb env (d.bV.map (·.dH)) []).1,1<=x/\x<=4096:=Hl env _ [] λx hx=>by cases hx
   have hRl:(fb env (d.bV.map (·.dH)) []).1.length=d.bV.length:=by rw[FY env _ [] nJ];simp
   have hRp:=sT Iw;generalize hRg:fb env (d.bV.map (·.dH)) []=R at Iw hRl hRp nJ ⊢;generalize hDg:eQ p env d.au=D at GL LU hD UL d3 PD ⊢;unfold MJ;rw[cond_false,cond_false,fJ (show D.1.length*8<=140737488355328 by omega),cond_true,anc,fJ (show(D.1.length+R.1.length)*8<=140737488355328 by omega),cond_true];have hc:=aga N (by omega) (D.1++R.1) (by rw[anf];omega) (λx hx=>by
    rcases anR.1 hx with hx|hx
    ·exact GL x hx
    ·exact Iw x hx)
   rw[anf,aap]at hc;rw[hc,anc];have lG:1*cS R.1<=cS D.1*cS R.1:=Int.mul_le_mul_of_nonneg_right UL (by omega);have e1:decide ((if cS D.1*cS R.1<=65536 then cS D.1*cS R.1 else 65537)>65536)=decide (cS D.1*cS R.1>65536):=RY 65536 (by decide) (by decide) _;rw[e1];cases hp:decide (cS D.1*cS R.1>65536)with
   |true=>rfl
   |false=>
    rw[decide_eq_false_iff_not]at hp;have hR:pj R.1:=⟨Iw,by omega,by omega⟩;rw[cond_false,cond_false,r1,anc];cases rx !=0 with
    |true=>rfl
    |false=>
     rw[cond_false,cond_false];unfold DG;rw[anc,Tc N D.1 hD,anc,Uu N (by omega) D.1 hD,anc];exact TR N hN mem hm env he d H D hD LU R hR hRl [] _ 0 [] [] (by omega) rfl (CK.nil mem)
theorem amf(N:Nat)(hN:2147483648<N)(p:aV)(env:an3 aL)(B:Bd N p)(hw:∀c∈p.dS,c.bq.xL.length<=4611686018427387904):∃x,C7 N p env=some x/\(x=0->Hj p env=0/\VQ N p/\∀i d,p.aN[i]?=some d->pV p i d):=by
 obtain⟨a,x,J,h2,h3⟩:=ae8 hN B;unfold C7;rw[J,amm N hN env p hw,anc];cases hx:(x !=0)with
 |true=>exact⟨x,rfl,λh=>by rw[h]at hx;cases hx⟩
 |false=>
  have mX:x=0:=by simpa using hx
  subst mX;exact⟨Hj p env,rfl,λh=>⟨h,agJ (by omega) B h2,h3 rfl⟩⟩
theorem ak1{N:Nat}{p:aV}{env:an3 aL}(W:Lw N p env)(V:VQ N p)(G:∀i d,p.aN[i]?=some d->pV p i d)(mem:an3 aJ)(hm:mem.length<=4611686018427387904){i:Nat}{d:bx}(hd:p.aN[i]?=some d):∃rx,(rx=0->∀s∈C1 d.bO,Dk p mem s)/\A2 N p env mem (i:Int)=some (po p env mem d rx):=by
 have fZ:=anr hd;have he:=W.env;exact ajC N W.hN p env (by omega) mem hm W.bd hd (G i d hd) (Qy W.hN W.bd V hd (G i d hd) (W.sh.D d fZ).body (W.size d fZ)) (W.sh.D d fZ).body
set_option linter.unusedSectionVars false
section
variable {t:aF} {a b c:ax} (ht:c7 t=true) (ha:dD t a=true) (hb:dD t b=true)
include ht ha
end
section
variable {t:aF} {a:ax} (ht:c7 t=true) (ha:dD t a=true)
include ht ha
end
theorem OB{op:Int}{i:Nat}(h:op≠11\/i≠0)(dd:op<16):kD op i=false:=by
 unfold kD;rw[show(op==16)=false by rw[beq_eq_false_iff_ne];omega,show(op==17)=false by rw[beq_eq_false_iff_ne];omega,show(op==18)=false by rw[beq_eq_false_iff_ne];omega];rcases h with h|h
 ·rw[show(op==11)=false by rw[beq_eq_false_iff_ne];exact h];rfl
 ·rw[show(i==0)=false by rw[beq_eq_false_iff_ne];exact h,Bool.and_false];rfl
theorem Ev.c1{e a:ar}(H:Ev e)(ha:e.bM=[a])(ho:e.ay<16)(bD:e.ay≠11):eB a=false:=by
 rw[H.n.want 0 a (by rw[ha];rfl)];exact OB (.inl bD) ho
theorem Ev.c2{e a b:ar}(H:Ev e)(ha:e.bM=[a,b])(ho:e.ay<16)(bD:e.ay≠11):eB a=false/\eB b=false:=by
 refine⟨?_,?_⟩
 ·rw[H.n.want 0 a (by rw[ha];rfl)];exact OB (.inl bD) ho
 ·rw[H.n.want 1 b (by rw[ha];rfl)];exact OB (.inl bD) ho
theorem Ev.c3{e c a b:ar}(H:Ev e)(ha:e.bM=[c,a,b])(ho:e.ay=11):eB c=true/\eB a=false/\eB b=false:=by
 refine⟨?_,?_,?_⟩
 ·rw[H.n.want 0 c (by rw[ha];rfl),ho];rfl
 ·rw[H.n.want 1 a (by rw[ha];rfl),ho];rfl
 ·rw[H.n.want 2 b (by rw[ha];rfl),ho];rfl
theorem Ev.k1{e a:ar}(H:Ev e)(ha:e.bM=[a])(ho:e.ay=18):eB a=true:=by
 rw[H.n.want 0 a (by rw[ha];rfl),ho];rfl
theorem Ev.k2{e a b:ar}(H:Ev e)(ha:e.bM=[a,b])(ho:e.ay=16\/e.ay=17):eB a=true/\eB b=true:=by
 refine⟨?_,?_⟩
 ·rw[H.n.want 0 a (by rw[ha];rfl)];rcases ho with h|h<;>rw[h]<;>rfl
 ·rw[H.n.want 1 b (by rw[ha];rfl)];rcases ho with h|h<;>rw[h]<;>rfl
theorem Ps{e a:ar}(ha:e.bM=[a]):SizeOf.sizeOf a<SizeOf.sizeOf e:=nw (by rw[ha];simp)
theorem Oy{e a b:ar}(ha:e.bM=[a,b]):SizeOf.sizeOf a<SizeOf.sizeOf e/\SizeOf.sizeOf b<SizeOf.sizeOf e:=⟨nw (by rw[ha];simp),nw (by rw[ha];simp)⟩
theorem sz3{e c a b:ar}(ha:e.bM=[c,a,b]):SizeOf.sizeOf c<SizeOf.sizeOf e/\SizeOf.sizeOf a<SizeOf.sizeOf e/\SizeOf.sizeOf b<SizeOf.sizeOf e:=⟨nw (by rw[ha];simp),nw (by rw[ha];simp),nw (by rw[ha];simp)⟩
theorem Ev.a1{e a:ar}(H:Ev e)(ha:e.bM=[a]):Ev a:=H.arg (by rw[ha];simp)
theorem Ev.a2{e a b:ar}(H:Ev e)(ha:e.bM=[a,b]):Ev a/\Ev b:=⟨H.arg (by rw[ha];simp),H.arg (by rw[ha];simp)⟩
theorem Ev.a3{e c a b:ar}(H:Ev e)(ha:e.bM=[c,a,b]):Ev c/\Ev a/\Ev b:=⟨H.arg (by rw[ha];simp),H.arg (by rw[ha];simp),H.arg (by rw[ha];simp)⟩
section
variable {mem:an3 aJ} {env:an3 aL}
end
theorem adJ{mem:an3 aJ}{env:an3 aL}{e:ar}{z:Int}(h:rJ mem env e= .error z):z≠0:=by
 unfold rJ at h;cases k1:(e.ay==1)with
 |true=>rw[k1]at h;cases h
 |false=>
  rw[k1,cond_false]at h;cases k2:(e.ay==2)with
  |true=>
   rw[k2,cond_true]at h;cases he:((cW e.bq env).2 !=0)with
   |true=>rw[he]at h;cases h;simpa using he
   |false=>
    rw[he,cond_false]at h;cases hc:(decide ((cW e.bq env).1.toInt>2147483647)||decide ((cW e.bq env).1.toInt< -2147483647))with
    |true=>rw[hc]at h;cases h;decide
    |false=>rw[hc]at h;cases h
  |false=>
   rw[k2,cond_false]at h;unfold vF at h;cases lJ:ji mem e.au with
   |error y=>rw[lJ]at h;cases h;exact Vv lJ
   |ok t=>
    rw[lJ]at h;dsimp only at h;cases qF:((e.xIdx.length:Int) !=(t.aU.length:Int))with
    |true=>rw[qF]at h;cases h;decide
    |false=>
     rw[qF,cond_false]at h;cases hp:mq mem env e.xIdx t.aU 0 with
     |error y=>rw[hp]at h;cases h;exact Wn mem env _ _ _ _ hp
     |ok c=>
      rw[hp]at h;dsimp only at h;cases hv:t.dJ[c.toNat]? with
      |none=>rw[hv]at h;cases h;decide
      |some v=>rw[hv]at h;cases h
theorem qh{α β:Type}{r:Except Int α}{f:α->Except Int β}{z:Int}(h:ju r f= .error z):r= .error z\/∃x,r= .ok x/\f x= .error z:=by
 cases r with
 |error y=>exact .inl (by cases h;rfl)
 |ok x=>exact .inr ⟨x,rfl,h⟩
theorem MI{t:aF}{r:ax×Int}{z:Int}(h:pZ t r= .error z):z≠0:=by
 unfold pZ at h;cases hz:r.2 !=0 with
 |true=>rw[hz]at h;cases h;simpa using hz
 |false=>rw[hz]at h;cases h
theorem tI{α:Type}{b:Bool}{x y:Except Int α}{z:Int}(h:(bif b then x else y)= .error z):x= .error z\/y= .error z:=by
 cases b with
 |true=>exact .inl h
 |false=>exact .inr h
theorem nH{mem:an3 aJ}{env:an3 aL}:∀(n:Nat)(e:ar),SizeOf.sizeOf e<=n->Ev e->(∀z,ff mem env e= .error z->eB e=false->z≠0)/\(∀z,kK mem env e= .error z->eB e=true->z≠0)
 |0,e,hn,_=>by cases e;simp at hn
 |n+1,e,hn,H=>by
  refine⟨λz h hc=> ?_,λz h hc=> ?_⟩
  ·rcases kd H.n hc with k0|⟨a,ha,ho⟩|⟨a,ha,ho⟩|⟨a,b,ha,ho⟩|⟨c,a,b,ha,ho⟩
   ·rw[PH k0]at h;exact adJ h
   ·have s1:=Ps ha;rw[HE (by omega) ha]at h;rcases qh h with h|⟨x,_,h⟩
    ·exact(nH n a (by omega) (H.a1 ha)).1 z h (H.c1 ha (by omega) (by omega))
    ·rcases tI h with h|h<;>exact MI h
   ·have s1:=Ps ha;rw[HE (by omega) ha]at h;rcases qh h with h|⟨x,_,h⟩
    ·exact(nH n a (by omega) (H.a1 ha)).1 z h (H.c1 ha (by omega) (by omega))
    ·rcases tI h with h|h<;>exact MI h
   ·have s2:=Oy ha;have c2:=H.c2 ha (by omega) (by omega);rw[aaf (by omega) ha]at h;rcases qh h with h|⟨x,_,h⟩
    ·exact(nH n a (by omega) (H.a2 ha).1).1 z h c2.1
    ·rcases qh h with h|⟨y,_,h⟩
     ·exact(nH n b (by omega) (H.a2 ha).2).1 z h c2.2
     ·rcases tI h with h|h
      ·exact MI h
      ·cases h;decide
   ·have s3:=sz3 ha;have c3:=H.c3 ha ho;rw[VW (by omega) ha]at h;rcases qh h with h|⟨x,_,h⟩
    ·exact(nH n c (by omega) (H.a3 ha).1).2 z h c3.1
    ·rcases tI h with h|h
     ·exact(nH n a (by omega) (H.a3 ha).2.1).1 z h c3.2.1
     ·exact(nH n b (by omega) (H.a3 ha).2.2).1 z h c3.2.2
  ·rcases kc H.n hc with⟨a,ha,ho⟩|⟨a,b,ha,ho⟩|⟨a,b,ha,ho⟩
   ·have s1:=Ps ha;rw[aaS ha]at h;rcases qh h with h|⟨x,_,h⟩
    ·exact(nH n a (by omega) (H.a1 ha)).2 z h (H.k1 ha ho)
    ·cases h
   ·have s2:=Oy ha;have c2:=H.c2 ha (by omega) (by omega);rw[J8 ha,anW (show e.ay<16 by omega),cond_true]at h;rcases qh h with h|⟨x,_,h⟩
    ·exact(nH n a (by omega) (H.a2 ha).1).1 z h c2.1
    ·rcases qh h with h|⟨y,_,h⟩
     ·exact(nH n b (by omega) (H.a2 ha).2).1 z h c2.2
     ·rcases tI h with h|h
      ·cases h
      ·cases h;decide
   ·have s2:=Oy ha;have k2:=H.k2 ha ho;rw[J8 ha,anX (show ¬e.ay<16 by omega),cond_false]at h;rcases qh h with h|⟨x,_,h⟩
    ·exact(nH n a (by omega) (H.a2 ha).1).2 z h k2.1
    ·rcases qh h with h|⟨y,_,h⟩
     ·exact(nH n b (by omega) (H.a2 ha).2).2 z h k2.2
     ·cases h
theorem acH{mem:an3 aJ}{env:an3 aL}{z:Int}(n:Nat)(e:ar)(hn:SizeOf.sizeOf e<=n)(H:Ev e)(h:ff mem env e= .error z)(hc:eB e=false):z≠0:=(nH n e hn H).1 z h hc
theorem T8{f:Int}{t:aF}{a b:ax}{z:Int}(h:oY f t a b= .error z):z≠0:=by
 unfold oY at h;rcases tI h with h|h
 ·rcases tI h with h|h
  ·cases hz:(ot (uP f) t a b).2 !=0 with
   |true=>rw[hz]at h;cases h;simpa using hz
   |false=>rw[hz]at h;cases h
  ·cases h;decide
 ·cases h;decide
theorem Qm{f:an3 Int->Except Int (ax×aF)}{d:bx}(hf:∀q z,f q= .error z->z≠0):∀(l:an3 (an3 Int))(acc:an5 ax)(z:Int),mh f d l acc= .error z->z≠0
 |[],acc,z,h=>by cases h
 |q::l,acc,z,h=>by
  rw[mh]at h;cases hq:f q with
  |error y=>rw[hq]at h;cases h;exact hf q _ hq
  |ok x=>
   rw[hq]at h;cases acc with
   |none=>exact Qm hf l _ z h
   |some a=>
    dsimp only at h;cases hr:oY d.c9 d.aB a x.1 with
    |error y=>rw[hr]at h;cases h;exact T8 hr
    |ok w=>rw[hr]at h;exact Qm hf l _ z h
theorem Q8{f:an3 Int->Except Int ax}{d:bx}(hf:∀q z,f q= .error z->z≠0):∀(l:an3 (an3 Int))(acc:an3 ax)(z:Int),kF f d l acc= .error z->z≠0
 |[],acc,z,h=>by cases h
 |q::l,acc,z,h=>by
  rw[kF]at h;cases hq:f q with
  |error y=>rw[hq]at h;cases h;exact hf q _ hq
  |ok v=>
   rw[hq]at h;dsimp only at h;rcases tI h with h|h
   ·cases hw:acc[acc.length-1]? with
    |none=>rw[hw]at h;cases h;decide
    |some w=>
     rw[hw]at h;dsimp only at h;cases hr:oY 1 d.aB w v with
     |error y=>rw[hr]at h;cases h;exact T8 hr
     |ok u=>rw[hr]at h;exact Q8 hf l _ z h
   ·exact Q8 hf l _ z h
theorem Zs{l:an3 aJ}{s:an4}{t:aR}(h:ib l s=some t):ui l s=(t,true):=by unfold ui;rw[h]
theorem S9{N:Nat}{p:aV}{env:an3 aL}(W:Lw N p env)(V:VQ N p)(ins:an3 aJ)(hi:vH ins):∀(l:an3 eH)(k:Nat)(acc:an3 aJ),p.aW.drop k=l->acc.length+l.length<=1000000->
 (∃z,z≠0/\qv N p env ins l k acc=some ([],z))\/(∃m,qv N p env ins l k acc=some (acc++m,0)/\m.map (·.au)=l.map (·.au)/\∀a∈m,ib ins a.au=some a.dY/\kf a.dY=true/\tv a.dY)
 |[],k,acc,_,_=> .inr ⟨[],by rw[anA];rfl,rfl,λa ha=>by cases ha⟩
 |x::l,k,acc,hd,hl=>by
  simp only[anh]at hl;have hN:=W.hN;have hx:p.aW[k]?=some x:=cE hd;have B:=W.bd;rw[qv,OV N (by omega) p env x.au B.P B.D,anc];cases J:((eQ p env x.au).2.2 !=0)with
  |true=>
   rw[bne_iff_ne]at J;rw[show((eQ p env x.au).2.2==0)=false by rw[beq_eq_false_iff_ne];exact J,cond_false];unfold Af;rw[bne_iff_ne.2 J,cond_true];exact .inl ⟨_,J,rfl⟩
  |false=>
   rw[bne_eq_false_iff_eq]at J;rw[J,show((0:Int)==0)=true from rfl,cond_true];obtain⟨z,m1,m3⟩:=Ve N (by omega) ins x.au (eQ p env x.au).2.1 (eQ p env x.au).1;rw[m1,anc];unfold Af;cases hz:(z !=0)with
   |true=>exact .inl ⟨z,bne_iff_ne.1 hz,rfl⟩
   |false=>
    obtain⟨y,y1,y2,y3⟩:=m3 (by simpa using hz);have sm:=hi.find x.au;rw[cond_false,aaK,anc,abb N sm,anc,fJ (by omega),cond_true,Zs y1];rcases S9 W V ins hi l (k+1) (acc++[⟨x.au,y⟩]) (uz hd) (by simp only[anf,anh,anq];omega)with⟨z,z1,z2⟩|⟨m,z1,z2,z3⟩
    ·exact .inl ⟨z,z1,z2⟩
    ·refine .inr ⟨⟨x.au,y⟩::m,by refine z1.trans ?_;rw[anv];rfl,by rw[anE,anE,z2],λa ha=> ?_⟩;rcases anJ.1 ha with rfl|ha
     ·exact⟨y1,y2,by have h:=sm;rw[Zs y1]at h;exact h⟩
     ·exact z3 a ha
def aat(p:aV)(env:an3 aL)(mem:an3 aJ)(d:bx)(T:aR):Prop:=∃rx,(rx=0->∀s∈C1 d.bO,Dk p mem s)/\po p env mem d rx=(T,0)
theorem Y4{N:Nat}{p:aV}{env:an3 aL}(W:Lw N p env)(V:VQ N p)(G:∀i d,p.aN[i]?=some d->pV p i d):∀(l:an3 bx)(k:Nat)(mem:an3 aJ),p.aN.drop k=l->mem.length+l.length<=1000000->
 (∃z,z≠0/\Cp N p env l k mem=some ([],z))\/(∃all,Cp N p env l k mem=some (mem++all,0)/\all.map (·.au)=l.map (·.au)/\(∀a∈all,tv a.dY)/\∀(j:Nat)(a:aJ)(d:bx),all[j]?=some a->l[j]?=some d->aat p env (mem++all.take j) d a.dY)
 |[],k,mem,_,_=> .inr ⟨[],by rw[anA];rfl,rfl,λa ha=>(by cases ha),λj a d ha=>by simp at ha⟩
 |d::l,k,mem,hd,hl=>by
  simp only[anh]at hl;have hk:p.aN[k]?=some d:=cE hd;obtain⟨rx,r0,r1⟩:=ak1 W V G mem (by omega) hk;rw[Cp,r1,anc];cases hq:((po p env mem d rx).2 !=0)with
  |true=>exact .inl ⟨_,bne_iff_ne.1 hq,rfl⟩
  |false=>
   rw[bne_eq_false_iff_eq]at hq;rw[cond_false,fJ (by omega),cond_true];rcases Y4 W V G l (k+1) (mem++[⟨d.au,(po p env mem d rx).1⟩]) (uz hd) (by simp only[anf,anh,anq];omega)with⟨z,z1,z2⟩|⟨all,z1,z2,zs,z3⟩
   ·exact .inl ⟨z,z1,z2⟩
   ·refine .inr ⟨⟨d.au,(po p env mem d rx).1⟩::all,by refine z1.trans ?_;rw[anv];rfl,by rw[anE,anE,z2],λa ha=> ?_,λj a e ha he=> ?_⟩
    ·rcases anJ.1 ha with rfl|ha
     ·have fZ:=anr hk;exact adv hk (G k d hk) (Qy W.hN W.bd V hk (G k d hk) (W.sh.D d fZ).body (W.size d fZ)) mem rx
     ·exact zs a ha
    cases j with
    |zero=>
     cases ha;cases he
     rw[List.take_zero,anA];exact⟨rx,r0,Prod.ext rfl hq⟩
    |succ j=>
     have:=z3 j a e (by simpa using ha) (by simpa using he);rw[anv]at this;exact this
structure amN(N:Nat)(p:aV)(env:List aL)(ins m all:List aJ):Prop where
 V:VQ N p
 G:∀i d,p.aN[i]?=some d->pV p i d
 cs:C7 N p env=some 0
 mn:m.map (·.au)=p.aW.map (·.au)
 an:all.map (·.au)=p.aN.map (·.au)
 ins:∀a∈m,ib ins a.au=some a.dY/\kf a.dY=true/\tv a.dY
 made:∀(j:Nat)(a:aJ)(d:bx),all[j]?=some a->p.aN[j]?=some d->aat p env (m++all.take j) d a.dY
def aaR(p:aV)(mem:an3 aJ):an3 aJ:=p.du.map λs=>⟨s,(ui mem s).1⟩
theorem U7(N:Nat)(q:an3 aJ×Int)(hs:vH q.1):∀(l:an3 an4)(k:Nat)(acc:an3 aJ),acc.length+l.length<=1000000->Ih N q l k acc=some (acc++l.map (λs=>(⟨s,(ui q.1 s).1⟩:aJ)),0)
 |[],k,acc,_=>by rw[List.map_nil,anA];rfl
 |s::l,k,acc,hl=>by
  simp only[anh]at hl;rw[Ih,aaK,anc,abb N (hs.find s),anc,fJ (by omega),cond_true];dsimp only;rw[U7 N q hs l (k+1) _ (by simp only[anf,anh,anq];omega),anv];rfl
theorem ajn{N:Nat}{p:aV}{env:an3 aL}(W:Lw N p env)(ins:an3 aJ)(hi:vH ins):
 (∃z,z≠0/\tE N p env ins=some ([],z)/\Oi N p env ins=some ([],z))\/
 (∃m all,amN N p env ins m all/\tE N p env ins=some (aaR p (m++all),0)/\Oi N p env ins=some (all,0)):=by
 have hN:=W.hN;have cl:=W.sh.d;have IC:=W.sh.q;have ho:=W.sh.o;unfold tE Oi KE;obtain⟨x,J,h3⟩:=amf N (by omega) p env W.bd W.wh;rw[J,anc];cases hx:(x !=0)with
 |true=>
  refine .inl ⟨x,bne_iff_ne.1 hx,?_,?_⟩
  ·rw[cond_true,anc];dsimp only;rw[hx];rfl
  ·rw[cond_true,anc];dsimp only;rw[hx];rfl
 |false=>
  have ME:x=0:=by simpa using hx
  obtain⟨_,V,G⟩:=h3 ME;rw[cond_false];unfold Gc;rcases S9 W V ins hi p.aW 0 [] rfl (by simp only[anq];omega)with⟨z,z1,z2⟩|⟨m,z1,z2,z3⟩
  ·rw[z2,anc];dsimp only;rw[bne_iff_ne.2 z1,cond_true];refine .inl ⟨z,z1,?_,?_⟩
   ·rw[anc];dsimp only;rw[bne_iff_ne.2 z1];rfl
   ·rw[anc];dsimp only;rw[bne_iff_ne.2 z1];rfl
  ·rw[z1,anc];dsimp only;rw[show((0:Int) !=0)=false from rfl,cond_false,List.nil_append];have hm:m.length=p.aW.length:=by have:=congrArg List.length z2;simpa using this
   rcases Y4 W V G p.aN 0 m rfl (by omega)with⟨z,y1,y2⟩|⟨all,y1,y2,ys,y3⟩
   ·rw[y2];refine .inl ⟨z,y1,?_,?_⟩
    ·rw[anc];dsimp only;rw[bne_iff_ne.2 y1];rfl
    ·rw[anc];dsimp only;rw[bne_iff_ne.2 y1];rfl
   ·rw[y1];have sm:vH (m++all):=λa ha=>by
      rcases anR.1 ha with ha|ha
      ·exact(z3 a ha).2.2
      ·exact ys a ha
    refine .inr ⟨m,all,⟨V,G,by rw[J,ME],z2,y2,z3,y3⟩,?_,?_⟩
    ·rw[anc];dsimp only;rw[show((0:Int) !=0)=false from rfl,cond_false];exact U7 N (m++all,0) sm p.du 0 [] (by simp only[anq];omega)
    ·rw[anc];dsimp only;rw[show((0:Int) !=0)=false from rfl,cond_false,anW (show(0:Int)<=(p.aW.length:Int) by omega),cond_true,anG,anW (show p.aW.length<=(m++all).length by rw[anf];omega),cond_true,List.drop_left' hm]
def inK(k:IntKind)(n:Int):Prop:=k.min<=n/\n<=k.max
theorem S7{n:Int}(h:inK .i64 n):∃m:Int64,n=m.toInt:=by
 refine⟨Int64.ofInt n,?_⟩;have J:aP n=n:=by
  unfold aP;rw[IntKind.wrap_i64];have h2: -9223372036854775808<=n:=h.1;have h3:n<=9223372036854775807:=h.2;omega
 rw[Int64.toInt_ofInt,<-Ap];exact J.symm
structure Hk(x:ax):Prop where
 h0:True
 J:True
theorem abp{xs:an3 D}(h:jw Tryz.prog 58 xs):∃x:ax,xs=AQ x/\Hk x:=by
 obtain⟨parts,rfl,hl,hx⟩:=h.ait Tryz.underlying58
 match parts,hl with
 |[a0,a1],_=>
 obtain⟨amZ,rfl,ag6⟩:=(hx 0 _ _ rfl rfl).aan Tryz.underlying2;obtain⟨aiC,rfl⟩:=S7 ag6;obtain⟨am3,rfl,ab8⟩:=(hx 1 _ _ rfl rfl).aan Tryz.underlying2;obtain⟨ai1,rfl⟩:=S7 ab8;exact⟨⟨aiC,ai1⟩,rfl,⟨trivial,trivial⟩⟩
theorem agz{xs:an3 D}(h:jw Tryz.prog 36 xs):∃l:an3 ax,xs=[.sl (dy l)]/\(l.length<=140737488355328/\∀a∈l,Hk a):=by
 obtain⟨l,rfl,hl,hs⟩:=h.abG Tryz.underlying36;obtain⟨r,rfl,hr⟩:=RX (f:=AQ) (Q:=λa=>Hk a) l (λx hx=>abp (hs x hx));exact⟨r,by rw[sR],by simpa using hl,hr⟩
def acR:an3 TypeId:=[2,3,4,9,22,23,24,25,27,28,29,34,35,36,38,40,41,43,50,51,53,55,56,58,59,61,63,64,66,68,93]
theorem afBq:Na Tryz.prog acR=true:=by kernel_rfl
noncomputable def MY(d:bx):Nat:=3*SizeOf.sizeOf d.bO+2
theorem VK:∀{l:an3 bx}{d:bx},d∈l->MY d<=(l.map MY).sum
 |x::l,d,h=>by
  rw[anE,List.sum_cons];rcases anJ.1 h with rfl|h
  ·omega
  ·have:=VK h;omega
noncomputable def U2(p:aV):Nat:=(p.aN.map MY).sum
theorem UC{l:bj}{env:an3 aL}{n:Int64}(J:iB l=true)(h2:pf env l.xL l.xK.toInt=some n.toInt):cW l env=(n,0):=by
 unfold cW;rw[J,h2];dsimp only;rw[aaA,Int64.ofInt_toInt];rfl
def vU:bj:=⟨0,[⟨bs [110],1⟩]⟩
def Fs:bj:=⟨0,[⟨bs [105],1⟩]⟩
def qu:ar:=⟨3,bs [97],cB,dG,jb,[⟨Fs,bs [],[]⟩],[]⟩
def ZJ:dh:=⟨bs [105],vU⟩
def my:bx:=⟨bs [115],iF,[],[ZJ],1,qu⟩
def m6:bx:=⟨bs [116],iF,[ZJ],[],5,qu⟩
def lH:aV:=⟨[bs [110]],[],[⟨bs [97],iF,[vU]⟩],[my,m6],[bs [115],bs [116]]⟩
def jJ(L:Nat):an3 aL:=[⟨bs [110],Int64.ofInt (L:Int)⟩]
def mj(vs:an3 ax):aR:=⟨iF,[(vs.length:Int)],vs⟩
def K6(vs:an3 ax):an3 aJ:=[⟨bs [97],mj vs⟩]
theorem afJ:ik 20 qu:=λy hy=>by
 have:y=qu:=by
  rcases anJ.1 hy with h|h
  ·exact h
  ·cases h
 subst this;exact⟨by decide,by decide,λx hx=>by
  have:x=⟨Fs,bs [],[]⟩:=by simpa [qu]using hx
  subst this;exact⟨by decide,by decide,λl hl=>by cases hl⟩,by decide⟩
theorem ads(n:Nat):HO (n+1000) lH (400:Nat)=some false:=by kernel_rfl
theorem ajE{N:Nat}(hN:1000<N)(hs:∀d∈lH.aN,SizeOf.sizeOf d.bO<N):zo lH:=by
 have hd:∀d∈lH.aN,ik qx d.bO/\SizeOf.sizeOf d.bO<N:=λd hd=>by
  refine⟨λy hy=> ?_,hs d hd⟩;have hb:d.bO=qu:=by
   rcases anJ.1 hd with rfl|hd
   ·rfl
   ·rcases List.mem_singleton.1 hd with rfl;rfl
  rw[hb]at hy;have H:=afJ y hy;have hm:20<=qx:=by decide
  exact⟨anw H.kY hm,anw H.idx hm,λx hx=>⟨anw (H.each x hx).kY hm,anw (H.each x hx).at_ hm,λl hl=>anw ((H.each x hx).AE l hl) hm⟩,anw H.args hm⟩
 obtain⟨b,J,h2⟩:=alw N 400 (by decide) hN lH hd;have:HO N lH (400:Nat)=some false:=by
  obtain⟨n,rfl⟩:∃n,N=n+1000:=⟨N-1000,by omega⟩;exact ads n
 rw[this]at J;cases J
 exact h2 rfl
theorem RL{k:Nat}(h:k<=60):(Int64.ofInt (k:Int)).toInt=(k:Int):=Int64.toInt_ofInt_of_le (by omega) (by omega)
theorem abK{L:Nat}:cW vU (jJ L)=(Int64.ofInt (L:Int),0):=by
 refine UC rfl ?_;show some ((0:Int)+(1:Int64).toInt*(Int64.ofInt (L:Int)).toInt)=_;rw[show(1:Int64).toInt=1 from rfl]
 congr 1;omega
theorem abT(k:Nat)(r:an3 aL):cW Fs (⟨bs [105],Int64.ofInt (k:Int)⟩::r)=(Int64.ofInt (k:Int),0):=by
 refine UC rfl ?_;show some ((0:Int)+(1:Int64).toInt*(Int64.ofInt (k:Int)).toInt)=_;rw[show(1:Int64).toInt=1 from rfl]
 congr 1;omega
theorem aaC{L:Nat}(J:1<=L)(h2:L<=60):fb (jJ L) [vU] []=([(L:Int)],0):=by
 rw[fb,abK];dsimp only;have:pM (Int64.ofInt (L:Int))=true:=by
   unfold pM;rw[RL h2,anW (show 1<=(L:Int) by omega),anW (show(L:Int)<=4096 by omega)];rfl
 rw[this,show((0:Int) !=0)=false from rfl,cond_false,cond_true,fb,RL h2];rfl
theorem aiw{L:Nat}(J:1<=L)(h2:L<=60):eQ lH (jJ L) (bs [116])=([(L:Int)],iF,0):=by
 show(bif (fb (jJ L) [vU] []).2 !=0 then _ else bif decide (cS (fb (jJ L) [vU] []).1>4096)then _ else((fb (jJ L) [vU] []).1,iF,(0:Int)))=_;rw[aaC J h2];show(bif decide ((L:Int)*1>4096)then _ else _)=_;rw[anX (by omega)];rfl
theorem abe{mem:an3 aJ}{vs:an3 ax}(hm:ji mem (bs [97])= .ok (mj vs)){k:Nat}{v:ax}(hk:vs[k]?=some v)(qX:vs.length<=60)(r:an3 aL):ff mem (⟨bs [105],Int64.ofInt (k:Int)⟩::r) qu= .ok (v,iF):=by
 have aI:k<vs.length:=(ane.1 hk).1;rw[PH (by decide)];show vF mem _ qu=_;unfold vF;rw[show qu.au=bs [97]from rfl,hm];dsimp only;have hp:mq mem (⟨bs [105],Int64.ofInt (k:Int)⟩::r) qu.xIdx (mj vs).aU 0= .ok (0*(vs.length:Int)+(k:Int)):=by
  show mq mem _ [⟨Fs,bs [],[]⟩] [(vs.length:Int)] 0=_;rw[mq];have hx:qN mem (⟨bs [105],Int64.ofInt (k:Int)⟩::r) ⟨Fs,bs [],[]⟩ (vs.length:Int)= .ok (Int64.ofInt (k:Int)):=by
   unfold qN;dsimp only;rw[anY,cond_true,abT];rfl
  rw[hx];dsimp only;rw[RL (by omega),anX (show ¬(k:Int)<0 by omega),anX (show ¬(k:Int)>=(vs.length:Int) by omega),Bool.or_self,cond_false,mq]
 rw[hp];show(bif ((1:Nat):Int) !=((1:Nat):Int)then _ else _)=_;rw[show(((1:Nat):Int) !=((1:Nat):Int))=false from rfl,cond_false];show(match vs[(0*(vs.length:Int)+(k:Int)).toNat]? with|some v=>Except.ok (v,iF)|none=>Except.error (1:Int))=_;rw[show(0*(vs.length:Int)+(k:Int)).toNat=k by omega,hk]
theorem abq{α:Type}(l:an3 α)(u:α):(l++[u])[(l++[u]).length-1]?=some u:=by
 rw[anf];simp
theorem Sy{f:an3 Int->Except Int (ax×aF)}{g:an3 Int->Except Int ax}{d e:bx}(hd:d.c9=1)(he:e.c9=5)(ht:d.aB=e.aB):∀(l:an3 (an3 Int))(acc:an3 ax)(w:ax),(∀q∈l,∃v t,f q= .ok (v,t)/\g q= .ok v/\we q>0)->acc[acc.length-1]?=some w->∀r,kF g e l acc= .ok r->
 ∃w',mh f d l (some w)= .ok w'/\r[r.length-1]?=some w'/\r[0]?=acc[0]?
 |[],acc,w,_,hw,r,h=>by cases h;exact⟨w,rfl,hw,rfl⟩
 |q::l,acc,w,hf,hw,r,h=>by
  obtain⟨v,t,f1,f2,f3⟩:=hf q ank;rw[kF,f2]at h;dsimp only at h;rw[he,anW f3,show((5:Int)==5&&true)=true from rfl,cond_true,hw]at h;dsimp only at h;rw[mh,f1];dsimp only;rw[hd,ht];cases hr:oY 1 e.aB w v with
  |error z=>rw[hr]at h;cases h
  |ok u=>
   rw[hr]at h;dsimp only at h ⊢;obtain⟨w',i1,i2,i3⟩:=Sy hd he ht l (acc++[u]) u (λq hq=>hf q (ann _ hq)) (abq acc u) r h;refine⟨w',i1,i2,?_⟩;rw[i3];have:0<acc.length:=by
     rcases Nat.eq_zero_or_pos acc.length with h0|h0
     ·rw[List.eq_nil_of_length_eq_zero h0]at hw;simp at hw
     ·exact h0
   exact ano this
theorem KY{L k:Nat}(h:k<L):jx [(L:Int)] (k:Int)=[(k:Int)]:=by
 unfold jx;rw[gK,gK];show[((k:Int)).tmod (L:Int)]=_;rw[Int.tmod_eq_emod_of_nonneg (by omega),Int.emod_eq_of_lt (by omega) (by omega)]
theorem UR{l:an3 Int}{q:an3 Int}:∀(m k:Nat),q∈iK l k m->∃i,k<=i/\i<k+m/\q=jx l (i:Int)
 |0,k,h=>by cases h
 |m+1,k,h=>by
  rw[ug]at h;rcases anJ.1 h with rfl|h
  ·exact⟨k,by omega,by omega,rfl⟩
  ·obtain⟨i,J,h2,h3⟩:=UR m (k+1) h;exact⟨i,by omega,by omega,h3⟩
theorem V9{N:Nat}{p:aV}{env:an3 aL}{d:bx}(H:Df N d){mem:an3 aJ}{rx:Int}{T:aR}(h:po p env mem d rx=(T,0)):∃vs,kF (o0 mem env d (fb env (d.bV.map (·.dH)) []).1) d (iK (eQ p env d.au).1 0 (cS (eQ p env d.au).1).toNat) []= .ok vs/\T=⟨d.aB,(eQ p env d.au).1,vs⟩:=by
 unfold po at h;cases J:((eQ p env d.au).2.2 !=0)with
 |true=>rw[J,cond_true]at h;have h:(eQ p env d.au).2.2=0:=congrArg Prod.snd h;rw[h]at J;cases J
 |false=>
  rw[J,cond_false]at h;cases h2:((fb env (d.bV.map (·.dH)) []).2 !=0)with
  |true=>rw[h2,cond_true]at h;have h:(fb env (d.bV.map (·.dH)) []).2=0:=congrArg Prod.snd h;rw[h]at h2;cases h2
  |false=>
   rw[h2,cond_false]at h;cases h3:decide (cS (eQ p env d.au).1*cS (fb env (d.bV.map (·.dH)) []).1>65536)with
   |true=>rw[h3,cond_true]at h;cases h
   |false=>
    rw[h3,cond_false]at h;cases h4:rx !=0 with
    |true=>rw[h4,cond_true]at h;have h:rx=0:=congrArg Prod.snd h;rw[h]at h4;cases h4
    |false=>
     rw[h4,cond_false]at h;cases hf:kF (o0 mem env d (fb env (d.bV.map (·.dH)) []).1) d (iK (eQ p env d.au).1 0 (cS (eQ p env d.au).1).toNat) []with
     |error z=>
      rw[hf]at h;have h:z=0:=congrArg Prod.snd h;subst h;exact absurd rfl (Q8 (λq z hz=>Qm (λq z hz=>acH _ _ (anp _) H.ev hz H.cond) _ _ _ hz) _ _ _ hf)
     |ok vs=>rw[hf]at h;exact⟨vs,rfl,(congrArg Prod.fst h).symm⟩
theorem VR{mem:an3 aJ}{vs:an3 ax}(hm:ji mem (bs [97])= .ok (mj vs))(qX:vs.length<=60){k:Nat}{v:ax}(hk:vs[k]?=some v):rE mem (kM (th my) []++jJ vs.length) my (jx [(vs.length:Int)] (k:Int))= .ok (v,iF):=by
 rw[KY (ane.1 hk).1];exact abe hm hk qX _
theorem Zl{mem:an3 aJ}{vs:an3 ax}(hm:ji mem (bs [97])= .ok (mj vs))(qX:vs.length<=60){k:Nat}{v:ax}(hk:vs[k]?=some v):o0 mem (jJ vs.length) m6 [] (jx [(vs.length:Int)] (k:Int))= .ok v:=by
 rw[KY (ane.1 hk).1];unfold o0 xf;show mh (rE mem (⟨bs [105],Int64.ofInt (k:Int)⟩::jJ vs.length) m6) m6 (iK [] 0 1) none=_;rw[ug];show mh _ m6 [jx [] 0] none=_;rw[mh];have:rE mem (⟨bs [105],Int64.ofInt (k:Int)⟩::jJ vs.length) m6 (jx [] 0)= .ok (v,iF):=abe hm hk qX _;rw[this];rfl
theorem abO{N:Nat}{vs:an3 ax}(J:1<=vs.length)(qX:vs.length<=60){m1 m2:an3 aJ}(iR:ji m1 (bs [97])= .ok (mj vs))(kx:ji m2 (bs [97])= .ok (mj vs)){r ws:an3 ax}
 (hs:kF (o0 m1 (jJ vs.length) my [(vs.length:Int)]) my (iK [] 0 1) []= .ok r)
 (ht:kF (o0 m2 (jJ vs.length) m6 []) m6 (iK [(vs.length:Int)] 0 vs.length) []= .ok ws):
 ∃v v0,r=[v]/\ws[ws.length-1]?=some v/\ws[0]?=some v0/\vs[0]?=some v0/\ws.length=vs.length:=by
 have hlen:=J0 _ _ _ _ _ ht;rw[UY,anq,anz]at hlen;obtain⟨n,hn⟩:∃n,vs.length=n+1:=⟨vs.length-1,by omega⟩;obtain⟨v0,oz⟩:∃v,vs[0]?=some v:=⟨_,ani (by omega)⟩;have f0:=VR iR qX oz;have g0:=Zl kx qX oz;have fu:∀q∈iK [(vs.length:Int)] 1 n,∃v t,rE m1 (kM (th my) []++jJ vs.length) my q= .ok (v,t)/\o0 m2 (jJ vs.length) m6 [] q= .ok v/\we q>0:=λq hq=>by
  obtain⟨i,i1,i2,rfl⟩:=UR n 1 hq;obtain⟨v,hv⟩:∃v,vs[i]?=some v:=⟨_,ani (by omega)⟩;refine⟨v,iF,VR iR qX hv,Zl kx qX hv,?_⟩;rw[KY (by omega)];show(i:Int)>0;omega
 have ep:iK [(vs.length:Int)] 0 vs.length=jx [(vs.length:Int)] ((0:Nat):Int)::iK [(vs.length:Int)] 1 n:=by
  have:=ug [(vs.length:Int)] 0 n;rw[<-hn]at this;exact this
 rw[ep,kF,g0]at ht;dsimp only at ht;have Ar:we (jx [(vs.length:Int)] ((0:Nat):Int))=0:=by rw[KY (by omega)];rfl
 rw[Ar,show(m6.c9==5&&decide ((0:Int)>0))=false from rfl,cond_false,List.nil_append]at ht;obtain⟨w',e1,e2,e3⟩:=Sy (d:=my) (e:=m6) rfl rfl rfl _ [v0] v0 fu rfl ws ht;have xF:xf m1 (kM (th my) []++jJ vs.length) my [(vs.length:Int)]= .ok w':=by
   unfold xf;show mh _ my (iK [(vs.length:Int)] 0 ((vs.length:Int)*1).toNat) none=_;rw[show((vs.length:Int)*1).toNat=vs.length by omega,ep,mh,f0];exact e1
 rw[ug,kF]at hs;have:o0 m1 (jJ vs.length) my [(vs.length:Int)] (jx [] ((0:Nat):Int))= .ok w':=xF;rw[this]at hs;have cv:Except.ok [w']=(Except.ok r:Except Int (an3 ax)):=hs;cases cv
 exact⟨w',v0,rfl,e2,e3.trans rfl,oz,hlen⟩
theorem aeD{l:an3 aJ}{s:an4}(h:l.map (·.au)=[s]):∃T,l=[⟨s,T⟩]:=by
 match l,h with
 |[a],h=>exact⟨a.dY,by cases a;simp at h;subst h;rfl⟩
theorem ab3{l:an3 aJ}{s t:an4}(h:l.map (·.au)=[s,t]):∃S T,l=[⟨s,S⟩,⟨t,T⟩]:=by
 match l,h with
 |[a,b],h=>exact⟨a.dY,b.dY,by cases a;cases b;simp at h;obtain⟨J,h2⟩:=h;subst J;subst h2;rfl⟩
theorem ace(N:Nat)(vs:an3 ax)(hN:9223372036854775808<N)(hs:∀d∈lH.aN,3*SizeOf.sizeOf d.bO<N):Ms N vs=some true:=by
 have L:=amE (N:=N) (by omega);unfold Ms;rw[L];by_cases J:vs.length<1
 ·rw[anW (show(vs.length:Int)<1 by omega)];rfl
 ·by_cases qX:vs.length>60
  ·rw[anX (show ¬(vs.length:Int)<1 by omega),anW (show(vs.length:Int)>60 by omega)];rfl
  ·have Sh:=ajE (N:=N) (by omega) λd hd=>by have:=hs d hd;omega
   have W:Lw N lH (jJ vs.length):=⟨hN,Sh,by show 1<=20;decide,hs⟩;have hi:vH (K6 vs):=λx hx=>by
    rcases List.mem_singleton.1 hx with rfl;exact⟨by show 1<=1000000;decide,by show vs.length<=_;omega⟩
   rw[anX (show ¬(vs.length:Int)<1 by omega),cond_false,anX (show ¬(vs.length:Int)>60 by omega),anc,cond_false,jr (by omega) (by omega),anY,cond_true];have fin (r:an3 aJ×Int) (hr:tE N lH (jJ vs.length) (K6 vs)=some r) {α:Type} (f:an3 aJ×Int->an5 α):Option.bind (tE N lH (jJ vs.length) (K6 vs)) f=f r:=by rw[hr];rfl
   rcases ajn W (K6 vs) hi with⟨z,z1,z2,_⟩|⟨m,all,R,r1,_⟩
   ·refine(fin _ z2 _).trans ?_;dsimp only;rw[bne_iff_ne.2 z1];rfl
   ·refine(fin _ r1 _).trans ?_;obtain⟨A,rfl⟩:=aeD (s:=bs [97]) R.mn;obtain⟨S,T,rfl⟩:=ab3 (s:=bs [115]) (t:=bs [116]) R.an;obtain⟨a1,a2,_⟩:=R.ins _ (List.mem_singleton.2 rfl);have a3:some (mj vs)=some A:=a1;cases a3
    have iR:ji ([⟨bs [97],mj vs⟩]++([⟨bs [115],S⟩,⟨bs [116],T⟩]:an3 aJ).take 0) (bs [97])= .ok (mj vs):=by
     unfold ji;show(bif kf (mj vs)then _ else _)=_;rw[a2];rfl
    have kx:ji ([⟨bs [97],mj vs⟩]++([⟨bs [115],S⟩,⟨bs [116],T⟩]:an3 aJ).take 1) (bs [97])= .ok (mj vs):=by
     unfold ji;show(bif kf (mj vs)then _ else _)=_;rw[a2];rfl
    have Y5 (i:Nat) (d:bx) (hd:lH.aN[i]?=some d):Df N d:=by
     have hm:=anr hd;exact Qy W.hN W.bd R.V hd (R.G i d hd) (W.sh.D d hm).body (W.size d hm)
    obtain⟨x1,_,k1⟩:=R.made 0 _ my rfl rfl;obtain⟨x2,_,k2⟩:=R.made 1 _ m6 rfl rfl;obtain⟨r,d1,d2⟩:=V9 (Y5 0 my rfl) k1;obtain⟨ws,d3,d4⟩:=V9 (Y5 1 m6 rfl) k2;have eS:(fb (jJ vs.length) (my.bV.map (·.dH)) []).1=[(vs.length:Int)]:=congrArg Prod.fst (aaC (L:=vs.length) (by omega) (by omega));have eT:(eQ lH (jJ vs.length) m6.au).1=[(vs.length:Int)]:=congrArg Prod.fst (aiw (L:=vs.length) (by omega) (by omega));rw[eS]at d1;rw[eT]at d3 d4;rw[show(cS [(vs.length:Int)]).toNat=vs.length by show((vs.length:Int)*1).toNat=_;omega]at d3;obtain⟨v,v0,q1,q2,q3,q4,q5⟩:=abO (N:=N) (by omega) (by omega) iR kx d1 d3;have d2:S=⟨iF,[],r⟩:=d2;have d4:T=⟨iF,[(vs.length:Int)],ws⟩:=d4;subst d2;subst d4;subst q1;have ho:aaR lH ([⟨bs [97],mj vs⟩]++[⟨bs [115],⟨iF,[],[v]⟩⟩,⟨bs [116],⟨iF,[(vs.length:Int)],ws⟩⟩])=[⟨bs [115],⟨iF,[],[v]⟩⟩,⟨bs [116],⟨iF,[(vs.length:Int)],ws⟩⟩]:=rfl;rw[ho];dsimp only;rw[show((0:Int) !=0)=false from rfl,cond_false,show((([⟨bs [115],⟨iF,[],[v]⟩⟩,⟨bs [116],⟨iF,[(vs.length:Int)],ws⟩⟩]:an3 aJ).length:Int) !=2)=false from rfl,cond_false,List.getElem?_cons_zero,anQ,List.getElem?_cons_zero,anc,anc,anc];dsimp only
    rw[show((([v]:an3 ax).length:Int) !=1)=false from rfl,cond_false,show((ws.length:Int)==0)=false by rw[beq_eq_false_iff_ne];omega,anc,cond_false,q5,anY,cond_true,q3,q4,anc,anc,anY,anY];have q2':ws[((vs.length:Int)-1).toNat]?=some v:=by rw[show((vs.length:Int)-1).toNat=ws.length-1 by omega];exact q2
    rw[Bool.and_self,Bool.and_self,cond_true,jr (by omega) (by omega),anW (show(0:Int)<=(vs.length:Int)-1 by omega),cond_true,q2',anc,anc];dsimp only;rw[List.getElem?_cons_zero,anc,anY,anY];rfl
theorem ajA(v:an3 ax)(_:v.length<=140737488355328/\∀a∈v,Hk a):fP Tryz.prog 4 [.d (.sl (dy v))] (·= .d (.v (.bool true))):=by
 refine ah5 true (ace (9223372036854775900+U2 lH) v (by omega) (λd hd=> ?_));have J:3*SizeOf.sizeOf d.bO+2<=U2 lH:=VK hd;omega
end Go.Proofs.YtpeecnpmcbnahaaGreatDoor
