/-
  Part 14 of the proof: EvJ, OpenT, EvSizesAbs.
-/
import Derived.Test.YtnnapanbbbcalaaGreatDoorPr13
namespace Go.Proofs.YtnnapanbbbcalaaGreatDoor
open Go.RowKit
set_option maxRecDepth 100000
set_option linter.unusedSimpArgs false
set_option linter.unusedVariables false
theorem adB{N:Nat}{p:aZ}(h:G4 p)(hs:∀d∈p.aU,SizeOf.sizeOf d.cP<N):Bd N p:=
 ⟨aky h.s (by decide),aky h.w (by decide),aky h.q (by decide),aky h.d (by decide),aky h.o (by decide),
  ⟨λx hx=>aky (h.P x hx).1 (by decide),λx hx y hy=>aky ((h.P x hx).2 y hy) (by decide)⟩,
  ⟨λd hd=>by have J:=(h.D d hd).ID;have h2:=(h.D d hd).red;omega,λd hd y hy=>aky ((h.D d hd).af9 y hy) (by decide)⟩,
  λc hc=>aky (h.W c hc) (by decide),λd hd=>⟨(h.D d hd).body.mM (by decide),hs d hd⟩⟩
def rj(v:Int64):Bool:=decide (1<=v.toInt)&&decide (v.toInt<=4096)
def IX(env:ak4 aX)(s:ak5):Bool:=match kV env s with
 |none=>false
 |some v=>rj v
def rb(c:gr)(env:ak4 aX):Bool×Int:=
 let q:=iY c.bO env
 bif q.2 !=0 then(false,q.2)else(bif q.1.toInt==0 then true else bif decide (q.1.toInt>0)then !c.BX else false,0)
def wB(env:ak4 aX):ak4 gr->Int
 |[]=>0
 |c::l=>bif (rb c env).2 !=0 then(rb c env).2 else bif (rb c env).1 then wB env l else 16
def yy(p:aZ)(env:ak4 aX):Int:=bif (env.length:Int) !=(p.bE.length:Int)then 15 else bif p.bE.all (IX env)then wB env p.dL else 15
theorem ZK(N:Nat)(hN:2147483648<N)(c:gr)(env:ak4 aX)(h:c.bO.xL.length<=4611686018427387904):FU N c env=some (rb c env):=by
 unfold FU rb;rw[RA N hN _ _ h,akf];dsimp only;cases (iY c.bO env).2 !=0 with
 |true=>rfl
 |false=>
  simp only[cond_false];cases (iY c.bO env).1.toInt==0 with
  |true=>rfl
  |false=>cases decide ((iY c.bO env).1.toInt>0)<;>rfl
theorem ago(N:Nat)(hN:2147483648<N)(c:gr)(env:ak4 aX)(h:c.bO.xL.length<=4611686018427387904):I7 N c env=some (rb c env):=by
 unfold I7 rb;rw[Si N hN _ _ h,akf];dsimp only;cases (iY c.bO env).2 !=0 with
 |true=>rfl
 |false=>
  simp only[cond_false];cases (iY c.bO env).1.toInt==0 with
  |true=>rfl
  |false=>cases decide ((iY c.bO env).1.toInt>0)<;>rfl
theorem RJ(N:Nat)(hN:2147483648<N)(env:ak4 aX):∀(l:ak4 gr)(k:Nat),(∀c∈l,c.bO.xL.length<=4611686018427387904)->FG N env l k=some (wB env l)/\Gl N env l k=some (wB env l)
 |[],k,_=>⟨rfl,rfl⟩
 |c::l,k,h=>by
  obtain⟨J,h2⟩:=RJ N hN env l (k+1) λx hx=>h x (akp _ hx);rw[FG,Gl,ZK N hN c env (h c akm),ago N hN c env (h c akm),akf,akf,J,h2,wB];cases (rb c env).2 !=0 with
  |true=>exact⟨rfl,rfl⟩
  |false=>cases (rb c env).1<;>exact⟨rfl,rfl⟩
theorem Vt(N:Nat)(s:ak5):∀(env:ak4 aX)(k:Nat),(kV env s=none->Ah N s env k=some (-1))/\(∀v,kV env s=some v->∃i b,Ah N s env k=some ((k+i:Nat):Int)/\env[i]?=some b/\b.dS=v)
 |[],k=>⟨λ_=>rfl,λv h=>by cases h⟩
 |b::r,k=>by
  obtain⟨J,h2⟩:=Vt N s r (k+1);unfold kV Ah KS;simp only[akf];cases hb:(bL b.aF==bL s)with
  |true=>exact⟨λh=>(by cases h),λv h=>by cases h;exact⟨0,b,rfl,rfl,rfl⟩⟩
  |false=>
   simp only[cond_false];refine⟨J,λv h=> ?_⟩;obtain⟨i,c,q1,q2,q3⟩:=h2 v h;exact⟨i+1,c,by rw[q1];congr 2;omega,q2,q3⟩
theorem Ru(N:Nat)(s:ak5):∀(env:ak4 aX)(k:Nat),HF N s env k=some (match kV env s with|none=>(0,false)|some v=>(v,true))
 |[],_=>rfl
 |b::r,k=>by
  rw[HF,kV];cases bL b.aF==bL s with
  |true=>rfl
  |false=>exact Ru N s r (k+1)
theorem Sw(v:Int64):(bif decide (v.toInt<1)then some true else some (decide (v.toInt>4096)))=some (!rj v):=by
 unfold rj;by_cases J:v.toInt<1
 ·rw[akX J,akY (show ¬1<=v.toInt by omega)];rfl
 ·rw[akY J,akX (show 1<=v.toInt by omega)];by_cases h2:v.toInt>4096
  ·rw[akX h2,akY (show ¬v.toInt<=4096 by omega)];rfl
  ·rw[akY h2,akX (show v.toInt<=4096 by omega)];rfl
theorem Lt(N:Nat)(hN:2147483648<N)(env:ak4 aX)(p:aZ)(hw:∀c∈p.dL,c.bO.xL.length<=4611686018427387904):∀(l:ak4 ak5)(k:Nat),E5 N env p l k=some (bif l.all (IX env)then wB env p.dL else 15)/\HK N env p l k=some (bif l.all (IX env)then wB env p.dL else 15)
 |[],k=>RJ N hN env p.dL 0 hw
 |s::l,k=>by
  obtain⟨J,h2⟩:=Lt N hN env p hw l (k+1);rw[E5,HK,J,h2,ak0];unfold NV Ku IX;rw[Ru N s env 0,akf];obtain⟨q1,q2⟩:=Vt N s env 0;cases he:kV env s with
  |none=>rw[q1 he];exact⟨rfl,rfl⟩
  |some v=>
   obtain⟨i,b,r1,r2,rfl⟩:=q2 v he;rw[r1];simp only[akf,akA];rw[akY (show ¬(i:Int)<0 by omega),akX (show(0:Int)<=(i:Int) by omega),akH,r2];simp only[akf,cond_true,cond_false];rw[Sw];cases rj b.dS<;>exact⟨rfl,rfl⟩
theorem Qr(N:Nat)(hN:2147483648<N)(env:ak4 aX)(p:aZ)(hw:∀c∈p.dL,c.bO.xL.length<=4611686018427387904):BY N p env=some (yy p env):=by
 unfold BY yy;rw[(Lt N hN env p hw p.bE 0).1];cases (env.length:Int) !=(p.bE.length:Int)<;>rfl
theorem Q1(N:Nat)(hN:2147483648<N)(env:ak4 aX)(p:aZ)(hw:∀c∈p.dL,c.bO.xL.length<=4611686018427387904):B4 N p env=some (yy p env):=by
 unfold B4 yy;rw[(Lt N hN env p hw p.bE 0).2];cases (env.length:Int) !=(p.bE.length:Int)<;>rfl
def lP(env:ak4 aX):ak4 bp->ak4 Int->ak4 Int×Int
 |[],acc=>(acc,0)
 |f::l,acc=>bif (iY f env).2 !=0 then([],(iY f env).2)else bif rj (iY f env).1 then lP env l (acc++[(iY f env).1.toInt])else([],15)
theorem My(N:Nat)(hN:2147483648<N)(env:ak4 aX):∀(l:ak4 bp)(k:Nat)(acc:ak4 Int),(∀x∈l,lL 1000000000 x)->acc.length+l.length<=1000000000->Eh N env l k acc=some (lP env l acc)/\Hz N env l k acc=some (lP env l acc)
 |[],k,acc,_,_=>⟨rfl,rfl⟩
 |f::l,k,acc,h,hl=>by
  simp only[akj]at hl;have hf:f.xL.length<=4611686018427387904:=aky (h f akm) (by decide);obtain⟨J,h2⟩:=My N hN env l (k+1) (acc++[(iY f env).1.toInt]) (λx hx=>h x (akp _ hx)) (by simp only[akh,akj,aks];omega);rw[Eh,Hz,RA N hN f env hf,Si N hN f env hf,akf,akf,Sw,akf,kF (by omega),cond_true];dsimp only;rw[J,h2,lP];cases (iY f env).2 !=0 with
  |true=>exact⟨rfl,rfl⟩
  |false=>cases rj (iY f env).1<;>exact⟨rfl,rfl⟩
theorem Mx(env:ak4 aX):∀(l:ak4 bp)(acc:ak4 Int),(∀x∈acc,1<=x/\x<=4096)->∀x∈(lP env l acc).1,1<=x/\x<=4096
 |[],acc,h=>h
 |f::l,acc,h=>by
  rw[lP];cases (iY f env).2 !=0 with
  |true=>exact λx hx=>by cases hx
  |false=>
   rw[cond_false];cases hr:rj (iY f env).1 with
   |false=>exact λx hx=>by cases hx
   |true=>
    rw[cond_true];refine Mx env l _ λx hx=> ?_;rcases akS.1 hx with hx|hx
    ·exact h x hx
    ·rw[List.mem_singleton]at hx;subst hx;unfold rj at hr;rw[aki,decide_eq_true_eq,decide_eq_true_eq]at hr;exact hr
def jn:ak4 Int->Int
 |[]=>1
 |x::l=>x*jn l
theorem JJ:∀{l:ak4 Int},(∀x∈l,1<=x/\x<=4096)->1<=jn l
 |[],_=>by decide
 |x::l,h=>by
  rw[jn];have J:=JJ λy hy=>h y (akp _ hy);have h2:=(h x akm).1;have:=Int.mul_le_mul h2 J (by decide) (by omega);omega
theorem XI(N:Nat)(lim:Int)(hl:lim<=65536):∀(l:ak4 Int)(k:Nat)(v:Int),(∀x∈l,1<=x/\x<=4096)->1<=v->v<=lim->AU N lim l k v=some (if v*jn l<=lim then v*jn l else lim+1)
 |[],k,v,_,J,h2=>by
  rw[AU,jn,Int.mul_one,if_pos h2]
 |x::l,k,v,h,J,h2=>by
  have hx:=h x akm;have hp:=JJ (l:=l) λy hy=>h y (akp _ hy);have iR:v*x<=65536*4096:=Int.mul_le_mul (by omega) hx.2 (by omega) (by omega);have nd:1*1<=v*x:=Int.mul_le_mul J hx.1 (by decide) (by omega);rw[AU,jn,oI (by omega) (by omega),<-Int.mul_assoc];by_cases hc:v*x>lim
  ·rw[akX hc,cond_true,oI (by omega) (by omega),if_neg];have:v*x*1<=v*x*jn l:=Int.mul_le_mul_of_nonneg_left hp (by omega);omega
  ·rw[akY hc,cond_false];dsimp only;exact XI N lim hl l (k+1) (v*x) (λy hy=>h y (akp _ hy)) (by omega) (by omega)
theorem Lr(N:Nat):∀(l:ak4 Int)(k:Nat)(v:Int),(∀x∈l,1<=x/\x<=4096)->1<=v->v<=65537->BK N l k v=some (if v*jn l<=65537 then v*jn l else 65537)
 |[],k,v,_,J,h2=>by
  rw[BK,jn,Int.mul_one,if_pos h2]
 |x::l,k,v,h,J,h2=>by
  have hx:=h x akm;have hp:=JJ (l:=l) λy hy=>h y (akp _ hy);have iR:v*x<=65537*4096:=Int.mul_le_mul (by omega) hx.2 (by omega) (by omega);have nd:1*1<=v*x:=Int.mul_le_mul J hx.1 (by decide) (by omega);rw[BK,jn,oI (by omega) (by omega),<-Int.mul_assoc];dsimp only;by_cases hc:65537<v*x
  ·rw[if_pos hc,Lr N l (k+1) 65537 (λy hy=>h y (akp _ hy)) (by decide) (by decide)];have e1:v*x*1<=v*x*jn l:=Int.mul_le_mul_of_nonneg_left hp (by omega);rw[if_neg (show ¬v*x*jn l<=65537 by omega)];split
   ·congr 1;omega
   ·rfl
  ·rw[if_neg hc];exact Lr N l (k+1) (v*x) (λy hy=>h y (akp _ hy)) (by omega) (by omega)
theorem ajX(N:Nat)(lim:Int)(J:1<=lim)(hl:lim<=65536)(l:ak4 Int)(h:∀x∈l,1<=x/\x<=4096):K7 N l lim=some (if jn l<=lim then jn l else lim+1):=by
 have:=XI N lim hl l 0 1 h (by decide) J
 rwa [Int.one_mul]at this
theorem ab8(N:Nat)(l:ak4 Int)(h:∀x∈l,1<=x/\x<=4096):Nr N l=some (if jn l<=65537 then jn l else 65537):=by
 have:=Lr N l 0 1 h (by decide) (by decide)
 rwa [Int.one_mul]at this
theorem ags(lim:Int)(J:1<=lim)(hl:lim<=65536)(n:Int):decide ((if n<=lim then n else lim+1)>lim)=decide (n>lim):=by
 by_cases h:n<=lim
 ·rw[if_pos h]
 ·rw[if_neg h,akX (show lim+1>lim by omega),akX (show n>lim by omega)]
theorem ajy(lim:Int)(hl:lim<=65536)(n:Int):decide ((if n<=65537 then n else 65537)>lim)=decide (n>lim):=by
 by_cases h:n<=65537
 ·rw[if_pos h]
 ·rw[if_neg h,akX (show(65537:Int)>lim by omega),akX (show n>lim by omega)]
theorem XC(N:Nat)(d:cv):∀(l:ak4 dJ)(k:Nat)(acc:ak4 bp),acc.length+l.length<=1000000000->CD N d l k acc=some (acc++l.map (·.ff),d.aJ,true)
 |[],_,acc,_=>by rw[CD,List.map_nil,akB]
 |a::l,k,acc,h=>by
  simp only[akj]at h;rw[CD,kF (by omega),cond_true];dsimp only;rw[XC N d l (k+1) _ (by simp only[akh,akj,aks];omega)];rw[akF,akx];rfl
def Ft(q:aV×ak4 bp×Bool):ak4 bp×aV×Bool:=(q.2.1,q.1,q.2.2)
theorem Vr(N:Nat)(s:ak5):∀(D:ak4 cv)(k:Nat),gS D->GM N s D k=some (Ft (eo [] D s))
 |[],_,_=>rfl
 |d::D,k,h=>by
  rw[GM,Vr N s D (k+1) ⟨λy hy=>h.len y (akp _ hy),λy hy=>h.nC y (akp _ hy)⟩];unfold eo;rw[List.find?_nil,List.find?_cons];unfold mP;cases bL d.aF==bL s with
  |true=>
   simp only[cond_true];rw[XC N d _ _ _ (by have:=h.len d akm;simp only[aks];omega),List.nil_append];rfl
  |false=>rfl
theorem Qu(N:Nat)(s:ak5)(p:aZ)(hD:gS p.aU):∀(l:ak4 eV)(k:Nat),BG N s p l k=some (Ft (eo l p.aU s))
 |[],k=>by rw[BG,Vr N s _ _ hD]
 |x::l,k=>by
  rw[BG,Qu N s p hD l];unfold eo;rw[List.find?_cons];cases bL x.aF==bL s<;>rfl
theorem aa4(N:Nat)(p:aZ)(s:ak5)(hD:gS p.aU):Kb N p s=some (Ft (eo p.bu p.aU s)):=Qu N s p hD p.bu 0
theorem PA{P:ak4 eV}{D:ak4 cv}(hP:mO P)(hD:gS D)(s:ak5):(eo P D s).2.1.length<=1000000000/\∀y∈(eo P D s).2.1,lL 1000000000 y:=by
 unfold eo;cases J:P.find? (λx=>bL x.aF==bL s)with
 |some x=>
  have:=List.mem_of_find?_eq_some J;exact⟨hP.len x this,hP.nC x this⟩
 |none=>
  dsimp only;cases h2:D.find? (mP s)with
  |some d=>
   have hd:=List.mem_of_find?_eq_some h2;refine⟨?_,λy hy=> ?_⟩
   ·have:=hD.len d hd;dsimp only;rw[akl];omega
   ·obtain⟨a,ha,rfl⟩:=List.mem_map.1 hy;exact hD.ID hd a ha
  |none=>exact⟨by simp,λy hy=>by cases hy⟩
def Dx(p:aZ)(env:ak4 aX)(s:ak5):ak4 Int×aV×Int:=
 let q:=eo p.bu p.aU s
 bif q.2.2 then
  (let x:=lP env q.2.1 []
   bif x.2 !=0 then([],q.1,x.2)else bif decide (jn x.1>4096)then([],q.1,15)else(x.1,q.1,0))
 else([],q.1,9)
theorem SP(env:ak4 aX):∀(l:ak4 bp)(acc:ak4 Int),((lP env l acc).2 !=0)=true->(lP env l acc).1=[]
 |[],acc,h=>by cases h
 |f::l,acc,h=>by
  rw[lP]at h ⊢;cases J:(iY f env).2 !=0 with
  |true=>rfl
  |false=>
   rw[J,cond_false]at h;rw[cond_false];cases h2:rj (iY f env).1 with
   |false=>rfl
   |true=>rw[h2,cond_true]at h;rw[cond_true];exact SP env l _ h
theorem Y7(N:Nat)(hN:2147483648<N)(p:aZ)(env:ak4 aX)(s:ak5)(hP:mO p.bu)(hD:gS p.aU):uU N p env s=some (Dx p env s):=by
 unfold uU Dx F5;rw[OC N p s hP hD,akf];obtain⟨J,h2⟩:=PA hP hD s;rw[(My N hN env (eo p.bu p.aU s).2.1 0 [] h2 (by simpa using J)).1];dsimp only;cases (eo p.bu p.aU s).2.2 with
 |false=>rfl
 |true=>
  simp only[cond_true,akf];cases hx:(lP env (eo p.bu p.aU s).2.1 []).2 !=0 with
  |true=>rfl
  |false=>
   rw[cond_false,cond_false,ajX N 4096 (by decide) (by decide) _ (Mx env _ [] λx hx=>by cases hx),akf,ags 4096 (by decide) (by decide)];cases decide (jn (lP env (eo p.bu p.aU s).2.1 []).1>4096)<;>rfl
theorem adI(N:Nat)(hN:2147483648<N)(p:aZ)(env:ak4 aX)(s:ak5)(hP:mO p.bu)(hD:gS p.aU):Jg N p env s=some ((Dx p env s).1,(Dx p env s).2.2):=by
 unfold Jg Dx Mg;rw[aa4 N p s hD,akf];obtain⟨J,h2⟩:=PA hP hD s;have e:=(My N hN env (eo p.bu p.aU s).2.1 0 [] h2 (by simpa using J)).2;unfold Ft;dsimp only;rw[e];cases (eo p.bu p.aU s).2.2 with
 |false=>rfl
 |true=>
  simp only[cond_true,akf];cases hx:(lP env (eo p.bu p.aU s).2.1 []).2 !=0 with
  |true=>
   rw[bne_iff_ne]at hx;rw[show((lP env (eo p.bu p.aU s).2.1 []).2==0)=false by rw[beq_eq_false_iff_ne];exact hx];simp only[cond_false,akf,cond_true];rw[SP env _ _ (bne_iff_ne.2 hx)]
  |false=>
   rw[bne_eq_false_iff_eq]at hx;rw[hx,ab8 N _ (Mx env _ [] λx hx=>by cases hx)];simp only[akZ,cond_true,cond_false,akf];rw[ajy 4096 (by decide)];cases decide (jn (lP env (eo p.bu p.aU s).2.1 []).1>4096)<;>rfl
theorem WC(N:Nat)(L:ak4 Int):Ee N L L=some true:=by
 have go:∀(l:ak4 Int)(k:Nat),L.drop k=l->FY N L l k=some true:=by
  intro l
  induction l with
  |nil=>intro k _;rfl
  |cons x l ih=>intro k h;rw[FY,akH,bm h,akf,bne_self_eq_false,cond_false];exact ih (k+1) (Fx h)
 unfold Ee;rw[aj1,cond_false];exact go L 0 rfl
theorem adp(N:Nat)(hN:2147483648<N)(p:aZ)(env:ak4 aX)(B:Bd N p)(hw:∀c∈p.dL,c.bO.xL.length<=4611686018427387904):∃x,Df N p env=some x/\Ib N p env=some x/\(x=0->yy p env=0/\∀i d,p.aU[i]?=some d->FI p i d):=by
 obtain⟨a,x,J,h2,h3⟩:=aie hN B;unfold Df Ib;rw[J,h2,Qr N hN env p hw,Q1 N hN env p hw,akf,akf];cases hx:(x !=0)with
 |true=>exact⟨x,rfl,rfl,λh=>by rw[h]at hx;cases hx⟩
 |false=>
  refine⟨yy p env,rfl,rfl,λh=>⟨h,h3 (by simpa using hx)⟩⟩
theorem air(N:Nat)(p:aZ)(env:ak4 aX)(s:ak5)(hN:9223372036854775808<N)(hd:∀d∈p.aU,jX pA d.cP/\SizeOf.sizeOf d.cP<N):LD N p env s=some true:=by
 unfold LD;obtain⟨b1,f1,f2⟩:=ahY N 400 (by decide) (by omega) p hd;have f1':BF N p 400=some b1:=f1;obtain⟨b2,g1,g2⟩:=aid N env 20;have L:=adJ (N:=N) (by omega);rw[f1',g1,L];simp only[akf];cases b1 with
 |true=>rfl
 |false=>
  cases b2 with
  |false=>rfl
  |true=>
   simp only[cond_false,cond_true,akf];cases decide ((s.size:Int)>100)with
   |true=>rfl
   |false=>
    have Sh:=f2 rfl;have B:=adB (N:=N) Sh λd h=>(hd d h).2;have hw:∀c∈p.dL,c.bO.xL.length<=4611686018427387904:=λc hc=>aky (Sh.W c hc) (by decide);obtain⟨x,q1,q2,q3⟩:=adp N (by omega) p env B hw;rw[cond_false,Qr N (by omega) env p hw,Q1 N (by omega) env p hw];unfold La Pa;rw[q1,q2,Y7 N (by omega) p env s B.P B.D,adI N (by omega) p env s B.P B.D];simp only[akf];cases (x !=0)with
    |true=>
     simp only[cond_true,akf];rw[akZ,cond_true,WC,akf,cond_true,akZ];rfl
    |false=>
     simp only[cond_false,akf];rw[akZ,cond_true,WC,akf,cond_true,akZ];rfl
def tp(k:IntKind)(n:Int):Prop:=k.min<=n/\n<=k.max
theorem CI{n:Int}(h:tp .i64 n):∃m:Int64,n=m.toInt:=by
 refine⟨Int64.ofInt n,?_⟩;have J:aK n=n:=by
  unfold aK;rw[IntKind.wrap_i64];have h2: -9223372036854775808<=n:=h.1;have h3:n<=9223372036854775807:=h.2;omega
 rw[Int64.toInt_ofInt,<-zf];exact J.symm
theorem PV{p:ak4 D}:∀{l:ak4 (ak4 D)},p∈l->SizeOf.sizeOf p<=SizeOf.sizeOf l.flatten
 |[],h=>by cases h
 |q::l,h=>by
  have app:∀a b:ak4 D,SizeOf.sizeOf a<=SizeOf.sizeOf (a++b)/\SizeOf.sizeOf b<=SizeOf.sizeOf (a++b):=by
   intro a b
   induction a with
   |nil=>cases b<;>simp only[List.nil_append,List.nil.sizeOf_spec,List.cons.sizeOf_spec]<;>omega
   |cons x a ih=>simp only[List.cons_append,List.cons.sizeOf_spec];omega
  rw[List.flatten_cons];rcases akK.1 h with rfl|h
  ·exact(app _ _).1
  ·exact aky (PV h) (app _ _).2
structure Su(x:aR):Prop where
 h0:True
 J:True
theorem ahK{xs:ak4 D}(h:eG Tryz.prog 45 xs):∃x:aR,xs=Ch x/\Su x:=by
 obtain⟨parts,rfl,hl,hx⟩:=h.nQ Tryz.underlying45
 match parts,hl with
 |[a0,a1],_=>
 obtain⟨jf,rfl,iK⟩:=(hx 0 _ _ rfl rfl).nD Tryz.underlying2;obtain⟨JT,rfl⟩:=CI iK;obtain⟨jJ,rfl,jg⟩:=(hx 1 _ _ rfl rfl).nD Tryz.underlying2;obtain⟨DN,rfl⟩:=CI jg;exact⟨⟨JT,DN⟩,rfl,⟨trivial,trivial⟩⟩
structure IW(x:aV):Prop where
 h0:tp .i64 x.cg
 J:tp .i64 x.cE
 h2:tp .i64 x.cB
 h3:tp .i64 x.cY
 h4:tp .i64 x.c8
theorem NM{xs:ak4 D}(h:eG Tryz.prog 34 xs):∃x:aV,xs=Jh x/\IW x:=by
 obtain⟨parts,rfl,hl,hx⟩:=h.nQ Tryz.underlying34
 match parts,hl with
 |[a0,a1,a2,a3,a4],_=>
 obtain⟨jf,rfl,iK⟩:=(hx 0 _ _ rfl rfl).nD Tryz.underlying3;obtain⟨jJ,rfl,jg⟩:=(hx 1 _ _ rfl rfl).nD Tryz.underlying3;obtain⟨oC,rfl,ot⟩:=(hx 2 _ _ rfl rfl).nD Tryz.underlying3;obtain⟨wy,rfl,vx⟩:=(hx 3 _ _ rfl rfl).nD Tryz.underlying3;obtain⟨ur,rfl,vO⟩:=(hx 4 _ _ rfl rfl).nD Tryz.underlying3;exact⟨⟨jf,jJ,oC,wy,ur⟩,rfl,⟨iK,jg,ot,vx,vO⟩⟩
structure DX(x:dK):Prop where
 h0:x.aF.size<=maxLen
 J:True
theorem ajr{xs:ak4 D}(h:eG Tryz.prog 78 xs):∃x:dK,xs=As x/\DX x:=by
 obtain⟨parts,rfl,hl,hx⟩:=h.nQ Tryz.underlying78
 match parts,hl with
 |[a0,a1],_=>
 obtain⟨jf,rfl,iK⟩:=(hx 0 _ _ rfl rfl).sF Tryz.underlying9;obtain⟨jJ,rfl,jg⟩:=(hx 1 _ _ rfl rfl).nD Tryz.underlying2;obtain⟨DN,rfl⟩:=CI jg;exact⟨⟨jf,DN⟩,rfl,⟨iK,trivial⟩⟩
theorem ahP{xs:ak4 D}(h:eG Tryz.prog 46 xs):∃l:ak4 dK,xs=[.sl (ga l)]/\(l.length<=140737488355328/\∀a∈l,DX a):=by
 obtain⟨l,rfl,hl,hs⟩:=h.pW Tryz.underlying46;obtain⟨r,rfl,hr⟩:=oP (f:=As) (Q:=λa=>DX a) l (λx hx=>ajr (hs x hx));exact⟨r,by rw[uD],by simpa using hl,hr⟩
structure qO(x:bp):Prop where
 h0:True
 J:x.xL.length<=140737488355328/\∀a∈x.xL,DX a
theorem CK{xs:ak4 D}(h:eG Tryz.prog 48 xs):∃x:bp,xs=Be x/\qO x:=by
 obtain⟨parts,rfl,hl,hx⟩:=h.nQ Tryz.underlying48
 match parts,hl with
 |[a0,a1],_=>
 obtain⟨jf,rfl,iK⟩:=(hx 0 _ _ rfl rfl).nD Tryz.underlying2;obtain⟨JT,rfl⟩:=CI iK;obtain⟨jJ,rfl,jg⟩:=ahP (hx 1 _ _ rfl rfl);exact⟨⟨JT,jJ⟩,rfl,⟨trivial,jg⟩⟩
theorem RC{xs:ak4 D}(h:eG Tryz.prog 81 xs):∃l:ak4 bp,xs=[.sl (eW l)]/\(l.length<=140737488355328/\∀a∈l,qO a):=by
 obtain⟨l,rfl,hl,hs⟩:=h.pW Tryz.underlying81;obtain⟨r,rfl,hr⟩:=oP (f:=Be) (Q:=λa=>qO a) l (λx hx=>CK (hs x hx));exact⟨r,by rw[wz],by simpa using hl,hr⟩
structure EE(x:dd):Prop where
 h0:qO x.bO
 J:x.dk.size<=maxLen
 h2:x.da.length<=140737488355328/\∀a∈x.da,qO a
theorem ai3{xs:ak4 D}(h:eG Tryz.prog 83 xs):∃x:dd,xs=Am x/\EE x:=by
 obtain⟨parts,rfl,hl,hx⟩:=h.nQ Tryz.underlying83
 match parts,hl with
 |[a0,a1,a2],_=>
 obtain⟨jf,rfl,iK⟩:=CK (hx 0 _ _ rfl rfl);obtain⟨jJ,rfl,jg⟩:=(hx 1 _ _ rfl rfl).sF Tryz.underlying9;obtain⟨oC,rfl,ot⟩:=RC (hx 2 _ _ rfl rfl);exact⟨⟨jf,jJ,oC⟩,rfl,⟨iK,jg,ot⟩⟩
theorem acm{xs:ak4 D}(h:eG Tryz.prog 49 xs):∃l:ak4 dd,xs=[.sl (eJ l)]/\(l.length<=140737488355328/\∀a∈l,EE a):=by
 obtain⟨l,rfl,hl,hs⟩:=h.pW Tryz.underlying49;obtain⟨r,rfl,hr⟩:=oP (f:=Am) (Q:=λa=>EE a) l (λx hx=>ai3 (hs x hx));exact⟨r,by rw[tQ],by simpa using hl,hr⟩
inductive uq:ay->Prop
 |mk (x:ay) (h0:tp .i64 x.aQ) (J:x.aF.size<=maxLen) (h2:Su x.dS) (h3:IW x.aJ) (h4:qO x.bO) (h5:x.xIdx.length<=140737488355328/\∀a∈x.xIdx,EE a) (h6:x.cl.length<=140737488355328) (g6:∀a∈x.cl,uq a):uq x
theorem U5:∀(n:Nat)(xs:ak4 D),SizeOf.sizeOf xs<n->eG Tryz.prog 52 xs->∃x:ay,xs=eK x/\uq x
 |0,_,h,_=>absurd h (akI _)
 |n+1,xs,hn,h=>by
  obtain⟨parts,rfl,hl,hx⟩:=h.nQ Tryz.underlying52
  match parts,hl with
  |[a0,a1,a2,a3,a4,a5,a6],_=>
  obtain⟨jf,rfl,iK⟩:=(hx 0 _ _ rfl rfl).nD Tryz.underlying3;obtain⟨jJ,rfl,jg⟩:=(hx 1 _ _ rfl rfl).sF Tryz.underlying9;obtain⟨oC,rfl,ot⟩:=ahK (hx 2 _ _ rfl rfl);obtain⟨wy,rfl,vx⟩:=NM (hx 3 _ _ rfl rfl);obtain⟨ur,rfl,vO⟩:=CK (hx 4 _ _ rfl rfl);obtain⟨L3,rfl,Ka⟩:=acm (hx 5 _ _ rfl rfl);obtain⟨l_,rfl,aeG,hs_⟩:=(hx 6 _ _ rfl rfl).pW Tryz.underlying50;obtain⟨r_,rfl,hr_⟩:=oP (f:=eK) (Q:=uq) l_ (λx hx=>U5 n x (by have J:=List.sizeOf_lt_of_mem hx;have h2:SizeOf.sizeOf [D.sl l_]<n+1:=Nat.lt_of_le_of_lt (PV (by simp)) hn;simp only[List.cons.sizeOf_spec,D.sl.sizeOf_spec,List.nil.sizeOf_spec]at h2;omega) (hs_ x hx));refine⟨⟨jf,jJ,oC,wy,ur,L3,r_⟩,?_, .mk _ iK jg ot vx vO Ka (by simpa using aeG) hr_⟩;show _=eK _;unfold eK;rw[ox];rfl
theorem aea{xs:ak4 D}(h:eG Tryz.prog 52 xs):∃x:ay,xs=eK x/\uq x:=U5 _ xs (ak2 _) h
theorem VT{xs:ak4 D}(h:eG Tryz.prog 22 xs):∃l:ak4 ak5,xs=[.sl (cW l)]/\(l.length<=140737488355328/\∀a∈l,a.size<=maxLen):=by
 obtain⟨l,rfl,hl,hs⟩:=h.pW Tryz.underlying22;obtain⟨r,rfl,hr⟩:=oP (f:=dStr) (Q:=λa=>a.size<=maxLen) l (λx hx=>by
  obtain⟨n_x,rfl,w_x⟩:=(hs x hx).sF Tryz.underlying9;exact⟨n_x,rfl,w_x⟩)
 exact⟨r,by rw[mn],by simpa using hl,hr⟩
structure G8(x:gr):Prop where
 h0:qO x.bO
 J:True
theorem ahX{xs:ak4 D}(h:eG Tryz.prog 88 xs):∃x:gr,xs=Dz x/\G8 x:=by
 obtain⟨parts,rfl,hl,hx⟩:=h.nQ Tryz.underlying88
 match parts,hl with
 |[a0,a1],_=>
 obtain⟨jf,rfl,iK⟩:=CK (hx 0 _ _ rfl rfl);obtain⟨jJ,rfl⟩:=(hx 1 _ _ rfl rfl).abq Tryz.underlying4;exact⟨⟨jf,jJ⟩,rfl,⟨iK,trivial⟩⟩
theorem afR{xs:ak4 D}(h:eG Tryz.prog 23 xs):∃l:ak4 gr,xs=[.sl (mz l)]/\(l.length<=140737488355328/\∀a∈l,G8 a):=by
 obtain⟨l,rfl,hl,hs⟩:=h.pW Tryz.underlying23;obtain⟨r,rfl,hr⟩:=oP (f:=Dz) (Q:=λa=>G8 a) l (λx hx=>ahX (hs x hx));exact⟨r,by rw[vV],by simpa using hl,hr⟩
structure Gj(x:eV):Prop where
 h0:x.aF.size<=maxLen
 J:IW x.aJ
 h2:x.bo.length<=140737488355328/\∀a∈x.bo,qO a
theorem YA{xs:ak4 D}(h:eG Tryz.prog 85 xs):∃x:eV,xs=Dc x/\Gj x:=by
 obtain⟨parts,rfl,hl,hx⟩:=h.nQ Tryz.underlying85
 match parts,hl with
 |[a0,a1,a2],_=>
 obtain⟨jf,rfl,iK⟩:=(hx 0 _ _ rfl rfl).sF Tryz.underlying9;obtain⟨jJ,rfl,jg⟩:=NM (hx 1 _ _ rfl rfl);obtain⟨oC,rfl,ot⟩:=RC (hx 2 _ _ rfl rfl);exact⟨⟨jf,jJ,oC⟩,rfl,⟨iK,jg,ot⟩⟩
theorem Y8{xs:ak4 D}(h:eG Tryz.prog 24 xs):∃l:ak4 eV,xs=[.sl (jW l)]/\(l.length<=140737488355328/\∀a∈l,Gj a):=by
 obtain⟨l,rfl,hl,hs⟩:=h.pW Tryz.underlying24;obtain⟨r,rfl,hr⟩:=oP (f:=Dc) (Q:=λa=>Gj a) l (λx hx=>YA (hs x hx));exact⟨r,by rw[uR],by simpa using hl,hr⟩
structure BB(x:dJ):Prop where
 h0:x.aF.size<=maxLen
 J:qO x.ff
theorem afB{xs:ak4 D}(h:eG Tryz.prog 80 xs):∃x:dJ,xs=BI x/\BB x:=by
 obtain⟨parts,rfl,hl,hx⟩:=h.nQ Tryz.underlying80
 match parts,hl with
 |[a0,a1],_=>
 obtain⟨jf,rfl,iK⟩:=(hx 0 _ _ rfl rfl).sF Tryz.underlying9;obtain⟨jJ,rfl,jg⟩:=CK (hx 1 _ _ rfl rfl);exact⟨⟨jf,jJ⟩,rfl,⟨iK,jg⟩⟩
theorem TH{xs:ak4 D}(h:eG Tryz.prog 43 xs):∃l:ak4 dJ,xs=[.sl (gx l)]/\(l.length<=140737488355328/\∀a∈l,BB a):=by
 obtain⟨l,rfl,hl,hs⟩:=h.pW Tryz.underlying43;obtain⟨r,rfl,hr⟩:=oP (f:=BI) (Q:=λa=>BB a) l (λx hx=>afB (hs x hx));exact⟨r,by rw[uI],by simpa using hl,hr⟩
structure Ga(x:cv):Prop where
 h0:x.aF.size<=maxLen
 J:IW x.aJ
 h2:x.bo.length<=140737488355328/\∀a∈x.bo,BB a
 h3:x.cO.length<=140737488355328/\∀a∈x.cO,BB a
 h4:tp .i64 x.eQ
 h5:uq x.cP
theorem YG{xs:ak4 D}(h:eG Tryz.prog 54 xs):∃x:cv,xs=C3 x/\Ga x:=by
 obtain⟨parts,rfl,hl,hx⟩:=h.nQ Tryz.underlying54
 match parts,hl with
 |[a0,a1,a2,a3,a4,a5],_=>
 obtain⟨jf,rfl,iK⟩:=(hx 0 _ _ rfl rfl).sF Tryz.underlying9;obtain⟨jJ,rfl,jg⟩:=NM (hx 1 _ _ rfl rfl);obtain⟨oC,rfl,ot⟩:=TH (hx 2 _ _ rfl rfl);obtain⟨wy,rfl,vx⟩:=TH (hx 3 _ _ rfl rfl);obtain⟨ur,rfl,vO⟩:=(hx 4 _ _ rfl rfl).nD Tryz.underlying3;obtain⟨L3,rfl,Ka⟩:=aea (hx 5 _ _ rfl rfl);exact⟨⟨jf,jJ,oC,wy,ur,L3⟩,rfl,⟨iK,jg,ot,vx,vO,Ka⟩⟩
theorem ZI{xs:ak4 D}(h:eG Tryz.prog 25 xs):∃l:ak4 cv,xs=[.sl (gD l)]/\(l.length<=140737488355328/\∀a∈l,Ga a):=by
 obtain⟨l,rfl,hl,hs⟩:=h.pW Tryz.underlying25;obtain⟨r,rfl,hr⟩:=oP (f:=C3) (Q:=λa=>Ga a) l (λx hx=>YG (hs x hx));exact⟨r,by rw[qG],by simpa using hl,hr⟩
structure Rv(x:aZ):Prop where
 h0:x.bE.length<=140737488355328/\∀a∈x.bE,a.size<=maxLen
 J:x.dL.length<=140737488355328/\∀a∈x.dL,G8 a
 h2:x.bu.length<=140737488355328/\∀a∈x.bu,Gj a
 h3:x.aU.length<=140737488355328/\∀a∈x.aU,Ga a
 h4:x.dU.length<=140737488355328/\∀a∈x.dU,a.size<=maxLen
theorem aab{xs:ak4 D}(h:eG Tryz.prog 27 xs):∃x:aZ,xs=Yp x/\Rv x:=by
 obtain⟨parts,rfl,hl,hx⟩:=h.nQ Tryz.underlying27
 match parts,hl with
 |[a0,a1,a2,a3,a4],_=>
 obtain⟨jf,rfl,iK⟩:=VT (hx 0 _ _ rfl rfl);obtain⟨jJ,rfl,jg⟩:=afR (hx 1 _ _ rfl rfl);obtain⟨oC,rfl,ot⟩:=Y8 (hx 2 _ _ rfl rfl);obtain⟨wy,rfl,vx⟩:=ZI (hx 3 _ _ rfl rfl);obtain⟨ur,rfl,vO⟩:=VT (hx 4 _ _ rfl rfl);exact⟨⟨jf,jJ,oC,wy,ur⟩,rfl,⟨iK,jg,ot,vx,vO⟩⟩
structure Fb(x:aX):Prop where
 h0:x.aF.size<=maxLen
 J:True
theorem aav{xs:ak4 D}(h:eG Tryz.prog 75 xs):∃x:aX,xs=BS x/\Fb x:=by
 obtain⟨parts,rfl,hl,hx⟩:=h.nQ Tryz.underlying75
 match parts,hl with
 |[a0,a1],_=>
 obtain⟨jf,rfl,iK⟩:=(hx 0 _ _ rfl rfl).sF Tryz.underlying9;obtain⟨jJ,rfl,jg⟩:=(hx 1 _ _ rfl rfl).nD Tryz.underlying2;obtain⟨DN,rfl⟩:=CI jg;exact⟨⟨jf,DN⟩,rfl,⟨iK,trivial⟩⟩
theorem aiV{xs:ak4 D}(h:eG Tryz.prog 28 xs):∃l:ak4 aX,xs=[.sl (aN l)]/\(l.length<=140737488355328/\∀a∈l,Fb a):=by
 obtain⟨l,rfl,hl,hs⟩:=h.pW Tryz.underlying28;obtain⟨r,rfl,hr⟩:=oP (f:=BS) (Q:=λa=>Fb a) l (λx hx=>aav (hs x hx));exact⟨r,by rw[tY],by simpa using hl,hr⟩
def afh:ak4 TypeId:=[2,3,4,9,22,23,24,25,27,28,29,34,35,36,38,43,45,46,48,49,50,52,54,56,75,78,80,81,83,85,88]
theorem TU:Jy Tryz.prog afh=true:=by kernel_rfl
theorem ag2{e:ay}(h:uq e):jX pA e:=by
 induction h with
 |mk x h0 J h2 h3 h4 h5 h6 g6 ih=>
  intro y hy;rcases akK.1 hy with rfl|hy
  ·exact⟨h4.J.1,h5.1,λz hz=>⟨(h5.2 z hz).h0.J.1,(h5.2 z hz).h2.1,λl hl=>((h5.2 z hz).h2.2 l hl).J.1⟩,h6⟩
  ·obtain⟨a,ha,hy⟩:=Fm hy;exact ih a ha y hy
noncomputable def Ke(d:cv):Nat:=3*SizeOf.sizeOf d.cP+2
theorem WK:∀{l:ak4 cv}{d:cv},d∈l->Ke d<=(l.map Ke).sum
 |x::l,d,h=>by
  rw[akF,List.sum_cons];rcases akK.1 h with rfl|h
  ·omega
  ·have:=WK h;omega
noncomputable def Uj(p:aZ):Nat:=(p.aU.map Ke).sum
theorem afN(p:aZ)(b:ak4 aX)(s:ak5)(h:Rv p)(_:b.length<=140737488355328/\∀a∈b,Fb a)(_:s.size<=maxLen):fX Tryz.prog 4 [c7 p, .d (.sl (aN b)),c6 s] (·= .d (.v (.bool true))):=by
 refine aaL true (air (9223372036854775900+Uj p) p b s (by omega) (λd hd=>⟨ag2 (h.h3.2 d hd).h5,?_⟩));have J:3*SizeOf.sizeOf d.cP+2<=Uj p:=WK hd;omega
end Go.Proofs.YtnnapanbbbcalaaGreatDoor
