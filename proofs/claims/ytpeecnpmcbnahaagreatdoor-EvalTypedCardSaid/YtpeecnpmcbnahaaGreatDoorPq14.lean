/-
  Part 14 of the proof: EvJ, EvK, EvL, EvM, CnB, EvQ, EvN, EvO, EvP, EvR, EvS, EvRl, EvT, SdA, SdB, SdV, EvU, EvW, EvX, OpenT, EvAbs, EvTypedAbs.
-/
import Derived.Test.YtpeecnpmcbnahaaGreatDoorPq13
namespace Go.Proofs.YtpeecnpmcbnahaaGreatDoor
open Go.RowKit
set_option maxRecDepth 100000
set_option linter.unusedSimpArgs false
set_option linter.unusedVariables false
theorem alV{N:Nat}{p:aV}(h:zY p)(hs:∀d∈p.aG,SizeOf.sizeOf d.bP<N):Bd N p:=
 ⟨aqj h.s (by decide),aqj h.w (by decide),aqj h.q (by decide),aqj h.d (by decide),aqj h.o (by decide),
  ⟨λx hx=>aqj (h.P x hx).1 (by decide),λx hx y hy=>aqj ((h.P x hx).2 y hy) (by decide)⟩,
  ⟨λd hd=>by have J:=(h.D d hd).Cj;have h2:=(h.D d hd).red;omega,λd hd y hy=>aqj ((h.D d hd).akR y hy) (by decide)⟩,
  λc hc=>aqj (h.W c hc) (by decide),λd hd=>⟨(h.D d hd).body.mV (by decide),hs d hd⟩⟩
def sF(v:Int64):Bool:=decide (1<=v.toInt)&&decide (v.toInt<=4096)
def LU(env:aqP aJ)(s:aqQ):Bool:=match lY env s with
 |none=>false
 |some v=>sF v
def tf(c:gC)(env:aqP aJ):Bool×Int:=
 let q:=de c.bo env
 bif q.2 !=0 then(false,q.2)else(bif q.1.toInt==0 then true else bif decide (q.1.toInt>0)then !c.G8 else false,0)
def yZ(env:aqP aJ):aqP gC->Int
 |[]=>0
 |c::l=>bif (tf c env).2 !=0 then(tf c env).2 else bif (tf c env).1 then yZ env l else 16
def Kf(p:aV)(env:aqP aJ):Int:=bif (env.length:Int) !=(p.bm.length:Int)then 15 else bif p.bm.all (LU env)then yZ env p.dM else 15
theorem anZ(N:Nat)(hN:2147483648<N)(c:gC)(env:aqP aJ)(h:c.bo.xL.length<=4611686018427387904):M8 N c env=some (tf c env):=by
 unfold M8 tf;rw[GR N hN _ _ h,ap0];dsimp only;cases (de c.bo env).2 !=0 with
 |true=>rfl
 |false=>
  simp only[cond_false];cases (de c.bo env).1.toInt==0 with
  |true=>rfl
  |false=>cases decide ((de c.bo env).1.toInt>0)<;>rfl
theorem aiQ(N:Nat)(hN:2147483648<N)(c:gC)(env:aqP aJ)(h:c.bo.xL.length<=4611686018427387904):R0 N c env=some (tf c env):=by
 unfold R0 tf;rw[alJ N hN _ _ h,ap0];dsimp only;cases (de c.bo env).2 !=0 with
 |true=>rfl
 |false=>
  simp only[cond_false];cases (de c.bo env).1.toInt==0 with
  |true=>rfl
  |false=>cases decide ((de c.bo env).1.toInt>0)<;>rfl
theorem ab2(N:Nat)(hN:2147483648<N)(env:aqP aJ):∀(l:aqP gC)(k:Nat),(∀c∈l,c.bo.xL.length<=4611686018427387904)->LV N env l k=some (yZ env l)/\Kz N env l k=some (yZ env l)
 |[],k,_=>⟨rfl,rfl⟩
 |c::l,k,h=>by
  obtain⟨J,h2⟩:=ab2 N hN env l (k+1) λx hx=>h x (aqa _ hx);rw[LV,Kz,anZ N hN c env (h c ap7),aiQ N hN c env (h c ap7),ap0,ap0,J,h2,yZ];cases (tf c env).2 !=0 with
  |true=>exact⟨rfl,rfl⟩
  |false=>cases (tf c env).1<;>exact⟨rfl,rfl⟩
theorem abG(N:Nat)(s:aqQ):∀(env:aqP aJ)(k:Nat),(lY env s=none->FL N s env k=some (-1))/\(∀v,lY env s=some v->∃i b,FL N s env k=some ((k+i:Nat):Int)/\env[i]?=some b/\b.dt=v)
 |[],k=>⟨λ_=>rfl,λv h=>by cases h⟩
 |b::r,k=>by
  obtain⟨J,h2⟩:=abG N s r (k+1);unfold lY FL SC;simp only[ap0];cases hb:(bL b.au==bL s)with
  |true=>exact⟨λh=>(by cases h),λv h=>by cases h;exact⟨0,b,rfl,rfl,rfl⟩⟩
  |false=>
   simp only[cond_false];refine⟨J,λv h=> ?_⟩;obtain⟨i,c,q1,q2,q3⟩:=h2 v h;exact⟨i+1,c,by rw[q1];congr 2;omega,q2,q3⟩
theorem Yi(N:Nat)(s:aqQ):∀(env:aqP aJ)(k:Nat),KM N s env k=some (match lY env s with|none=>(0,false)|some v=>(v,true))
 |[],_=>rfl
 |b::r,k=>by
  rw[KM,lY];cases bL b.au==bL s with
  |true=>rfl
  |false=>exact Yi N s r (k+1)
theorem acd(v:Int64):(bif decide (v.toInt<1)then some true else some (decide (v.toInt>4096)))=some (!sF v):=by
 unfold sF;by_cases J:v.toInt<1
 ·rw[aqI J,aqJ (show ¬1<=v.toInt by omega)];rfl
 ·rw[aqJ J,aqI (show 1<=v.toInt by omega)];by_cases h2:v.toInt>4096
  ·rw[aqI h2,aqJ (show ¬v.toInt<=4096 by omega)];rfl
  ·rw[aqJ h2,aqI (show v.toInt<=4096 by omega)];rfl
theorem Ve(N:Nat)(hN:2147483648<N)(env:aqP aJ)(p:aV)(hw:∀c∈p.dM,c.bo.xL.length<=4611686018427387904):∀(l:aqP aqQ)(k:Nat),LF N env p l k=some (bif l.all (LU env)then yZ env p.dM else 15)/\QU N env p l k=some (bif l.all (LU env)then yZ env p.dM else 15)
 |[],k=>ab2 N hN env p.dM 0 hw
 |s::l,k=>by
  obtain⟨J,h2⟩:=Ve N hN env p hw l (k+1);rw[LF,QU,J,h2,aqL];unfold Nz aae LU;rw[Yi N s env 0,ap0];obtain⟨q1,q2⟩:=abG N s env 0;cases he:lY env s with
  |none=>rw[q1 he];exact⟨rfl,rfl⟩
  |some v=>
   obtain⟨i,b,r1,r2,rfl⟩:=q2 v he;rw[r1];simp only[ap0,aql];rw[aqJ (show ¬(i:Int)<0 by omega),aqI (show(0:Int)<=(i:Int) by omega),aqs,r2];simp only[ap0,cond_true,cond_false];rw[acd];cases sF b.dt<;>exact⟨rfl,rfl⟩
theorem alW(N:Nat)(hN:2147483648<N)(env:aqP aJ)(p:aV)(hw:∀c∈p.dM,c.bo.xL.length<=4611686018427387904):Mo N p env=some (Kf p env):=by
 unfold Mo Kf;rw[(Ve N hN env p hw p.bm 0).1];cases (env.length:Int) !=(p.bm.length:Int)<;>rfl
def fP(env:aqP aJ):aqP bz->aqP Int->aqP Int×Int
 |[],acc=>(acc,0)
 |f::l,acc=>bif (de f env).2 !=0 then([],(de f env).2)else bif sF (de f env).1 then fP env l (acc++[(de f env).1.toInt])else([],15)
theorem PX(N:Nat)(hN:2147483648<N)(env:aqP aJ):∀(l:aqP bz)(k:Nat)(acc:aqP Int),(∀x∈l,mo 1000000000 x)->acc.length+l.length<=1000000000->HV N env l k acc=some (fP env l acc)
 |[],k,acc,_,_=>rfl
 |f::l,k,acc,h,hl=>by
  simp only[ap4]at hl;have hf:f.xL.length<=4611686018427387904:=aqj (h f ap7) (by decide);have J:=PX N hN env l (k+1) (acc++[(de f env).1.toInt]) (λx hx=>h x (aqa _ hx)) (by simp only[ap2,ap4,aqd];omega);rw[HV,GR N hN f env hf,ap0,acd,ap0,fJ (by omega),cond_true];dsimp only;rw[J,fP];cases (de f env).2 !=0 with
  |true=>rfl
  |false=>cases sF (de f env).1<;>rfl
theorem Cr(env:aqP aJ):∀(l:aqP bz)(acc:aqP Int),(∀x∈acc,1<=x/\x<=4096)->∀x∈(fP env l acc).1,1<=x/\x<=4096
 |[],acc,h=>h
 |f::l,acc,h=>by
  rw[fP];cases (de f env).2 !=0 with
  |true=>exact λx hx=>by cases hx
  |false=>
   rw[cond_false];cases hr:sF (de f env).1 with
   |false=>exact λx hx=>by cases hx
   |true=>
    rw[cond_true];refine Cr env l _ λx hx=> ?_;rcases aqD.1 hx with hx|hx
    ·exact h x hx
    ·rw[List.mem_singleton]at hx;subst hx;unfold sF at hr;rw[ap3,decide_eq_true_eq,decide_eq_true_eq]at hr;exact hr
def cX:aqP Int->Int
 |[]=>1
 |x::l=>x*cX l
theorem qx:∀{l:aqP Int},(∀x∈l,1<=x/\x<=4096)->1<=cX l
 |[],_=>by decide
 |x::l,h=>by
  rw[cX];have J:=qx λy hy=>h y (aqa _ hy);have h2:=(h x ap7).1;have:=Int.mul_le_mul h2 J (by decide) (by omega);omega
theorem WT(N:Nat)(lim:Int)(hl:lim<=65536):∀(l:aqP Int)(k:Nat)(v:Int),(∀x∈l,1<=x/\x<=4096)->1<=v->v<=lim->Eo N lim l k v=some (if v*cX l<=lim then v*cX l else lim+1)
 |[],k,v,_,J,h2=>by
  rw[Eo,cX,Int.mul_one,if_pos h2]
 |x::l,k,v,h,J,h2=>by
  have hx:=h x ap7;have hp:=qx (l:=l) λy hy=>h y (aqa _ hy);have iS:v*x<=65536*4096:=Int.mul_le_mul (by omega) hx.2 (by omega) (by omega);have lS:1*1<=v*x:=Int.mul_le_mul J hx.1 (by decide) (by omega);rw[Eo,cX,kC (by omega) (by omega),<-Int.mul_assoc];by_cases hc:v*x>lim
  ·rw[aqI hc,cond_true,kC (by omega) (by omega),if_neg];have:v*x*1<=v*x*cX l:=Int.mul_le_mul_of_nonneg_left hp (by omega);omega
  ·rw[aqJ hc,cond_false];dsimp only;exact WT N lim hl l (k+1) (v*x) (λy hy=>h y (aqa _ hy)) (by omega) (by omega)
theorem apK(N:Nat)(lim:Int)(J:1<=lim)(hl:lim<=65536)(l:aqP Int)(h:∀x∈l,1<=x/\x<=4096):Oa N l lim=some (if cX l<=lim then cX l else lim+1):=by
 have:=WT N lim hl l 0 1 h (by decide) J
 rwa [Int.one_mul]at this
theorem XZ(lim:Int)(J:1<=lim)(hl:lim<=65536)(n:Int):decide ((if n<=lim then n else lim+1)>lim)=decide (n>lim):=by
 by_cases h:n<=lim
 ·rw[if_pos h]
 ·rw[if_neg h,aqI (show lim+1>lim by omega),aqI (show n>lim by omega)]
theorem aiL{P:aqP eN}{D:aqP bB}(hP:lR P)(hD:gQ D)(s:aqQ):(dy P D s).2.1.length<=1000000000/\∀y∈(dy P D s).2.1,mo 1000000000 y:=by
 unfold dy;cases J:P.find? (λx=>bL x.au==bL s)with
 |some x=>
  have:=List.mem_of_find?_eq_some J;exact⟨hP.len x this,hP.kI x this⟩
 |none=>
  dsimp only;cases h2:D.find? (ik s)with
  |some d=>
   have hd:=List.mem_of_find?_eq_some h2;refine⟨?_,λy hy=> ?_⟩
   ·have:=hD.len d hd;dsimp only;rw[ap6];omega
   ·obtain⟨a,ha,rfl⟩:=List.mem_map.1 hy;exact hD.Cj hd a ha
  |none=>exact⟨by simp,λy hy=>by cases hy⟩
def eI(p:aV)(env:aqP aJ)(s:aqQ):aqP Int×aF×Int:=
 let q:=dy p.aX p.aG s
 bif q.2.2 then
  (let x:=fP env q.2.1 []
   bif x.2 !=0 then([],q.1,x.2)else bif decide (cX x.1>4096)then([],q.1,15)else(x.1,q.1,0))
 else([],q.1,9)
theorem MH(N:Nat)(hN:2147483648<N)(p:aV)(env:aqP aJ)(s:aqQ)(hP:lR p.aX)(hD:gQ p.aG):wq N p env s=some (eI p env s):=by
 unfold wq eI FF;rw[Of N p s hP hD,ap0];obtain⟨J,h2⟩:=aiL hP hD s;rw[PX N hN env (dy p.aX p.aG s).2.1 0 [] h2 (by simpa using J)];dsimp only;cases (dy p.aX p.aG s).2.2 with
 |false=>rfl
 |true=>
  simp only[cond_true,ap0];cases hx:(fP env (dy p.aX p.aG s).2.1 []).2 !=0 with
  |true=>rfl
  |false=>
   rw[cond_false,cond_false,apK N 4096 (by decide) (by decide) _ (Cr env _ [] λx hx=>by cases hx),ap0,XZ 4096 (by decide) (by decide)];cases decide (cX (fP env (dy p.aX p.aG s).2.1 []).1>4096)<;>rfl
theorem Zz(N:Nat)(L:aqP Int):tC N L L=some true:=by
 have go:∀(l:aqP Int)(k:Nat),L.drop k=l->vp N L l k=some true:=by
  intro l
  induction l with
  |nil=>intro k _;rfl
  |cons x l ih=>intro k h;rw[vp,aqs,bI h,ap0,bne_self_eq_false,cond_false];exact ih (k+1) (oV h)
 unfold tC;rw[adJ,cond_false];exact go L 0 rfl
def iv:aqP Int->Int->aqP Int×Int
 |[],n=>([],n)
 |x::l,n=>((iv l n).2.tmod x::(iv l n).1,(iv l n).2.tdiv x)
def pE(ext:aqP Int)(n:Int):aqP Int:=(iv ext n).1
theorem MT:∀(l:aqP Int)(n:Int),(iv l n).1.length=l.length
 |[],_=>rfl
 |x::l,n=>by rw[iv];simp only[ap4];rw[MT l n]
theorem ald(l:aqP Int)(n:Int):(pE l n).length=l.length:=MT l n
structure ql(l:List Int):Prop where
 r:∀x∈l,1<=x/\x<=4096
 n:l.length<=16
 p:cX l<=65536
theorem KT:∀{l:aqP Int}{n:Int},(∀x∈l,1<=x/\x<=4096)->0<=n->n<=65537->(0<=(iv l n).2/\(iv l n).2<=65537)/\∀x∈(iv l n).1,0<=x/\x<4096
 |[],n,_,J,h2=>⟨⟨J,h2⟩,λx hx=>by cases hx⟩
 |x::l,n,h,J,h2=>by
  obtain⟨⟨a1,a2⟩,a3⟩:=KT (l:=l) (λy hy=>h y (aqa _ hy)) J h2;have hx:=h x ap7;rw[iv];refine⟨⟨Int.tdiv_nonneg a1 (by omega),?_⟩,λy hy=> ?_⟩
  ·rw[Int.tdiv_eq_ediv_of_nonneg a1];exact Int.le_trans (Int.ediv_le_self _ a1) a2
  ·rcases aqv.1 hy with rfl|hy
   ·rw[Int.tmod_eq_emod_of_nonneg a1];have:=Int.emod_nonneg (iv l n).2 (show x≠0 by omega);have:=Int.emod_lt_of_pos (iv l n).2 (show 0<x by omega);omega
   ·exact a3 y hy
theorem afk{l:aqP Int}{n:Int}(h:∀x∈l,1<=x/\x<=4096)(J:0<=n)(h2:n<=65537):∀x∈pE l n,0<=x/\x<4096:=(KT h J h2).2
theorem T1{α:Type}{l:aqP α}{j:Nat}{x:α}(h:l[j]?=some x):l.drop j=x::l.drop (j+1):=by
 obtain⟨hj,rfl⟩:=ap1.1 h;exact List.drop_eq_getElem_cons hj
theorem aks{α:Type}(a b:α)(j:Nat)(l:aqP α):(List.replicate (j+1) a++l).set j b=List.replicate j a++(b::l):=by
 rw[List.replicate_succ',aqi,List.set_append_right _ _ (by simp)];simp
theorem af1{α:Type}(a:α)(j:Nat)(l:aqP α):(List.replicate (j+1) a++l)[j]?=some a:=by
 rw[aqb (by simp)];simp [List.getElem?_replicate]
theorem VT{z:Int}(J:0<=z)(h2:z<=65537):IntKind.i64.wrap z=z:=by
 rw[IntKind.wrap_i64];omega
theorem aa1(N:Nat)(ext:aqP Int)(n:Int)(h:∀x∈ext,1<=x/\x<=4096)(J:0<=n)(h2:n<=65537):∀(j f:Nat),j<=ext.length->j<f->j<=1000->
 AF N ext f (iv (ext.drop j) n).2 ((j:Int)-1) (List.replicate j 0++(iv (ext.drop j) n).1)=some (pE ext n,true)
 |0,f,hj,hf,_=>by
  obtain⟨f,rfl⟩:∃f',f=f'+1:=⟨f-1,by omega⟩;rw[AF,aqJ (by decide),cond_false,aqA,List.replicate_zero,List.nil_append,show Nat.beq (iv ext n).1.length ext.length=true by rw[MT];exact Nat.beq_refl _];rfl
 |j+1,f,hj,hf,hs=>by
  obtain⟨f,rfl⟩:∃f',f=f'+1:=⟨f-1,by omega⟩;obtain⟨x,hx⟩:∃x,ext[j]?=some x:=⟨_,ap5 (by omega)⟩;have hr:=h x (aqe hx);have hd:=T1 hx;have hq:=(KT (l:=ext.drop (j+1)) (n:=n) (λy hy=>h y (List.mem_of_mem_drop hy)) J h2).1;rw[AF,show((j+1:Nat):Int)-1=(j:Int) by omega,aqI (show(j:Int)>=0 by omega),cond_true,cond_true,aqs,hx,ap0,bne_iff_ne.2 (show x≠0 by omega),cond_true];have hb:(List.replicate (j+1) (0:Int)++(iv (ext.drop (j+1)) n).1).length=ext.length:=by
   rw[ap2,aqB,MT,List.length_drop];omega
  rw[hb,Nat.beq_refl,cond_true,aqI (show(j:Int)<(ext.length:Int) by omega),cond_true,af1,ap0,aks];have e1:IntKind.i64.wrap ((iv (ext.drop (j+1)) n).2.tdiv x)=(iv (ext.drop j) n).2:=by
    have e:=(KT (l:=ext.drop j) (n:=n) (λy hy=>h y (List.mem_of_mem_drop hy)) J h2).1;rw[hd,iv]at e ⊢;exact VT e.1 e.2
  have e2:(iv (ext.drop (j+1)) n).2.tmod x::(iv (ext.drop (j+1)) n).1=(iv (ext.drop j) n).1:=by rw[hd,iv]
  rw[e1,e2,kC (by omega) (by omega)];exact aa1 N ext n h J h2 j f (by omega) (by omega) (by omega)
theorem Ui(N:Nat)(ext:aqP Int):∀(l:aqP Int)(k:Nat),(∀x∈l,1<=x/\x<=4096)->JA N ext l k false=BP N false ext 0 1
 |[],k,_=>rfl
 |x::l,k,h=>by
  have hx:=h x ap7;rw[JA,aqJ (show ¬x<0 by omega),cond_false,cond_false,ap0];dsimp only;rw[show(x==0)=false by rw[beq_eq_false_iff_ne];omega];exact Ui N ext l (k+1) λy hy=>h y (aqa _ hy)
theorem Zp(N:Nat):∀(l:aqP Int)(k:Nat)(v:Int),(∀x∈l,1<=x/\x<=4096)->1<=v->v*cX l<=65536->BP N false l k v=some 0
 |[],k,v,_,_,_=>rfl
 |x::l,k,v,h,J,h2=>by
  have hx:=h x ap7;have hp:=qx (l:=l) λy hy=>h y (aqa _ hy);rw[cX,<-Int.mul_assoc]at h2;have lS:1*1<=v*x:=Int.mul_le_mul J hx.1 (by decide) (by omega);have iS:v*x*1<=v*x*cX l:=Int.mul_le_mul_of_nonneg_left hp (by omega);have kh:v*1<=v*x:=Int.mul_le_mul_of_nonneg_left hx.1 (by omega);have hd:x<=(65536:Int).tdiv v:=by
   rw[Int.tdiv_eq_ediv_of_nonneg (by decide)];refine(Int.le_ediv_iff_mul_le (by omega)).2 ?_;rw[Int.mul_comm];omega
  have mE:(65536:Int).tdiv v<=65536:=by
   rw[Int.tdiv_eq_ediv_of_nonneg (by decide)];exact Int.ediv_le_self _ (by decide)
  rw[BP,cond_false,bne_iff_ne.2 (show v≠0 by omega),cond_true,ap0,VT (by omega) (by omega),aqJ (show ¬x>(65536:Int).tdiv v by omega),cond_false,cond_false,kC (by omega) (by omega)];exact Zp N l (k+1) (v*x) (λy hy=>h y (aqa _ hy)) (by omega) h2
theorem UG(N:Nat):∀(l:aqP Int)(k:Nat)(v:Int),(∀x∈l,1<=x/\x<=4096)->1<=v->v*cX l<=65536->A8 N l k v=some (v*cX l)
 |[],k,v,_,_,_=>by rw[A8,cX,Int.mul_one]
 |x::l,k,v,h,J,h2=>by
  have hx:=h x ap7;have hp:=qx (l:=l) λy hy=>h y (aqa _ hy);rw[cX,<-Int.mul_assoc]at h2 ⊢;have lS:1*1<=v*x:=Int.mul_le_mul J hx.1 (by decide) (by omega);have iS:v*x*1<=v*x*cX l:=Int.mul_le_mul_of_nonneg_left hp (by omega);rw[A8,kC (by omega) (by omega)];exact UG N l (k+1) (v*x) (λy hy=>h y (aqa _ hy)) (by omega) h2
theorem adp(N:Nat)(ext:aqP Int):∀(l:aqP Int)(k:Nat),(∀x∈l,1<=x/\x<=4096)->Li N ext l k=A8 N ext 0 1
 |[],k,_=>rfl
 |x::l,k,h=>by
  have hx:=h x ap7;rw[Li,show(x==0)=false by rw[beq_eq_false_iff_ne];omega,cond_false];exact adp N ext l (k+1) λy hy=>h y (aqa _ hy)
theorem VV(N:Nat)(l:aqP Int)(h:ql l):Fg N l=some (cX l):=by
 have hn:=h.n;unfold Fg Tc;rw[aqJ (show ¬(l.length:Int)>16 by omega),cond_false,Ui N l l 0 h.r,Zp N l 0 1 h.r (by decide) (by rw[Int.one_mul];exact h.p),ap0,show((0:Int) !=0)=false from rfl,cond_false,adp N l l 0 h.r,UG N l 0 1 h.r (by decide) (by rw[Int.one_mul];exact h.p),Int.one_mul]
theorem amR(N:Nat)(hN:2147483648<N)(l:aqP Int)(h:ql l)(n:Int)(J:0<=n)(h2:n<cX l):E5 N l n=some (pE l n,true):=by
 have hn:=h.n;have hp:=h.p;unfold E5;rw[aqJ (show ¬n<0 by omega),cond_false,VV N l h,ap0,aqJ (show ¬n>=cX l by omega),ap0,cond_false,fJ (by omega),cond_true];have:=aa1 N l n h.r J (by omega) l.length N (aqc _) (by omega) (by omega);rw[List.drop_length,iv]at this;rw[kC (by omega) (by omega)]
 simpa using this
def mW(l:aqP Int)(k n:Nat):aqP (aqP Int):=(List.range' k n).map λ(i:Nat)=>pE l (i:Int)
theorem Hi(l:aqP Int)(k n:Nat):mW l k (n+1)=pE l (k:Int)::mW l (k+1) n:=by
 unfold mW;rw[List.range'_succ,aqq]
theorem ab5(N:Nat)(hN:2147483648<N)(l:aqP Int)(h:ql l):∀(n k:Nat),(k:Int)+n<=cX l->A9 N l n k=some (mW l k n)
 |0,k,_=>rfl
 |n+1,k,hk=>by
  rw[A9,amR N hN l h (k:Int) (by omega) (by omega),ap0,cond_true,ab5 N hN l h n (k+1) (by omega),ap0,Hi]
theorem Y9(N:Nat)(hN:2147483648<N)(l:aqP Int)(h:ql l):C6 N l=some (mW l 0 (cX l).toNat):=by
 have hp:=h.p;have h0:=qx h.r;unfold C6;rw[VV N l h,ap0,aqI (show(0:Int)<=cX l by omega),fJ (show(cX l).toNat<=9223372036854775807 by omega),Bool.and_self,cond_true];exact ab5 N hN l h _ 0 (by omega)
theorem Wc(N:Nat)(l:aqP Int)(h:ql l):Ar N l=some l:=by
 have hn:=h.n;unfold Ar;rw[fJ (by omega),cond_true]
def mK(names:aqP aqQ)(pt:aqP Int):aqP aJ:=List.zipWith (λs v=>(⟨s,Int64.ofInt v⟩:aJ)) names pt
theorem aml(names:aqP aqQ)(pt:aqP Int)(h:names.length=pt.length):(mK names pt).length=names.length:=by
 unfold mK;rw[List.length_zipWith];omega
theorem UZ(N:Nat)(env:aqP aJ)(pt:aqP Int)(hp:∀x∈pt,0<=x/\x<4096)(he:env.length<=1000000000):∀(l:aqP du)(k:Nat)(acc:aqP aJ),l.length+k=pt.length->acc.length+l.length<=1000000000->G4 N env pt l k acc=some (acc++mK (l.map (·.au)) (pt.drop k)++env)
 |[],k,acc,_,ha=>by
  rw[G4,fJ (by simp only[aqd]at ha;omega),cond_true];unfold mK;simp
 |x::l,k,acc,hl,ha=>by
  simp only[ap4]at hl ha;obtain⟨v,hv⟩:∃v,pt[k]?=some v:=⟨_,ap5 (by omega)⟩;have hr:=hp v (aqe hv);rw[G4,aqs,hv,ap0,kC (by omega) (by omega),aqK,cond_true,fJ (by omega),cond_true];dsimp only;rw[UZ N env pt hp he l (k+1) _ (by omega) (by simp only[ap2,ap4,aqd];omega),T1 hv];unfold mK;simp
theorem X2(N:Nat)(l:aqP du)(pt:aqP Int)(env:aqP aJ)(hl:l.length=pt.length)(J:l.length<=1000000)(hp:∀x∈pt,0<=x/\x<4096)(he:env.length<=1000000000):JQ N l pt env=some (mK (l.map (·.au)) pt++env):=by
 have:=UZ N env pt hp he l 0 [] (by omega) (by simp only[aqd];omega);rw[aqA,List.nil_append]at this;exact this
theorem YE:∀{ext:aqP Int}{n:Int}{e:Int},ext[ext.length-1]?=some e->(pE ext n)[ext.length-1]?=some (n.tmod e)
 |[],n,e,h=>by simp at h
 |[x],n,e,h=>by
  simp only[ap4,aqd,aql,Nat.sub_self,List.getElem?_cons_zero,Option.some.injEq]at h;subst h;rfl
 |x::y::l,n,e,h=>by
  have h':(y::l)[(y::l).length-1]?=some e:=by
   simp only[ap4,Nat.add_sub_cancel]at h ⊢
   rwa [aqC]at h
  have:=YE (n:=n) h';simp only[ap4,Nat.add_sub_cancel]at this ⊢;show(((iv (y::l) n).2.tmod x::(iv (y::l) n).1):aqP Int)[l.length+1]?=_;rw[aqC];exact this
abbrev Ub(l:aqP aqQ):Prop:=l.Pairwise λa b=>lt a b=true
theorem Xd(d:Array (aqP UInt8))(hs:∀i j,i<j->j<d.size->d[i]! <=d[j]!):∀m,m<=d.size->(Lib.compactUpTo d m).Pairwise (·<·)/\(∀x∈Lib.compactUpTo d m,∃j,j<m/\d[j]! =x)/\∀j,j<m->d[j]! ∈Lib.compactUpTo d m
 |0,_=>by
  have e0:Lib.compactUpTo d 0=[]:=rfl;rw[e0];exact⟨List.Pairwise.nil,(λx hx=>by cases hx),(λj hj=>by omega)⟩
 |m+1,hm=>by
  obtain⟨J,h2,h3⟩:=Xd d hs m (by omega);rw[Lib.compactUpTo_succ];cases hk:Lib.keeps d m with
  |true=>
   rw[if_pos rfl];refine⟨List.pairwise_append.2 ⟨J,List.pairwise_singleton _ _,λx hx y hy=> ?_⟩,λx hx=> ?_,λj hj=> ?_⟩
   ·rw[List.mem_singleton]at hy;subst hy;obtain⟨j,hj,rfl⟩:=h2 x hx;refine Classical.byContradiction λaN=> ?_;have hle:d[m]! <=d[j]! :=List.not_lt.mp aN;have e1:d[j]! <=d[m-1]! :=by
      by_cases e:j=m-1
      ·rw[e];exact List.le_refl _
      ·exact hs j (m-1) (by omega) (by omega)
    have e2:d[m-1]! <=d[m]! :=hs (m-1) m (by omega) (by omega);have e3:d[m]! =d[m-1]! :=List.le_antisymm (List.le_trans hle e1) e2;unfold Lib.keeps at hk;rw[decide_eq_true_eq]at hk;rcases hk with hk|hk
    ·omega
    ·exact hk e3
   ·rcases aqD.1 hx with hx|hx
    ·obtain⟨j,hj,e⟩:=h2 x hx;exact⟨j,by omega,e⟩
    ·rw[List.mem_singleton]at hx;exact⟨m,by omega,hx.symm⟩
   ·by_cases e:j=m
    ·subst e;exact List.mem_append_right _ (List.mem_singleton.2 rfl)
    ·exact List.mem_append_left _ (h3 j (by omega))
  |false=>
   rw[if_neg (by simp),aqm];refine⟨J,λx hx=> ?_,λj hj=> ?_⟩
   ·obtain⟨j,hj,e⟩:=h2 x hx;exact⟨j,by omega,e⟩
   ·by_cases e:j=m
    ·subst e;unfold Lib.keeps at hk;rw[decide_eq_false_iff_not]at hk;have h0:j≠0:=λh=>hk (.inl h);have he:d[j]! =d[j-1]! :=Classical.byContradiction λh=>hk (.inr h);rw[he];exact h3 (j-1) (by omega)
    ·exact h3 j (by omega)
theorem apt(ss:aqP aqQ):(iI ss).Pairwise λx y=>x<=y:=by
 have:=List.pairwise_mergeSort (le:=λx y:aqP UInt8=>decide (x<=y)) (λa b c J h2=>by rw[decide_eq_true_eq]at*;exact List.le_trans J h2) (λa b=>by rw[Bool.or_eq_true,decide_eq_true_eq,decide_eq_true_eq];exact List.le_total a b) (ss.map bL);exact this.imp λh=>by rwa [decide_eq_true_eq]at h
theorem ane(ss:aqP aqQ):Ub (je ss)/\∀s,s∈je ss↔s∈ss:=by
 have hz:=apt ss;obtain⟨J,h2,h3⟩:=Xd (iI ss).toArray (λi j oW hj=>by
  have iM:j<(iI ss).length:=by simpa using hj
  have:=List.pairwise_iff_getElem.1 hz i j (by omega) iM oW;rw[getElem!_pos _ i (by simp;omega),getElem!_pos _ j hj]
  simpa using this) (iI ss).length (by simp)
 have mem:∀x,x∈Lib.compact (iI ss)↔x∈iI ss:=λx=>by
  constructor
  ·intro hx;obtain⟨j,hj,rfl⟩:=h2 x hx;rw[getElem!_pos _ j (by simpa using hj)];simp
  ·intro hx;obtain⟨j,hj,rfl⟩:=List.mem_iff_getElem.1 hx;have:=h3 j hj;rw[getElem!_pos _ j (by simpa using hj)]at this;unfold Lib.compact
   simpa using this
 unfold je;constructor
 ·rw[Ub,List.pairwise_map];refine List.Pairwise.imp ?_ J;intro a b hab;rw[apL];exact hab
 ·intro s;rw[List.mem_map];constructor
  ·rintro⟨x,hx,rfl⟩;rw[mem]at hx;unfold iI at hx;rw[List.mem_mergeSort,List.mem_map]at hx;obtain⟨y,hy,rfl⟩:=hx;exact hy
  ·intro hs;refine⟨bL s,(mem _).2 ?_,rfl⟩;unfold iI;rw[List.mem_mergeSort,List.mem_map];exact⟨s,hs,rfl⟩
def py:aqP cO->aqP aqQ
 |[]=>[]
 |x::l=>bif bL x.cU==bL (bs [])then py l else x.cU::py l
def HZ(e:aw):aqP aqQ:=(bif e.az==3 then[e.au]else[])++py e.xIdx
def pn:aqP aw->aqP aqQ
 |[]=>[]
 |e::l=>HZ e++pn l
theorem XQ:∀l:aqP cO,(py l).length<=l.length
 |[]=>aqc _
 |x::l=>by
  have:=XQ l;rw[py];cases bL x.cU==bL (bs [])with
  |true=>simp only[cond_true,ap4];omega
  |false=>simp only[cond_false,ap4];omega
theorem UL(B:Nat):∀l:aqP aw,(∀x∈l,x.xIdx.length<=B)->(pn l).length<=l.length*(B+1)
 |[],_=>by simp [pn]
 |e::l,h=>by
  have J:=UL B l λx hx=>h x (aqa _ hx);have h2:=h e ap7;have h3:=XQ e.xIdx;rw[pn];unfold HZ;simp only[ap2,ap4,Nat.succ_mul];have h4:(bif e.az==3 then[e.au]else[]).length<=1:=by cases e.az==3<;>simp
  omega
theorem JG(N:Nat)(c:Nat->aqP aqQ->aqR (aqP aqQ)):∀(l:aqP cO)(k:Nat)(acc:aqP aqQ),acc.length+(py l).length<=1000000000->tZ N c l k acc.length acc=c (acc++py l).length (acc++py l)
 |[],k,acc,_=>by rw[tZ,py,aqm]
 |x::l,k,acc,h=>by
  rw[tZ];rw[py]at h ⊢;cases hb:(bL x.cU==bL (bs []))with
  |true=>
   rw[hb,cond_true]at h;rw[cond_true,cond_true];exact JG N c l (k+1) acc h
  |false=>
   rw[hb,cond_false,ap4]at h;rw[cond_false,cond_false,Nat.beq_refl,cond_true,fJ (by omega),cond_true];have:=JG N c l (k+1) (acc++[x.cU]) (by simp only[ap2,ap4,aqd];omega);rw[show acc++x.cU::py l=(acc++[x.cU])++py l by simp,<-this,ap2];rfl
theorem Qp(N:Nat):∀(l:aqP aw)(acc:aqP aqQ),acc.length+(pn l).length<=1000000000->oa N l acc.length acc=some (je (acc++pn l))
 |[],acc,h=>by
  rw[oa,pn,aqm];unfold RA;rw[Nat.beq_refl,show Nat.blt acc.length 4611686018427387904=true from Nat.ble_eq_true_of_le (by omega)];rfl
 |e::l,acc,h=>by
  rw[oa];rw[pn]at h ⊢;unfold HZ at h ⊢;simp only[ap2]at h;cases hb:(e.az==3)with
  |true=>
   rw[hb]at h;simp only[cond_true,ap4,aqd]at h;rw[cond_true,cond_true,Nat.beq_refl,cond_true,fJ (by omega),cond_true];unfold zq;have q:=JG N (λcl fx=>oa N l cl fx) e.xIdx 0 (acc++[e.au]) (by simp only[ap2,ap4,aqd];omega);rw[show(acc++[e.au]).length=acc.length+1 by simp]at q;rw[q,Qp N l _ (by simp only[ap2,ap4,aqd];omega)];simp
  |false=>
   rw[hb]at h;simp only[cond_false,aqd]at h;rw[cond_false,cond_false];unfold zq;have q:=JG N (λcl fx=>oa N l cl fx) e.xIdx 0 acc (by omega);rw[q,Qp N l _ (by simp only[ap2];omega)];simp
theorem aiV{e:aw}(h:mu e=0):(dF e).length<=2000:=by
 unfold mu at h;cases J:decide (40<jy 40 e)with
 |true=>rw[J]at h;cases h
 |false=>
  rw[J,cond_false]at h;cases h2:decide (2000<(dF e).length)with
  |true=>rw[h2]at h;cases h
  |false=>rw[decide_eq_false_iff_not]at h2;omega
noncomputable def uu(e:aw):aqP aqQ:=je (pn (dF e))
theorem amH(N:Nat)(e:aw)(hv:mu e=0)(hl:hO 400 e):C3 N e=some (uu e):=by
 have hc:=aiV hv;have hb:=UL 400 (dF e) λx hx=>(hl x hx).idx;have fE:(pn (dF e)).length<=1000000:=by
  have:(dF e).length*(400+1)<=2000*401:=Nat.mul_le_mul hc (aqc _);omega
 unfold C3 zJ;rw[ap0];have:=Qp N (dF e) [] (by simp only[aqd];omega);rw[List.nil_append]at this;exact this
def sQ(f:Int):Int:=bif f==1||f==5 then 4 else bif f==2 then 6 else bif f==3 then 9 else 10
def mL(f:Int)(t:aF)(a b:aA):Except Int aA:=
 bif decide (1<=f)&&decide (f<=5)then
  (bif cJ t a&&cJ t b then(bif (kD (sQ f) t a b).2 !=0 then .error (kD (sQ f) t a b).2 else .ok (kD (sQ f) t a b).1)else .error 1)
 else .error 1
def AgD(r:Except Int aA)(q:aA×Int):Prop:=match r with
 | .ok x=>q=(x,0)
 | .error z=>q.2=z/\z≠0
theorem ajP(N:Nat)(f:Int):Lr N f=some (bif decide (1<=f)&&decide (f<=5)then(sQ f,true)else(0,false)):=by
 unfold Lr It sQ;by_cases h:1<=f/\f<=5
 ·rw[aqI h.1,aqI h.2];have:f=1\/f=2\/f=3\/f=4\/f=5:=by omega
  rcases this with h|h|h|h|h<;>rw[h]<;>rfl
 ·have e:(decide (1<=f)&&decide (f<=5))=false:=by
   by_cases J:1<=f
   ·rw[aqJ (show ¬f<=5 by omega),Bool.and_false]
   ·rw[aqJ J];rfl
  rw[e,show(f==1)=false by rw[beq_eq_false_iff_ne];omega,show(f==2)=false by rw[beq_eq_false_iff_ne];omega,show(f==3)=false by rw[beq_eq_false_iff_ne];omega,show(f==4)=false by rw[beq_eq_false_iff_ne];omega,show(f==5)=false by rw[beq_eq_false_iff_ne];omega];rfl
theorem VW(N:Nat)(hN:9223372036854775808<N)(f:Int)(t:aF)(a b:aA)(ht:cZ t=true):∃q,FM N f t [a,b]=some q/\AgD (mL f t a b) q:=by
 unfold FM mL;rw[ajP,ap0];cases hf:(decide (1<=f)&&decide (f<=5))with
 |false=>exact⟨_,rfl,rfl,by decide⟩
 |true=>
  rw[cond_true,cond_true,cond_true,qk,ap0,ht,cond_true];show ∃q,Option.bind (m7 N t a) _=some q/\_;rw[qK N (by omega) t a ht,ap0];cases J:cJ t a with
  |false=>exact⟨_,rfl,rfl,by decide⟩
  |true=>
   rw[cond_true];show ∃q,Option.bind (m7 N t b) _=some q/\_;rw[qK N (by omega) t b ht,ap0];cases h2:cJ t b with
   |false=>exact⟨_,rfl,rfl,by decide⟩
   |true=>
    rw[cond_true];show ∃q,Option.bind (xF N (sQ f) t a b) _=some q/\_;rw[PL N hN,ap0];cases h3:((kD (sQ f) t a b).2 !=0)with
    |true=>exact⟨_,rfl,rfl,by simpa using h3⟩
    |false=>exact⟨_,rfl,rfl⟩
theorem aaS(N:Nat)(v:aqP Int):∀(l:aqP Int)(k:Nat),Mn N v l k=vp N v l k
 |[],_=>rfl
 |x::l,k=>by rw[Mn,vp,aaS N v l (k+1)]
theorem apd(N:Nat)(a b:aqP Int):Ll N a b=tC N a b:=by
 unfold Ll tC;rw[aaS]
theorem ab8(N:Nat)(v:aqP Int):∀(l:aqP Int)(k:Nat),l.length+k<=v.length->∃b,vp N v l k=some b
 |[],_,_=>⟨_,rfl⟩
 |x::l,k,h=>by
  simp only[ap4]at h;rw[vp,aqs,ap5 (show k<v.length by omega),ap0];cases x !=v[k]with
  |true=>exact⟨_,rfl⟩
  |false=>exact ab8 N v l (k+1) (by omega)
theorem ahS(N:Nat)(a b:aqP Int):∃q,tC N a b=some q:=by
 unfold tC;cases h:((a.length:Int) !=(b.length:Int))with
 |true=>exact⟨_,rfl⟩
 |false=>
  rw[bne_eq_false_iff_eq]at h;exact ab8 N b a 0 (by omega)
theorem adA(N:Nat)(hN:2147483648<N)(mem:aqP aI)(s:aqQ)(t:aF)(d:aqP Int):∃x,Gw N mem s t d=some x/\(x=0->∃y,eO mem s=some y/\jL y=true/\y.ax=t):=by
 unfold Gw;rw[ND,ap0];cases hf:eO mem s with
 |none=>exact⟨9,rfl,λh=>by cases h⟩
 |some y=>
  simp only[cond_true];obtain⟨e1,J,h2⟩:=YU N hN y;rw[J,ap0,h2];cases ht:jL y with
  |false=>exact⟨1,rfl,λh=>by cases h⟩
  |true=>
   simp only[Bool.not_true,cond_false];show ∃x,(bif iH y.ax t then _ else _)=some x/\_;cases nM:iH y.ax t with
   |false=>exact⟨10,rfl,λh=>by cases h⟩
   |true=>
    obtain⟨b,hb⟩:=ahS N y.aS d;rw[apd,hb];cases b with
    |true=>exact⟨0,rfl,λ_=>⟨y,rfl,ht,Dr.1 nM⟩⟩
    |false=>exact⟨15,rfl,λh=>by cases h⟩
theorem amk(p:aV)(env:aqP aJ)(s:aqQ):(eI p env s).2.1=(dy p.aX p.aG s).1:=by
 unfold eI;dsimp only;cases (dy p.aX p.aG s).2.2 with
 |false=>rfl
 |true=>
  rw[cond_true];cases (fP env (dy p.aX p.aG s).2.1 []).2 !=0 with
  |true=>rfl
  |false=>cases decide (cX (fP env (dy p.aX p.aG s).2.1 []).1>4096)<;>rfl
def xO(p:aV)(mem:aqP aI)(s:aqQ):Prop:=∃y,eO mem s=some y/\jL y=true/\y.ax=(dy p.aX p.aG s).1
theorem ach(N:Nat)(hN:2147483648<N)(p:aV)(env:aqP aJ)(mem:aqP aI)(hP:lR p.aX)(hD:gQ p.aG):∀(l:aqP aqQ)(k:Nat),∃x,H8 N p env mem l k=some x/\(x=0->∀s∈l,xO p mem s)
 |[],k=>⟨0,rfl,λ_ s hs=>by cases hs⟩
 |s::l,k=>by
  rw[H8,MH N hN p env s hP hD,ap0];cases J:((eI p env s).2.2 !=0)with
  |true=>exact⟨_,rfl,λh=>by have h':(eI p env s).2.2=0:=h;rw[h']at J;cases J⟩
  |false=>
   rw[cond_false];obtain⟨x,q1,q3⟩:=adA N hN mem s (eI p env s).2.1 (eI p env s).1;rw[q1,ap0];cases hx:x !=0 with
   |true=>exact⟨x,rfl,λh=>by rw[h]at hx;cases hx⟩
   |false=>
    obtain⟨z,z1,z3⟩:=ach N hN p env mem hP hD l (k+1);refine⟨z,z1,λh u hu=> ?_⟩;rcases aqv.1 hu with rfl|hu
    ·have:=q3 (by simpa using hx)
     rwa [amk]at this
    ·exact z3 h u hu
theorem akw(N:Nat)(hN:2147483648<N)(p:aV)(env:aqP aJ)(mem:aqP aI)(hP:lR p.aX)(hD:gQ p.aG)(d:bB)(hv:mu d.bP=0)(hl:hO 400 d.bP):∃x,Im N p env mem d.bP=some x/\(x=0->∀s∈uu d.bP,xO p mem s):=by
 unfold Im;rw[amH N d.bP hv hl,ap0];exact ach N hN p env mem hP hD _ 0
theorem Is{l:aqP aqQ}{s:aqQ}:cW l s=true↔s∈l:=by
 unfold cW;rw[List.any_eq_true];constructor
 ·rintro⟨w,hw,e⟩;rw[beq_iff_eq]at e;rw[<-JO e];exact hw
 ·intro h;exact⟨s,h,by simp⟩
theorem ak9{l:aqP aqQ}{s:aqQ}(h:cW l s=false):s ∉ l:=λhm=>by rw[Is.2 hm]at h;cases h
theorem UW{α:Type}{f:α->Int}:∀{l:aqP α},ga f l=0->∀x∈l,f x=0
 |x::l,h,y,hy=>by
  rw[ga]at h;cases e:f x !=0 with
  |true=>rw[e]at h;simp only[cond_true]at h;rw[h]at e;cases e
  |false=>
   rw[e]at h;simp only[cond_false]at h;rcases aqv.1 hy with rfl|hy
   ·exact jd e
   ·exact UW h y hy
def Ln(S:aqP aqQ):aqP aqQ->aqP eN->Prop
 |_,[]=>True
 |T,x::l=>uC S T x=0/\Ln S (T++[x.au]) l
def O8:aqP aqQ->aqP bB->Prop
 |_,[]=>True
 |T,d::l=>iZ T d.au=0/\O8 (T++[d.au]) l
structure VP(p:aV):Prop where
 names:se [] p.bm=0
 wh:∀c∈p.dM,iL p.bm c.bo=0
 Ws:Ln p.bm [] p.aX
 defs:O8 (p.bm++p.aX.map (·.au)) p.aG
 outs:∀s∈p.c9,s∈p.aX.map (·.au)++p.aG.map (·.au)
section
variable {N:Nat} {p:aV}
theorem XF(hD:gQ p.aG):∀(l:aqP aqQ)(k:Nat)(at_:Int){a:Int},qA N p l k at_=some (a,0)->∀s∈l,s∈p.aX.map (·.au)++p.aG.map (·.au)
 |s::l,k,at_,a,h,y,hy=>by
  rw[qA,Et N p s hD,ap0,Q7]at h;cases e:cW (p.aX.map (·.au)++p.aG.map (·.au)) s with
  |false=>rw[e]at h;cases h
  |true=>
   rw[e]at h;simp only[cond_true]at h;obtain⟨_,h⟩:=qg h;rw[BV,ap0]at h;cases e2:cW ((p.c9.take ((k:Int)).toNat).drop 0) s with
   |true=>rw[e2]at h;cases h
   |false=>
    rw[e2]at h;rcases aqv.1 hy with rfl|hy
    ·exact Is.1 e
    ·exact XF hD l (k+1) (aO (at_+1)) h y hy
theorem agB(hN:16<N){k:Nat}{d:bB}{T:aqP aqQ}(hd:p.aG[k]?=some d)(h:x6 N p (k:Int) T=some 0):iZ T d.au=0:=by
 unfold x6 at h;obtain⟨_,h⟩:=qg h;rw[aqs,hd,ap0,BY N hN,ap0]at h;cases e:iZ T d.au !=0 with
 |false=>exact jd e
 |true=>rw[e]at h;simp only[cond_true]at h;rw[aqk h]at e;cases e
theorem Up(hN:16<N):∀(l:aqP bB)(k:Nat)(at_:Int)(T:aqP aqQ){a:Int},p.aG.drop k=l->oY N p l k T at_=some (a,0)->O8 T l/\∃at' a',qA N p p.c9 0 at'=some (a',0)
 |[],k,at_,T,a,_,h=>⟨trivial,at_,a,h⟩
 |d::l,k,at_,T,a,hk,h=>by
  rw[oY]at h;obtain⟨x,e,h⟩:=bO h;cases e2:x !=0 with
  |true=>rw[e2]at h;simp only[cond_true]at h;rw[(Prod.mk.inj (aqk h)).2]at e2;cases e2
  |false=>
   rw[e2]at h;obtain⟨_,h⟩:=qg h;have hx:=jd e2;rw[hx]at e;obtain⟨k1,k2⟩:=Up hN l (k+1) _ _ (oV hk) h;exact⟨⟨agB hN (bI hk) e,k1⟩,k2⟩
theorem P7(hN:16<N):∀(l:aqP eN)(k:Nat)(at_:Int)(T:aqP aqQ){a:Int},lR l->sO N p l k (p.bm++T) at_=some (a,0)->Ln p.bm T l/\∃at' a',oY N p p.aG 0 (p.bm++(T++l.map (·.au))) at'=some (a',0)
 |[],k,at_,T,a,_,h=>⟨trivial,at_,a,by rw[List.map_nil,aqm];exact h⟩
 |x::l,k,at_,T,a,hl,h=>by
  rw[sO,acK N hN x p.bm T (λy hy=>(hl.kI x ap7 y hy).ok),ap0]at h;cases e2:uC p.bm T x !=0 with
  |true=>rw[e2]at h;simp only[cond_true]at h;rw[(Prod.mk.inj (aqk h)).2]at e2;cases e2
  |false=>
   rw[e2]at h;obtain⟨_,h⟩:=qg h;dsimp only at h;rw[aqi]at h;obtain⟨k1,k2⟩:=P7 hN l (k+1) _ (T++[x.au]) ⟨λy hy=>hl.len y (aqa _ hy),λy hy=>hl.kI y (aqa _ hy)⟩ h;rw[aqi]at k2;exact⟨⟨jd e2,k1⟩,k2⟩
theorem alh(hN:16<N)(B:Bd N p){a:Int}(h:Ac N p=some (a,0)):VP p:=by
 have hs:=B.s;unfold Ac Nd at h;rw[OD,ap0]at h;cases e:w6 p with
 |false=>rw[e]at h;cases h
 |true=>
  rw[e]at h;simp only[Bool.not_true,cond_false]at h;rw[MP hN p.bm 0 rfl,ap0,List.take_zero]at h;cases ez:se [] p.bm !=0 with
  |true=>rw[ez]at h;simp only[cond_true]at h;rw[(Prod.mk.inj (aqk h)).2]at ez;cases ez
  |false=>
   rw[ez]at h;simp only[cond_false]at h;rw[IZ hN hs p.dM 0 B.W]at h;cases ew:ga (λc:gC=>iL p.bm c.bo) p.dM !=0 with
   |true=>rw[ew]at h;simp only[cond_true]at h;rw[(Prod.mk.inj (aqk h)).2]at ew;cases ew
   |false=>
    rw[ew]at h;simp only[cond_false]at h;obtain⟨k1,Qo,a1,J⟩:=P7 hN p.aX 0 2 [] B.P (by rw[aqm];exact h);rw[List.nil_append]at J;obtain⟨k2,DC,a2,h2⟩:=Up hN p.aG 0 Qo _ rfl J;exact⟨jd ez,UW (jd ew),k1,k2,XF B.D p.c9 0 DC h2⟩
end
structure DQ(N:Nat)(p:aV)(k:Nat)(T:List ByteArray)(d:bB):Prop where
 name:iZ T d.au=0
 type:cZ d.ax=true
 l1:d.aS.length<=6
 l2:d.bR.length<=6
 afK:rj p.bm [] (d.aS++d.bR)=0
 fold:vL d=0
 tp:∃t:aF,vg N (⟨p.bm,[],p.aX,((p.aG.take k).drop 0),[]⟩:aV) (Ct d) d.bP=some (t,0)/\((t.bg==d.ax.bg)&&((t.bN==d.ax.bN)&&((t.bM==d.ax.bM)&&((t.cn==d.ax.cn)&&((t.ck==d.ax.ck)&&true)))))=true
structure VQ(N:Nat)(p:aV):Prop where
 names:se [] p.bm=0
 wh:∀c∈p.dM,iL p.bm c.bo=0
 Ws:Ln p.bm [] p.aX
 defs:∀k d,p.aG[k]?=some d->DQ N p k (p.bm++p.aX.map (·.au)++(p.aG.take k).map (·.au)) d
 outs:∀k s,p.c9[k]?=some s->cW (p.aX.map (·.au)++p.aG.map (·.au)) s=true/\cW (p.c9.take k) s=false
theorem Ys{c m:Nat}{α:Type}{x:aqR α}{z:α}(h:(bif Nat.ble c m then x else none)=some z):x=some z:=by
 cases e:Nat.ble c m with
 |false=>rw[e]at h;cases h
 |true=>rw[e]at h;exact h
theorem XC{b:Bool}{α:Type}{x:aqR α}{z:α}(h:(bif b then x else none)=some z):b=true/\x=some z:=by
 cases b with
 |false=>cases h
 |true=>exact⟨rfl,h⟩
theorem Hu{a:Int}{x:aqR Int}(h:(bif a !=0 then some a else x)=some 0):a=0/\x=some 0:=by
 cases e:a !=0 with
 |true=>rw[e]at h;simp only[cond_true]at h;rw[aqk h]at e;cases e
 |false=>rw[e]at h;exact⟨jd e,h⟩
section
variable {N:Nat} {p:aV}
theorem amW(hN:16<N){k:Nat}{d:bB}{T:aqP aqQ}(hd:p.aG[k]?=some d)(hs:p.bm.length<=1000)(hx:∀x∈d.aS++d.bR,kx x.dG)(h:x6 N p (k:Int) T=some 0):DQ N p k T d:=by
 unfold x6 at h;obtain⟨_,h⟩:=XC h;rw[aqs,hd,ap0,BY N hN,ap0]at h;obtain⟨n1,h⟩:=Hu h;rw[Dp,ap0]at h;cases e1:cZ d.ax with
 |false=>rw[e1]at h;cases h
 |true=>
  rw[e1,cond_true,wX,wX,mv,ap0]at h;cases e2: !decide (d.aS.length<=6)|| !decide (d.bR.length<=6)with
  |true=>rw[e2]at h;cases h
  |false=>
   rw[e2,cond_false]at h;simp only[aqO,Bool.not_eq_false',decide_eq_true_eq]at e2;have h:=Ys (Ys h);rw[ZW N hN p.bm _ hx (by rw[ap2];omega),ap0]at h;obtain⟨n2,h⟩:=Hu h;rw[UO,ap0]at h;obtain⟨n3,h⟩:=Hu h;obtain⟨_,h⟩:=XC h;rw[abK N d (by omega),ap0]at h;obtain⟨⟨t,x⟩,J,h⟩:=bO h;obtain⟨n4,h⟩:=Hu h;dsimp only at n4 h;subst n4;refine⟨n1,e1,e2.1,e2.2,n2,n3,t,J,?_⟩;cases e3:((t.bg==d.ax.bg)&&((t.bN==d.ax.bN)&&((t.bM==d.ax.bM)&&((t.cn==d.ax.cn)&&((t.ck==d.ax.ck)&&true)))))with
   |true=>rfl
   |false=>rw[e3]at h;cases h
theorem ZS(hD:gQ p.aG):∀(l:aqP aqQ)(k:Nat)(at_:Int){a:Int},p.c9.drop k=l->qA N p l k at_=some (a,0)->∀i s,k<=i->p.c9[i]?=some s->cW (p.aX.map (·.au)++p.aG.map (·.au)) s=true/\cW (p.c9.take i) s=false
 |[],k,at_,a,hk,h,i,s,hi,hs=>by
  have:=(ap1.1 hs).1;have:=List.drop_eq_nil_iff.1 hk;omega
 |s::l,k,at_,a,hk,h,i,y,hi,hy=>by
  rw[qA,Et N p s hD,ap0,Q7]at h;cases e:cW (p.aX.map (·.au)++p.aG.map (·.au)) s with
  |false=>rw[e]at h;cases h
  |true=>
   rw[e]at h;simp only[cond_true]at h;obtain⟨_,h⟩:=qg h;rw[BV,ap0]at h;cases e2:cW ((p.c9.take ((k:Int)).toNat).drop 0) s with
   |true=>rw[e2]at h;cases h
   |false=>
    rw[e2]at h;rcases Nat.lt_or_ge k i with aN|kf
    ·exact ZS hD l (k+1) (aO (at_+1)) (oV hk) h i y aN hy
    ·have:i=k:=by omega
     subst this;rw[bI hk]at hy;cases hy
     exact⟨e,e2⟩
theorem abS(hN:16<N)(hD:gQ p.aG)(hs:p.bm.length<=1000):∀(l:aqP bB)(k:Nat)(at_:Int){a:Int},p.aG.drop k=l->oY N p l k (p.bm++p.aX.map (·.au)++(p.aG.take k).map (·.au)) at_=some (a,0)->
 (∀i d,k<=i->p.aG[i]?=some d->DQ N p i (p.bm++p.aX.map (·.au)++(p.aG.take i).map (·.au)) d)/\∃at' a',qA N p p.c9 0 at'=some (a',0)
 |[],k,at_,a,hk,h=>⟨λi d hi hd=>by
    have:=(ap1.1 hd).1;have:=List.drop_eq_nil_iff.1 hk;omega,at_,a,h⟩
 |d::l,k,at_,a,hk,h=>by
  rw[oY]at h;obtain⟨x,e,h⟩:=bO h;cases e2:x !=0 with
  |true=>rw[e2]at h;simp only[cond_true]at h;rw[(Prod.mk.inj (aqk h)).2]at e2;cases e2
  |false=>
   rw[e2]at h;obtain⟨_,h⟩:=qg h;have hx:=jd e2;rw[hx]at e;have et:p.bm++p.aX.map (·.au)++(p.aG.take k).map (·.au)++[d.au]=p.bm++p.aX.map (·.au)++(p.aG.take (k+1)).map (·.au):=by
     rw[T3 hk,List.map_append,aqi (p.bm++p.aX.map (·.au))];rfl
   dsimp only at h;rw[et]at h;obtain⟨k1,k2⟩:=abS hN hD hs l (k+1) _ (oV hk) h;refine⟨λi d' hi jf=> ?_,k2⟩;rcases Nat.lt_or_ge k i with aN|kf
   ·exact k1 i d' aN jf
   ·have:i=k:=by omega
    subst this;rw[bI hk]at jf;cases jf
    exact amW hN (bI hk) hs (λx hx=>(hD.kI d (I6 (bI hk)) x hx).ok) e
theorem ajy(hN:16<N):∀(l:aqP eN)(k:Nat)(at_:Int)(T:aqP aqQ){a:Int},lR l->sO N p l k (p.bm++T) at_=some (a,0)->∃at' a',oY N p p.aG 0 (p.bm++(T++l.map (·.au))) at'=some (a',0):=λl k at_ T a hl h=>(P7 hN l k at_ T hl h).2
theorem V6{α:Type}{f:α->Int}:∀{l:aqP α},(∀x∈l,f x=0)->ga f l=0
 |[],_=>rfl
 |x::l,h=>by
  rw[ga,h x ap7];exact V6 λy hy=>h y (aqa _ hy)
theorem agk(hN:16<N)(B:Bd N p){a:Int}(h:Ac N p=some (a,0)):VQ N p:=by
 have hs:=B.s;have V:=alh hN B h;unfold Ac Nd at h;rw[OD,ap0]at h;cases e:w6 p with
 |false=>rw[e]at h;cases h
 |true=>
  rw[e]at h;simp only[Bool.not_true,cond_false]at h;rw[MP hN p.bm 0 rfl,ap0,List.take_zero,V.names]at h;simp only[bne_self_eq_false,cond_false]at h;rw[IZ hN hs p.dM 0 B.W,V6 V.wh]at h;simp only[bne_self_eq_false,cond_false]at h;obtain⟨Qo,a1,J⟩:=ajy hN p.aX 0 2 [] B.P (by rw[aqm];exact h);rw[List.nil_append]at J;obtain⟨k2,DC,a2,h2⟩:=abS hN B.D hs p.aG 0 Qo rfl (by rw[List.take_zero,List.map_nil,aqm];exact J);exact⟨V.names,V.wh,V.Ws,λk d=>k2 k d (Nat.zero_le _),λk s=>ZS B.D p.c9 0 DC rfl h2 k s (Nat.zero_le _)⟩
end
structure Df(N:Nat)(d:bB):Prop where
 ty:cZ d.ax=true
 ev:Ev d.bP
 cond:eE d.bP=false
 size:3*SizeOf.sizeOf d.bP<N
 l1:d.aS.length<=6
 l2:d.bR.length<=6
 plain:(d.dj==0||d.dj==5)=true->d.bR=[]
 scan:d.dj=5->d.aS≠ []
def rC(f:aqP Int->Except Int (aA×aF))(d:bB):aqP (aqP Int)->aqR aA->Except Int aA
 |[],acc=> .ok (acc.getD cP)
 |q::l,acc=>match f q with
  | .error z=> .error z
  | .ok x=>match acc with
    |none=>rC f d l (some x.1)
    |some a=>match mL d.dj d.ax a x.1 with
     | .error z=> .error z
     | .ok v=>rC f d l (some v)
def Pb(d:bB):aqP aqQ:=d.bR.map (·.au)
def EM(d:bB):aqP aqQ:=d.aS.map (·.au)
noncomputable def Gv(mem:aqP aI)(env:aqP aJ)(d:bB)(q:aqP Int):Except Int (aA×aF):=dT mem (mK (Pb d) q++env) d.bP
noncomputable def Es(mem:aqP aI)(env:aqP aJ)(d:bB)(red:aqP Int):Except Int aA:=rC (Gv mem env d) d (mW red 0 (cX red).toNat) none
theorem RP{l:aqP Int}(h:ql l):∀(m k:Nat),(k:Int)+m<=cX l->∀q∈mW l k m,q.length=l.length/\∀x∈q,0<=x/\x<4096
 |0,k,_,q,hq=>by cases hq
 |m+1,k,hk,q,hq=>by
  rw[Hi]at hq;rcases aqv.1 hq with rfl|hq
  ·have:=h.p;exact⟨ald _ _,afk h.r (by omega) (by omega)⟩
  ·exact RP h m (k+1) (by omega) q hq
theorem Vl(N:Nat)(hN:9223372036854775808<N)(mem:aqP aI)(hm:mem.length<=4611686018427387904)(env:aqP aJ)(he:env.length<=1000000)(d:bB)(H:Df N d):∀(jH:aqP (aqP Int))(acc:aqR aA)(kv:aqP (aqQ×aT)),(∀q∈jH,q.length=d.bR.length/\∀x∈q,0<=x/\x<4096)->CK mem kv->
 ∃v er dS,vl N d env mem jH (acc.getD cP).xN (acc.getD cP).xD acc.isNone kv=some (v,er,dS)/\CK mem dS/\nE (rC (Gv mem env d) d jH acc) er v (λa b=>b=a)
 |[],acc,kv,_,hk=>⟨_,_,_,rfl,hk,rfl,rfl⟩
 |q::jH,acc,kv,hp,hk=>by
  have hq:=hp q ap7;have zo:=H.l2;have hs:=H.size;rw[vl,X2 N d.bR q env hq.1.symm (by omega) hq.2 (by omega),ap0];unfold zd Bl;rw[ap0];obtain⟨t,er,dS,J,h2,h3⟩:=(mch N hN mem hm (mK (Pb d) q++env) _ d.bP (aqc _) H.ev).v H.cond N kv (by omega) hk;have mM:ml N N d.bP (mK (d.bR.map (·.au)) q++env) mem kv=some (t,er,dS):=J;rw[mM,ap0,rC];unfold Gv;cases hv:dT mem (mK (Pb d) q++env) d.bP with
  |error z=>
   rw[hv]at h3;obtain⟨rfl,hz⟩:=h3;dsimp only;rw[bne_iff_ne.2 hz,cond_true];exact⟨_,_,_,rfl,h2,rfl,hz⟩
  |ok x=>
   rw[hv]at h3;obtain⟨rfl,e1,e2,e3⟩:=h3;dsimp only;rw[show((0:Int) !=0)=false from rfl,cond_false,e1];have ih:=λacc=>Vl N hN mem hm env he d H jH acc dS (λy hy=>hp y (aqa _ hy)) h2;cases acc with
   |none=>exact ih (some x.1)
   |some a=>
    simp only[Option.isNone_some,cond_false,Option.getD_some];obtain⟨r,r1,r2⟩:=VW N hN d.dj d.ax a x.1 H.ty;rw[r1,ap0];cases hr:mL d.dj d.ax a x.1 with
    |error z=>
     rw[hr]at r2;obtain⟨r3,hz⟩:=r2;rw[r3,bne_iff_ne.2 hz,cond_true];exact⟨_,_,_,rfl,h2,rfl,hz⟩
    |ok v=>
     rw[hr]at r2;have r3:r=(v,0):=r2;subst r3;exact ih (some v)
theorem ad7(N:Nat)(hN:9223372036854775808<N)(mem:aqP aI)(hm:mem.length<=4611686018427387904)(env:aqP aJ)(he:env.length<=1000000)(d:bB)(H:Df N d)(red:aqP Int)(hR:ql red)(hl:red.length=d.bR.length)(kv:aqP (aqQ×aT))(hk:CK mem kv):
 ∃v er dS,AQ N d red env mem kv=some (v,er,dS)/\CK mem dS/\nE (Es mem env d red) er v (λa b=>b=a):=by
 have hs:=H.size;have hp:=hR.p;have h0:=qx hR.r;unfold AQ Es;have hf:(bif (d.dj==0)then some true else some (d.dj==5))=some (d.dj==0||d.dj==5):=by cases d.dj==0<;>rfl
 rw[hf,ap0];cases hb:(d.dj==0||d.dj==5)with
 |true=>
  have hr:red=[]:=by
   have:=H.plain hb;rw[this]at hl;exact List.eq_nil_of_length_eq_zero hl
  subst hr;rw[cond_true];unfold zd Bl;rw[ap0];obtain⟨t,er,dS,J,h2,h3⟩:=(mch N hN mem hm env _ d.bP (aqc _) H.ev).v H.cond N kv (by omega) hk;rw[J,ap0];refine⟨_,_,_,rfl,h2,?_⟩;have e:mW [] 0 (cX []).toNat=[[]]:=rfl;rw[e,rC];have e2:Gv mem env d []=dT mem env d.bP:=by
   unfold Gv mK;rw[List.zipWith_nil_right,List.nil_append]
  rw[e2];cases hv:dT mem env d.bP with
  |error z=>rw[hv]at h3;exact h3
  |ok x=>
   rw[hv]at h3;obtain⟨h4,e1,e3,e4⟩:=h3;exact⟨h4,e1⟩
 |false=>
  rw[cond_false,Wc N red hR,ap0,Y9 N (by omega) red hR,ap0];exact Vl N hN mem hm env he d H _ none kv (by rw[<-hl];exact RP hR _ 0 (by omega)) hk
def Gq(q:aqP Int):Int:=(q[q.length-1]?).getD 0
noncomputable def zL(mem:aqP aI)(env:aqP aJ)(d:bB)(red:aqP Int)(q:aqP Int):Except Int aA:=Es mem (mK (EM d) q++env) d red
def nC(f:aqP Int->Except Int aA)(d:bB):aqP (aqP Int)->aqP aA->Except Int (aqP aA)
 |[],acc=> .ok acc
 |q::l,acc=>match f q with
  | .error z=> .error z
  | .ok v=>bif d.dj==5&&decide (Gq q>0)then(match acc[acc.length-1]? with
   |none=> .error 1
   |some w=>match mL 1 d.ax w v with
    | .error z=> .error z
    | .ok u=>nC f d l (acc++[u]))else nC f d l (acc++[v])
def Zo(t:aF)(ext:aqP Int)(r:Except Int (aqP aA)):aT×Int:=match r with
 | .ok vs=>(⟨t,ext,vs⟩,0)
 | .error z=>(lk,z)
theorem ajK{ext:aqP Int}(h:ext≠ []):∃e,ext[ext.length-1]?=some e:=by
 have:0<ext.length:=List.length_pos_iff.2 h;exact⟨_,ap5 (by omega)⟩
theorem al9{acc:aqP aA}(h:0<acc.length):∃w,acc[acc.length-1]?=some w:=⟨_,ap5 (by omega)⟩
theorem WL(N:Nat)(hN:9223372036854775808<N)(mem:aqP aI)(hm:mem.length<=4611686018427387904)(env:aqP aJ)(he:env.length<=100000)(d:bB)(H:Df N d)(D:aqP Int×aF×Int)(hD:ql D.1)(Ab:D.1.length=d.aS.length)(R:aqP Int×Int)(hR:ql R.1)(UP:R.1.length=d.bR.length)(Uc:aqP (aqQ×aT)):∀(m k:Nat)(acc:aqP aA)(kv:aqP (aqQ×aT)),(k:Int)+m=cX D.1->acc.length=k->CK mem kv->
 tT N d D env R (mem,Uc) (mW D.1 k m) acc kv=some (Zo d.ax D.1 (nC (zL mem env d R.1) d (mW D.1 k m) acc))
 |0,k,acc,kv,_,_,_=>rfl
 |m+1,k,acc,kv,hk,ha,hc=>by
  have hp:=hD.p;have FD:=H.l1;have hq:=RP hD (m+1) k (by omega) (pE D.1 (k:Int)) (by rw[Hi];exact ap7);rw[Hi,tT,X2 N d.aS _ env (by rw[hq.1,Ab]) (by omega) hq.2 (by omega),ap0];obtain⟨v,er,dS,J,h2,h3⟩:=ad7 N hN mem hm (mK (EM d) (pE D.1 (k:Int))++env) (by rw[ap2,aml _ _ (by unfold EM;rw[ap6,hq.1,Ab])];unfold EM;rw[ap6];omega) d H R.1 hR UP kv hc;have mM:AQ N d R.1 (mK (d.aS.map (·.au)) (pE D.1 (k:Int))++env) mem kv=some (v,er,dS):=J;rw[mM,ap0,nC];have ih:=λot(hh:ot.length=k+1)=>WL N hN mem hm env he d H D hD Ab R hR UP Uc m (k+1) ot dS (by omega) hh h2;unfold zL;cases hv:Es mem (mK (EM d) (pE D.1 (k:Int))++env) d R.1 with
  |error z=>
   rw[hv]at h3;obtain⟨rfl,hz⟩:=h3;dsimp only;rw[show(er==0)=false by rw[beq_eq_false_iff_ne];exact hz,cond_false,ap0,cond_false];unfold vj;rw[bne_iff_ne.2 hz];rfl
  |ok x=>
   rw[hv]at h3;obtain⟨rfl,rfl⟩:=h3;dsimp only;rw[show((0:Int)==0)=true from rfl,cond_true];cases h5:(d.dj==5)with
   |false=>
    rw[cond_false,ap0,cond_false,Bool.false_and,cond_false];unfold vj;rw[show((0:Int) !=0)=false from rfl,cond_false,fJ (by omega),cond_true];exact ih _ (by simp [ha])
   |true=>
    have cG:D.1≠ []:=λh=>H.scan (by simpa using h5) (List.eq_nil_of_length_eq_zero (by rw[<-Ab,h];rfl));have M3:0<D.1.length:=List.length_pos_iff.2 cG;obtain⟨e,pV⟩:=ajK cG;have xn:=YE (n:=(k:Int)) pV;have FC:Gq (pE D.1 (k:Int))=(k:Int).tmod e:=by unfold Gq;rw[hq.1,xn];rfl
    rw[cond_true,hq.1,kC (by have:=hD.n;omega) (by have:=hD.n;omega),aqI (show(0:Int)<=(D.1.length:Int)-1 by omega),cond_true,show((D.1.length:Int)-1).toNat=D.1.length-1 by omega,xn,ap0,ap0,FC,Bool.true_and];cases hg:decide ((k:Int).tmod e>0)with
    |false=>
     rw[cond_false,cond_false];unfold vj;rw[show((0:Int) !=0)=false from rfl,cond_false,fJ (by omega),cond_true];exact ih _ (by simp [ha])
    |true=>
     have gP:0<acc.length:=by
      rw[ha];refine Classical.byContradiction λh=> ?_;have:k=0:=by omega
      subst this;rw[decide_eq_true_eq]at hg;simp at hg
     obtain⟨w,hw⟩:=al9 gP;rw[cond_true,cond_true,kC (by omega) (by omega),aqI (show(0:Int)<=(acc.length:Int)-1 by omega),cond_true,show((acc.length:Int)-1).toNat=acc.length-1 by omega,hw,ap0];obtain⟨r,r1,r2⟩:=VW N hN 1 d.ax w v H.ty;rw[r1,ap0];unfold vj;dsimp only;cases hr:mL 1 d.ax w v with
     |error z=>
      rw[hr]at r2;obtain⟨r3,hz⟩:=r2;rw[r3,bne_iff_ne.2 hz];rfl
     |ok u=>
      rw[hr]at r2;have r3:r=(u,0):=r2;subst r3;rw[show((0:Int) !=0)=false from rfl,cond_false,fJ (by omega),cond_true];exact ih _ (by simp [ha])
theorem D7(env:aqP aJ):∀(l:aqP bz)(acc:aqP Int),(fP env l acc).2=0->(fP env l acc).1.length=acc.length+l.length
 |[],acc,_=>rfl
 |f::l,acc,h=>by
  rw[fP]at h ⊢;cases J:(de f env).2 !=0 with
  |true=>rw[J,cond_true]at h;simp only at h;rw[h]at J;cases J
  |false=>
   rw[J,cond_false]at h;rw[cond_false];cases h2:sF (de f env).1 with
   |false=>rw[h2,cond_false]at h;cases h
   |true=>
    rw[h2,cond_true]at h;rw[cond_true,D7 env l _ h];simp only[ap2,ap4,aqd];omega
theorem Q9{p:aV}{i:Nat}{d:bB}(hd:p.aG[i]?=some d)(G:nN p i d):dy p.aX p.aG d.au=(d.ax,d.aS.map (·.dG),true):=by
 unfold dy;have J:=GO (·.au) d.au p.aX;rw[G.par]at J;have h2:=GO (·.au) d.au (p.aG.take i);rw[G.alN]at h2;have e1:p.aX.find? (λx=>bL x.au==bL d.au)=none:=by
  cases hh:p.aX.find? (λx=>bL x.au==bL d.au)with
  |none=>rfl
  |some y=>rw[hh]at J;cases J
 rw[e1];have e:p.aG=p.aG.take i++(d::p.aG.drop (i+1)):=by rw[<-T1 hd,aqE]
 have e2:p.aG.find? (ik d.au)=some d:=by
  rw[e,List.find?_append];have:(p.aG.take i).find? (ik d.au)=none:=by
    cases hh:(p.aG.take i).find? (ik d.au)with
    |none=>rfl
    |some y=>
     have h3:false=((p.aG.take i).find? (ik d.au)).isSome:=h2;rw[hh]at h3;cases h3
  rw[this,Option.none_or,List.find?_cons_of_pos];unfold ik;exact aqK _
 rw[e2]
theorem Ro{N:Nat}(hN:9223372036854775808<N){p:aV}(B:Bd N p)(V:VQ N p){i:Nat}{d:bB}(hd:p.aG[i]?=some d)(G:nN p i d)(hl:hO 400 d.bP)(hs:3*SizeOf.sizeOf d.bP<N):Df N d:=by
 have Q:=V.defs i d hd;have hm:=aqe hd;have hf:=Q.fold;refine⟨Q.type,hl.ev (by decide) G.body,?_,hs,Q.l1,Q.l2,λh=> ?_,λh=> ?_⟩
 ·obtain⟨t,J,h2⟩:=Q.tp;unfold vg at J;rw[QE N (by omega) d.bP (by omega) (hl.mV (by decide)),ap0,G.body,show((0:Int) !=0)=false from rfl,cond_false,GU,ap0]at J;cases hc:eE d.bP with
  |false=>rfl
  |true=>rw[hc,cond_true]at J;cases J
 ·unfold vL at hf;cases h0:(d.dj==0)with
  |true=>
   rw[h0,cond_true]at hf;cases hr:(d.bR.length==0)with
   |true=>rw[beq_iff_eq]at hr;exact List.eq_nil_of_length_eq_zero hr
   |false=>rw[hr]at hf;cases hf
  |false=>
   rw[h0,Bool.false_or,beq_iff_eq]at h;rw[h]at hf;cases hr:(d.bR.length==0)with
   |true=>rw[beq_iff_eq]at hr;exact List.eq_nil_of_length_eq_zero hr
   |false=>rw[hr]at hf;cases hf
 ·unfold vL at hf;rw[h]at hf;intro hn;rw[hn]at hf;simp at hf
theorem XB(N:Nat):∀(l:aqP du)(k:Nat)(acc:aqP bz),acc.length+l.length<=1000000000->Ff N l k acc=some (acc++l.map (·.dG))
 |[],k,acc,_=>by rw[Ff,List.map_nil,aqm]
 |a::l,k,acc,h=>by
  simp only[ap4]at h;rw[Ff,fJ (by omega),cond_true];dsimp only;rw[XB N l (k+1) _ (by simp only[ap2,ap4,aqd];omega),aqq,aqi];rfl
theorem Zw:∀a b:aqP Int,cX (a++b)=cX a*cX b
 |[],b=>by rw[List.nil_append,cX,Int.one_mul]
 |x::a,b=>by rw[List.cons_append,cX,cX,Zw a b,Int.mul_assoc]
theorem Yu(N:Nat)(lim:Int)(hl:lim<=65536)(L:aqP Int)(hL:L.length<=1000000):∀(l:aqP Int)(k f:Nat)(v:Int),L.drop k=l->k<=L.length->l.length<f->(∀x∈l,1<=x/\x<=4096)->1<=v->v<=lim->uY N L.length L lim f v (k:Int)=some (if v*cX l<=lim then v*cX l else lim+1)
 |[],k,f,v,hd,hk,hf,_,J,h2=>by
  obtain⟨f,rfl⟩:∃f',f=f'+1:=⟨f-1,by omega⟩;have:L.length<=k:=List.drop_eq_nil_iff.1 hd;rw[uY,aqJ (show ¬(k:Int)<(L.length:Int) by omega),cond_false,cX,Int.mul_one,if_pos h2]
 |x::l,k,f,v,hd,hk,hf,h,J,h2=>by
  obtain⟨f,rfl⟩:∃f',f=f'+1:=⟨f-1,by omega⟩;have hx:=h x ap7;have hp:=qx (l:=l) λy hy=>h y (aqa _ hy);have iS:v*x<=65536*4096:=Int.mul_le_mul (by omega) hx.2 (by omega) (by omega);have lS:1*1<=v*x:=Int.mul_le_mul J hx.1 (by decide) (by omega);have hJ:k<L.length:=by
   refine Classical.byContradiction λh=> ?_;rw[List.drop_of_length_le (by omega)]at hd;cases hd
  simp only[ap4]at hf;rw[uY,aqI (show(k:Int)<(L.length:Int) by omega),cond_true,aqI (show(0:Int)<=(k:Int) by omega),cond_true,aqs,bI hd,ap0,cX,kC (z:=v*x) (by omega) (by omega),<-Int.mul_assoc];by_cases hc:v*x>lim
  ·rw[aqI hc,cond_true,kC (by omega) (by omega),if_neg];have:v*x*1<=v*x*cX l:=Int.mul_le_mul_of_nonneg_left hp (by omega);omega
  ·rw[aqJ hc,cond_false,kC (by omega) (by omega),show(k:Int)+1=((k+1:Nat):Int) by omega];exact Yu N lim hl L hL l (k+1) f (v*x) (by rw[<-List.drop_drop,hd];rfl) hJ (by omega) (λy hy=>h y (aqa _ hy)) (by omega) (by omega)
theorem akx(N:Nat)(hN:2147483648<N)(L:aqP Int)(hL:L.length<=1000000)(h:∀x∈L,1<=x/\x<=4096):FQ N L.length 65536 L=some (if cX L<=65536 then cX L else 65537):=by
 unfold FQ;rw[Nat.beq_refl,cond_true];have:=Yu N 65536 (by decide) L hL L 0 N 1 rfl (by omega) (by omega) h (by decide) (by decide);rw[Int.one_mul]at this;exact this
theorem SR{p:aV}{env:aqP aJ}{s:aqQ}(h:(eI p env s).2.2=0):(eI p env s).1=(fP env (dy p.aX p.aG s).2.1 []).1/\(fP env (dy p.aX p.aG s).2.1 []).2=0/\cX (eI p env s).1<=4096:=by
 unfold eI at h ⊢;dsimp only at h ⊢;cases J:(dy p.aX p.aG s).2.2 with
 |false=>rw[J]at h;cases h
 |true=>
  rw[J,cond_true]at h;rw[cond_true];cases h2:(fP env (dy p.aX p.aG s).2.1 []).2 !=0 with
  |true=>rw[h2,cond_true]at h;simp only at h;rw[h]at h2;cases h2
  |false=>
   rw[h2,cond_false]at h;rw[cond_false];cases h3:decide (cX (fP env (dy p.aX p.aG s).2.1 []).1>4096)with
   |true=>rw[h3]at h;cases h
   |false=>
    rw[decide_eq_false_iff_not]at h3;exact⟨rfl,by simpa using h2,by simp only[cond_false];omega⟩
noncomputable def pz(p:aV)(env:aqP aJ)(mem:aqP aI)(d:bB)(rx:Int):aT×Int:=
 bif (eI p env d.au).2.2 !=0 then(lk,(eI p env d.au).2.2)else
 bif (fP env (d.bR.map (·.dG)) []).2 !=0 then(lk,(fP env (d.bR.map (·.dG)) []).2)else
 bif decide (cX (eI p env d.au).1*cX (fP env (d.bR.map (·.dG)) []).1>65536)then(lk,2)else
 bif rx !=0 then(lk,rx)else
 Zo d.ax (eI p env d.au).1 (nC (zL mem env d (fP env (d.bR.map (·.dG)) []).1) d (mW (eI p env d.au).1 0 (cX (eI p env d.au).1).toNat) [])
theorem RY(N:Nat)(c:Int64->aqR Int)(m:dC)(hc:∀v,∃n,c v=some n):∀(l:aqP aJ)(k:Nat)(v:Int64),∃n,MR N c v m l k=some n
 |[],k,v=>hc v
 |b::l,k,v=>by
  rw[MR];cases bL b.au==bL m.au with
  |false=>exact RY N c m hc l (k+1) v
  |true=>
   rw[cond_true,ap0];cases decide (b.dt.toInt> -1000)with
   |true=>exact hc _
   |false=>exact RY N c m hc l (k+1) v
theorem VK(N:Nat)(env:aqP aJ):∀(l:aqP dC)(k:Nat)(v:Int64),∃n,FV N env l k v=some n
 |[],k,v=>⟨_,rfl⟩
 |m::l,k,v=>by
  rw[FV];have go:=RY N (λcl=>FV N env l (k+1) cl) m (λv=>VK N env l (k+1) v) env 0 v;cases decide (m.dU.toInt>100)with
  |true=>exact⟨_,rfl⟩
  |false=>
   rw[cond_false,ap0];cases decide (m.dU.toInt< -100)with
   |true=>exact⟨_,rfl⟩
   |false=>exact go
theorem ak0(N:Nat)(f:bz)(env:aqP aJ):∃n,I9 N f env=some n:=by
 unfold I9;cases decide (f.xK.toInt>3000)with
 |true=>exact⟨_,rfl⟩
 |false=>
  rw[cond_false,ap0];cases decide (f.xK.toInt< -3000)with
  |true=>exact⟨_,rfl⟩
  |false=>exact VK N env f.xL 0 f.xK
theorem Rn(N:Nat)(env:aqP aJ):∀(l:aqP du)(k:Nat)(v:Int),∃n,IW N env l k v=some n
 |[],k,v=>⟨_,rfl⟩
 |a::l,k,v=>by
  rw[IW];obtain⟨n,hn⟩:=ak0 N a.dG env;rw[hn,ap0];exact Rn N env l (k+1) _
theorem XO(N:Nat)(env:aqP aJ):∀(l:aqP bB)(k:Nat),∃b,M6 N env l k=some b
 |[],k=>⟨_,rfl⟩
 |d::l,k=>by
  rw[M6];unfold Hq;obtain⟨a,ha⟩:=Rn N env d.aS 0 1;obtain⟨b,hb⟩:=Rn N env d.bR 0 1;rw[ha,hb,ap0,ap0];cases decide (aO (a*b)>3000)with
  |true=>exact⟨_,rfl⟩
  |false=>exact XO N env l (k+1)
theorem abT(N:Nat)(env:aqP aJ)(p:aV)(v:Int64):∀(l:aqP aJ)(k:Nat),∃b,IN N env p v l k=some b
 |[],k=>XO N env p.aG 0
 |x::l,k=>by
  rw[IN];cases decide (x.dt.toInt>v.toInt)with
  |true=>exact⟨_,rfl⟩
  |false=>exact abT N env p v l (k+1)
theorem ai1(N:Nat)(hN:1000<N)(p:aV)(env:aqP aJ)(v:Int64)(hd:∀d∈p.aG,hO qG d.bP/\SizeOf.sizeOf d.bP<N):∃b,I8 N p env v=some b/\(b=true->zY p/\(env.length:Int)<=20):=by
 unfold I8;obtain⟨b1,f1,f2⟩:=aoj N 400 (by decide) hN p hd;have f1':GF N p 400=some b1:=f1;obtain⟨b2,g1,g2⟩:=ahE N env 20;obtain⟨b3,k1⟩:=abT N env p v env 0;rw[f1',g1,k1,ap0];cases b1 with
 |true=>exact⟨false,rfl,λh=>by cases h⟩
 |false=>
  rw[cond_false];cases decide ((p.aG.length:Int)>12)with
  |true=>exact⟨false,rfl,λh=>by cases h⟩
  |false=>
   cases b2 with
   |false=>exact⟨false,rfl,λh=>by cases h⟩
   |true=>exact⟨b3,rfl,λ_=>⟨f2 rfl,g2 rfl⟩⟩
theorem aiA(N:Nat)(L:aqP aA):E2 N L L=some true:=by
 have go:∀(l:aqP aA)(k:Nat),L.drop k=l->LR N L l k=some true:=by
  intro l
  induction l with
  |nil=>intro k _;rfl
  |cons x l ih=>intro k h;rw[LR,aqs,bI h,ap0,aqK,aqK];exact ih (k+1) (oV h)
 unfold E2;rw[adJ,cond_false];exact go L 0 rfl
theorem Yz(N:Nat)(t:aT):xr N t t=some true:=by
 unfold xr;rw[Zz,aiA];simp
structure Lw(N:Nat)(p:aV)(env:List aJ):Prop where
 hN:9223372036854775808<N
 sh:zY p
 env:env.length<=20
 size:∀d∈p.aG,3*SizeOf.sizeOf d.bP<N
theorem Lw.bd{N:Nat}{p:aV}{env:aqP aJ}(W:Lw N p env):Bd N p:=alV W.sh λd h=>by have:=W.size d h;omega
theorem Lw.wh{N:Nat}{p:aV}{env:aqP aJ}(W:Lw N p env):∀c∈p.dM,c.bo.xL.length<=4611686018427387904:=λc hc=>aqj (W.sh.W c hc) (by decide)
structure vv(t:aT):Prop where
 d:t.aS.length<=1000000
 v:t.dn.length<=1000000
theorem B5:vv lk:=⟨by decide,by decide⟩
theorem adK(N:Nat){t:aT}(h:vv t):De N t=some t:=by
 have J:=h.d;have h2:=h.v;unfold De Pz Th;rw[fJ (by omega),cond_true,ap0,fJ (by omega),cond_true,ap0]
theorem Ky(f:aqP Int->Except Int aA)(d:bB):∀(l:aqP (aqP Int))(acc vs:aqP aA),nC f d l acc= .ok vs->vs.length=acc.length+l.length
 |[],acc,vs,h=>by rw[nC]at h;cases h;rfl
 |q::l,acc,vs,h=>by
  rw[nC]at h;cases hf:f q with
  |error z=>rw[hf]at h;cases h
  |ok v=>
   rw[hf]at h;dsimp only at h;cases hb:(d.dj==5&&decide (Gq q>0))with
   |false=>
    rw[hb,cond_false]at h;have:=Ky f d l _ vs h;simp only[ap2,ap4,aqd]at this ⊢;omega
   |true=>
    rw[hb,cond_true]at h;cases ha:acc[acc.length-1]? with
    |none=>rw[ha]at h;cases h
    |some w=>
     rw[ha]at h;dsimp only at h;cases hr:mL 1 d.ax w v with
     |error z=>rw[hr]at h;cases h
     |ok u=>
      rw[hr]at h;have:=Ky f d l _ vs h;simp only[ap2,ap4,aqd]at this ⊢;omega
theorem ZB(l:aqP Int)(k n:Nat):(mW l k n).length=n:=by unfold mW;rw[ap6,List.length_range']
theorem agr{N:Nat}{p:aV}{env:aqP aJ}{i:Nat}{d:bB}(hd:p.aG[i]?=some d)(G:nN p i d)(H:Df N d)(mem:aqP aI)(rx:Int):vv (pz p env mem d rx).1:=by
 unfold pz;cases J:((eI p env d.au).2.2 !=0)with
 |true=>exact B5
 |false=>
  rw[bne_eq_false_iff_eq]at J;obtain⟨d1,d2,d3⟩:=SR J;rw[Q9 hd G]at d1 d2;have JB:(eI p env d.au).1.length=d.aS.length:=by rw[d1,D7 env _ [] d2];simp
  have FD:=H.l1;rw[cond_false];cases (fP env (d.bR.map (·.dG)) []).2 !=0 with
  |true=>exact B5
  |false=>
   rw[cond_false];cases decide (cX (eI p env d.au).1*cX (fP env (d.bR.map (·.dG)) []).1>65536)with
   |true=>exact B5
   |false=>
    rw[cond_false];cases rx !=0 with
    |true=>exact B5
    |false=>
     rw[cond_false];cases hf:nC (zL mem env d (fP env (d.bR.map (·.dG)) []).1) d (mW (eI p env d.au).1 0 (cX (eI p env d.au).1).toNat) []with
     |error z=>exact B5
     |ok vs=>
      have:=Ky _ _ _ _ _ hf;rw[ZB,aqd]at this;exact⟨by show(eI p env d.au).1.length<=1000000;omega,by show vs.length<=1000000;omega⟩
def wy(l:aqP aI):Prop:=∀x∈l,vv x.cB
def lW(l:aqP aI)(s:aqQ):aT×Bool:=match eO l s with|none=>(lk,false)|some t=>(t,true)
theorem abk(N:Nat)(l:aqP aI)(s:aqQ):vz N l s=some (lW l s):=by
 rw[ND];unfold lW;cases eO l s<;>rfl
theorem aoF(N:Nat)(l:aqP aI)(s:aqQ):IJ N l s=some (lW l s):=by
 rw[aln];unfold lW;cases eO l s<;>rfl
theorem wy.find{l:aqP aI}(h:wy l)(s:aqQ):vv (lW l s).1:=by
 unfold lW;cases hf:eO l s with
 |none=>exact B5
 |some t=>
  obtain⟨x,hx,e,_⟩:=S3 hf;have:=h x hx;rw[e]at this;exact this
theorem al7(N:Nat)(hN:9223372036854775808<N)(p:aV)(env:aqP aJ)(he:env.length<=100000)(mem:aqP aI)(hm:mem.length<=4611686018427387904)(B:Bd N p){i:Nat}{d:bB}(hd:p.aG[i]?=some d)(G:nN p i d)(H:Df N d)(hl:hO 400 d.bP):∃rx,(rx=0->∀s∈uu d.bP,xO p mem s)/\zy N p env mem (i:Int)=some (pz p env mem d rx):=by
 have hs:=H.size;have hi:i<p.aG.length:=(ap1.1 hd).1;have jY:=aqe hd;have FD:=H.l1;have zo:=H.l2;obtain⟨rx,r1,r3⟩:=akw N (by omega) p env mem B.P B.D d G.body hl;refine⟨rx,r3,?_⟩;unfold zy pz;have YI:∀y∈d.bR.map (·.dG),mo 1000000000 y:=λy hy=>by
  obtain⟨a,ha,rfl⟩:=List.mem_map.1 hy;exact B.D.kI d jY a (List.mem_append_right _ ha)
 have eR:=PX N (by omega) env (d.bR.map (·.dG)) 0 [] YI (by simp only[aqd,ap6];omega);rw[aqJ (show ¬(i:Int)<0 by omega),cond_false,aqJ (show ¬(i:Int)>=(p.aG.length:Int) by omega),ap0,cond_false,aqI (show(0:Int)<=(i:Int) by omega),cond_true,aqs,hd,ap0,MH N (by omega) p env d.au B.P B.D,ap0];cases Qf:((eI p env d.au).2.2 !=0)with
 |true=>rfl
 |false=>
  rw[bne_eq_false_iff_eq]at Qf;obtain⟨d1,d2,d3⟩:=SR Qf;rw[Q9 hd G]at d1 d2;have yg:∀x∈(eI p env d.au).1,1<=x/\x<=4096:=by rw[d1];exact Cr env _ [] λx hx=>by cases hx
  have JB:(eI p env d.au).1.length=d.aS.length:=by rw[d1,D7 env _ [] d2];simp
  have hD:ql (eI p env d.au).1:=⟨yg,by omega,by omega⟩;have hDp:=qx yg;unfold OU FF;rw[cond_false,cond_false,XB N d.bR 0 [] (by simp only[aqd];omega)];simp only[List.nil_append,ap0];rw[eR,ap0];cases oh:((fP env (d.bR.map (·.dG)) []).2 !=0)with
  |true=>rfl
  |false=>
   rw[bne_eq_false_iff_eq]at oh;have AX:∀x∈(fP env (d.bR.map (·.dG)) []).1,1<=x/\x<=4096:=Cr env _ [] λx hx=>by cases hx
   have Wv:(fP env (d.bR.map (·.dG)) []).1.length=d.bR.length:=by rw[D7 env _ [] oh];simp
   have hRp:=qx AX;generalize hRg:fP env (d.bR.map (·.dG)) []=R at AX Wv hRp oh ⊢;generalize hDg:eI p env d.au=D at yg JB hD hDp d3 Qf ⊢;unfold NT;rw[cond_false,cond_false,fJ (show D.1.length*8<=140737488355328 by omega),cond_true,ap0,fJ (show(D.1.length+R.1.length)*8<=140737488355328 by omega),cond_true];have hc:=akx N (by omega) (D.1++R.1) (by rw[ap2];omega) (λx hx=>by
    rcases aqD.1 hx with hx|hx
    ·exact yg x hx
    ·exact AX x hx)
   rw[ap2,Zw]at hc;rw[hc,ap0];have lS:1*cX R.1<=cX D.1*cX R.1:=Int.mul_le_mul_of_nonneg_right hDp (by omega);have e1:decide ((if cX D.1*cX R.1<=65536 then cX D.1*cX R.1 else 65537)>65536)=decide (cX D.1*cX R.1>65536):=XZ 65536 (by decide) (by decide) _;rw[e1];cases hp:decide (cX D.1*cX R.1>65536)with
   |true=>rfl
   |false=>
    rw[decide_eq_false_iff_not]at hp;have hR:ql R.1:=⟨AX,by omega,by omega⟩;rw[cond_false,cond_false,r1,ap0];cases rx !=0 with
    |true=>rfl
    |false=>
     rw[cond_false,cond_false];unfold C7;rw[ap0,Wc N D.1 hD,ap0,Y9 N (by omega) D.1 hD,ap0];exact WL N hN mem hm env he d H D hD JB R hR Wv [] _ 0 [] [] (by omega) rfl (CK.nil mem)
theorem aeF(N:Nat)(hN:2147483648<N)(p:aV)(env:aqP aJ)(B:Bd N p)(hw:∀c∈p.dM,c.bo.xL.length<=4611686018427387904):∃x,BB N p env=some x/\(x=0->Kf p env=0/\VQ N p/\∀i d,p.aG[i]?=some d->nN p i d):=by
 obtain⟨a,x,J,h2,h3⟩:=agR hN B;unfold BB;rw[J,alW N hN env p hw,ap0];cases hx:(x !=0)with
 |true=>exact⟨x,rfl,λh=>by rw[h]at hx;cases hx⟩
 |false=>
  have nx:x=0:=by simpa using hx
  subst nx;exact⟨Kf p env,rfl,λh=>⟨h,agk (by omega) B h2,h3 rfl⟩⟩
theorem amz{N:Nat}{p:aV}{env:aqP aJ}(W:Lw N p env)(V:VQ N p)(G:∀i d,p.aG[i]?=some d->nN p i d)(mem:aqP aI)(hm:mem.length<=4611686018427387904){i:Nat}{d:bB}(hd:p.aG[i]?=some d):∃rx,(rx=0->∀s∈uu d.bP,xO p mem s)/\zy N p env mem (i:Int)=some (pz p env mem d rx):=by
 have gu:=aqe hd;have he:=W.env;exact al7 N W.hN p env (by omega) mem hm W.bd hd (G i d hd) (Ro W.hN W.bd V hd (G i d hd) (W.sh.D d gu).body (W.size d gu)) (W.sh.D d gu).body
theorem D8(s:aqQ):∀a b:aqP aI,eO (a++b) s=(eO a s).or (eO b s)
 |[],b=>by rw[List.nil_append,eO,Option.none_or]
 |x::a,b=>by
  rw[List.cons_append,eO,eO,D8 s a b];cases bL x.au==bL s<;>rfl
theorem abI{s:aqQ}:∀{l:aqP aI},(∀x∈l,(bL x.au==bL s)=false)->eO l s=none
 |[],_=>rfl
 |x::l,h=>by rw[eO,h x ap7,cond_false];exact abI λy hy=>h y (aqa _ hy)
set_option linter.unusedSectionVars false
def P3(n:Int):aA×Int:=bif decide (-2147483647<=n)&&decide (n<=2147483647)then(⟨Int64.ofInt n,1⟩,0)else(cP,3)
theorem amD{n:Int}(h:(P3 n).2=0): -2147483647<=n/\n<=2147483647/\(P3 n).1=⟨Int64.ofInt n,1⟩:=by
 unfold P3 at h ⊢;cases hc:(decide (-2147483647<=n)&&decide (n<=2147483647))with
 |false=>rw[hc]at h;cases h
 |true=>
  rw[ap3,decide_eq_true_eq,decide_eq_true_eq]at hc;exact⟨hc.1,hc.2,rfl⟩
theorem WV{t:aF}(F:wM t)(n:Int):(mS t n).xN.toInt=sk (t.ck==2) (fixH t) n:=by
 have hH:=CT F;have:=XW (w:=t.ck==2) (h:=fixH t) (n:=n) (by omega);exact na (by omega) (by omega)
theorem Wz{t:aF}(F:wM t)(n:Int):K5 t (mS t n):=by
 have hH:=CT F;have:=XW (w:=t.ck==2) (h:=fixH t) (n:=n) (by omega);exact⟨rfl,by rw[WV F];exact this.1,by rw[WV F];exact this.2⟩
theorem aaZ{t:aF}(hk:t.bg=2){v:aA}(V:K5 t v):cJ t v=true:=by
 unfold cJ;have J:=V.n1;have h2:=V.n2;unfold fixH at J h2;rw[hk,V.d,show((2:Int)==2)=true from rfl,cond_true,aqI J,aqI (by omega)];rfl
theorem QS{t:aF}(hk:t.bg=1){v:aA}(V:jo v):cJ t v=true:=by
 unfold cJ;rw[hk,show((1:Int)==2)=false from rfl,cond_false,aqI V.n1,aqI V.n2,aqI V.d1,aqI V.d2,V.g];rfl
theorem ZV{t:aF}(hk:t.bg=3){n:Int}(J: -2147483647<=n)(h2:n<=2147483647):cJ t ⟨Int64.ofInt n,1⟩=true:=by
 unfold cJ;have e:=na (n:=n) (by omega) (by omega);simp only[e];rw[hk,show((3:Int)==2)=false from rfl,cond_false,aqI J,aqI h2];rfl
section
variable {t:aF} {a b c:aA} (ht:cZ t=true) (ha:cJ t a=true) (hb:cJ t b=true)
include ht ha
theorem aix(hk:t.bg=1):jo (⟨-a.xN,a.xD⟩:aA)/\(⟨-a.xN,a.xD⟩:aA).xN.toInt= -a.xN.toInt:=by
 have A:=rh ha (by omega);have J:=A.n1;have h2:=A.n2;have e:(-a.xN).toInt= -a.xN.toInt:=HK (by omega);refine⟨⟨by show _<=(-a.xN).toInt;omega,by show(-a.xN).toInt<=_;omega,A.d1,A.d2,?_⟩,e⟩;show Nat.gcd (-a.xN).toInt.natAbs _=1;rw[e,Int.natAbs_neg];exact A.g
end
section
variable {t:aF} {a:aA} (ht:cZ t=true) (ha:cJ t a=true)
include ht ha
end
theorem HQ{t:aF}(hk:t.bg=1){n d:Int}(h:(kG n d).2=0):cJ t (kG n d).1=true:=by
 obtain⟨x,hx⟩:∃x,kG n d=(x,0):=⟨_,Prod.ext rfl h⟩;have L:=UA hx;rw[hx];exact QS hk ⟨L.n1,L.n2,L.d1,L.d2,L.g⟩
theorem E4{op:Int}{t:aF}{a b:aA}(h:(kD op t a b).2=0):cZ t=true/\cJ t a=true/\cJ t (kD op t a b).1=true:=by
 unfold kD at h ⊢;cases J:(decide (op<4)||decide (op>10))with
 |true=>rw[J]at h;cases h
 |false=>
  rw[J,cond_false]at h;rw[aqO,decide_eq_false_iff_not,decide_eq_false_iff_not]at J;cases ht:cZ t with
  |false=>rw[ht]at h;cases h
  |true=>
   rw[ht,Bool.not_true,cond_false]at h;cases ha:cJ t a with
   |false=>rw[ha]at h;cases h
   |true=>
    rw[ha,Bool.not_true,Bool.false_or]at h;cases hb:(!(op==8)&& !cJ t b)with
    |true=>rw[hb]at h;cases h
    |false=>
     rw[hb,cond_false]at h;simp only[cond_false,Bool.not_true,Bool.false_or,true_and];cases h9:(op==9)with
     |true=>
      rw[beq_iff_eq]at h9;subst h9;have fE:cJ t b=true:=by simpa using hb
      rw[cond_true];dsimp only;cases decide (pc t a b>0)
      ·exact ha
      ·exact fE
     |false=>
      rw[h9,cond_false]at h;rw[cond_false];cases bE:(op==10)with
      |true=>
       rw[beq_iff_eq]at bE;subst bE;have fE:cJ t b=true:=by simpa using hb
       rw[cond_true];dsimp only;cases decide (pc t a b<0)
       ·exact ha
       ·exact fE
      |false=>
       rw[bE,cond_false]at h;rw[cond_false];rcases kinds ht with hk|hk|hk
       ·rw[hk,show((1:Int)==2)=false from rfl,cond_false,show((1:Int)==3)=false from rfl,cond_false]at h ⊢;unfold xY at h ⊢;cases e4:(op==4)with
        |true=>rw[e4,cond_true]at h;exact HQ hk h
        |false=>
         rw[e4,cond_false]at h;rw[cond_false];cases e5:(op==5)with
         |true=>rw[e5,cond_true]at h;exact HQ hk h
         |false=>
          rw[e5,cond_false]at h;rw[cond_false];cases e6:(op==6)with
          |true=>rw[e6,cond_true]at h;exact HQ hk h
          |false=>
           rw[e6,cond_false]at h;rw[cond_false];cases e7:(op==7)with
           |true=>rw[e7,cond_true]at h;exact HQ hk h
           |false=>exact QS hk (aix ht ha hk).1
       ·rw[hk,show((2:Int)==2)=true from rfl,cond_true]at h ⊢;have F:=λn=>aaZ hk (Wz (l7 ht hk) n);unfold J5 at h ⊢;cases e4:(op==4)with
        |true=>exact F _
        |false=>
         cases e5:(op==5)with
         |true=>exact F _
         |false=>
          cases e6:(op==6)with
          |true=>exact F _
          |false=>
           cases e8:(op==8)with
           |true=>exact F _
           |false=>
            rw[e4,e5,e6,e8,cond_false,cond_false,cond_false,cond_false]at h;cases e0:(b.xN.toInt==0)with
            |true=>rw[e0]at h;cases h
            |false=>exact F _
       ·rw[hk,show((3:Int)==2)=false from rfl,cond_false,show((3:Int)==3)=true from rfl,cond_true]at h ⊢;unfold xp at h ⊢;cases e7:(op==7&&b.xN.toInt==0)with
        |true=>rw[e7]at h;cases h
        |false=>
         rw[e7,cond_false]at h;rw[cond_false];obtain⟨q1,q2,q3⟩:=amD h;exact(congrArg (cJ t ·) q3).trans (ZV hk q1 q2)
theorem agl{s t:aF}{v:aA}(h:(tL s t v).2=0):cZ t=true/\cJ t (tL s t v).1=true:=by
 unfold tL at h ⊢;cases hs:cZ s with
 |false=>rw[hs]at h;cases h
 |true=>
  cases ht:cZ t with
  |false=>rw[hs,ht]at h;cases h
  |true=>
   rw[hs,ht,Bool.not_true,Bool.or_self,cond_false]at h;rw[Bool.not_true,Bool.or_self,cond_false];cases hv:cJ s v with
   |false=>rw[hv]at h;cases h
   |true=>
    have R:=Ua hs hv;have r1:=R.n1;have r2:=R.n2;have r3:=R.d1;rw[Bool.not_true,cond_false];dsimp only;refine⟨rfl,?_⟩;rcases kinds ht with hk|hk|hk
    ·rw[hk];exact QS hk R
    ·rw[hk];exact aaZ hk (Wz (l7 ht hk) _)
    ·rw[hk];have q1:(qP s v).xN.toInt /(qP s v).xD.toInt<=2147483647:=by
       refine Int.ediv_le_of_le_mul (by omega) ?_;have:=Int.mul_le_mul_of_nonneg_left r3 (show(0:Int)<=2147483647 by decide);omega
     have q2: -2147483647<=(qP s v).xN.toInt /(qP s v).xD.toInt:=by
      refine(Int.le_ediv_iff_mul_le (by omega)).2 ?_;have:=Int.mul_le_mul_of_nonneg_left r3 (show(0:Int)<=2147483647 by decide);omega
     exact ZV hk q2 q1
theorem TS{α β:Type}{b:Bool}{x:Except α β}{e:α}{y:β}(h:(bif b then x else .error e)= .ok y):b=true/\x= .ok y:=by
 cases b with
 |true=>exact⟨rfl,h⟩
 |false=>cases h
theorem CP{α β:Type}{r:Except Int α}{f:α->Except Int β}{y:β}(h:jm r f= .ok y):∃x,r= .ok x/\f x= .ok y:=by
 cases r with
 |error z=>cases h
 |ok x=>exact⟨x,rfl,h⟩
theorem TX{t:aF}{r:aA×Int}{x:aA×aF}(h:oF t r= .ok x):r.2=0/\x=(r.1,t):=by
 unfold oF at h;cases hz:r.2 !=0 with
 |true=>rw[hz]at h;cases h
 |false=>rw[hz]at h;cases h;exact⟨by simpa using hz,rfl⟩
theorem O5{op:Int}{i:Nat}(h:op≠11\/i≠0)(cM:op<16):kW op i=false:=by
 unfold kW;rw[show(op==16)=false by rw[beq_eq_false_iff_ne];omega,show(op==17)=false by rw[beq_eq_false_iff_ne];omega,show(op==18)=false by rw[beq_eq_false_iff_ne];omega];rcases h with h|h
 ·rw[show(op==11)=false by rw[beq_eq_false_iff_ne];exact h];rfl
 ·rw[show(i==0)=false by rw[beq_eq_false_iff_ne];exact h,Bool.and_false];rfl
theorem Ev.c1{e a:aw}(H:Ev e)(ha:e.bJ=[a])(ho:e.az<16)(bD:e.az≠11):eE a=false:=by
 rw[H.n.want 0 a (by rw[ha];rfl)];exact O5 (.inl bD) ho
theorem Ev.c2{e a b:aw}(H:Ev e)(ha:e.bJ=[a,b])(ho:e.az<16)(bD:e.az≠11):eE a=false/\eE b=false:=by
 refine⟨?_,?_⟩
 ·rw[H.n.want 0 a (by rw[ha];rfl)];exact O5 (.inl bD) ho
 ·rw[H.n.want 1 b (by rw[ha];rfl)];exact O5 (.inl bD) ho
theorem Ev.c3{e c a b:aw}(H:Ev e)(ha:e.bJ=[c,a,b])(ho:e.az=11):eE c=true/\eE a=false/\eE b=false:=by
 refine⟨?_,?_,?_⟩
 ·rw[H.n.want 0 c (by rw[ha];rfl),ho];rfl
 ·rw[H.n.want 1 a (by rw[ha];rfl),ho];rfl
 ·rw[H.n.want 2 b (by rw[ha];rfl),ho];rfl
theorem Ev.k1{e a:aw}(H:Ev e)(ha:e.bJ=[a])(ho:e.az=18):eE a=true:=by
 rw[H.n.want 0 a (by rw[ha];rfl),ho];rfl
theorem Ev.k2{e a b:aw}(H:Ev e)(ha:e.bJ=[a,b])(ho:e.az=16\/e.az=17):eE a=true/\eE b=true:=by
 refine⟨?_,?_⟩
 ·rw[H.n.want 0 a (by rw[ha];rfl)];rcases ho with h|h<;>rw[h]<;>rfl
 ·rw[H.n.want 1 b (by rw[ha];rfl)];rcases ho with h|h<;>rw[h]<;>rfl
theorem RU{e a:aw}(ha:e.bJ=[a]):SizeOf.sizeOf a<SizeOf.sizeOf e:=og (by rw[ha];simp)
theorem TM{e a b:aw}(ha:e.bJ=[a,b]):SizeOf.sizeOf a<SizeOf.sizeOf e/\SizeOf.sizeOf b<SizeOf.sizeOf e:=⟨og (by rw[ha];simp),og (by rw[ha];simp)⟩
theorem Vm{e c a b:aw}(ha:e.bJ=[c,a,b]):SizeOf.sizeOf c<SizeOf.sizeOf e/\SizeOf.sizeOf a<SizeOf.sizeOf e/\SizeOf.sizeOf b<SizeOf.sizeOf e:=⟨og (by rw[ha];simp),og (by rw[ha];simp),og (by rw[ha];simp)⟩
theorem Ev.a1{e a:aw}(H:Ev e)(ha:e.bJ=[a]):Ev a:=H.arg (by rw[ha];simp)
theorem Ev.a2{e a b:aw}(H:Ev e)(ha:e.bJ=[a,b]):Ev a/\Ev b:=⟨H.arg (by rw[ha];simp),H.arg (by rw[ha];simp)⟩
theorem Ev.a3{e c a b:aw}(H:Ev e)(ha:e.bJ=[c,a,b]):Ev c/\Ev a/\Ev b:=⟨H.arg (by rw[ha];simp),H.arg (by rw[ha];simp),H.arg (by rw[ha];simp)⟩
section
variable {mem:aqP aI} {env:aqP aJ}
theorem XE{e a:aw}{x:aA×aF}(ha:e.bJ=[a])(ho:e.az=12)(h:dT mem env e= .ok x):∃y,dT mem env a= .ok y/\(tL y.2 e.ax y.1).2=0/\x=((tL y.2 e.ax y.1).1,e.ax):=by
 rw[zx (by omega) ha]at h;obtain⟨y,J,h2⟩:=CP h;rw[ho,show((12:Int)==12)=true from rfl,cond_true]at h2;exact⟨y,J,TX h2⟩
theorem WW{e a:aw}{x:aA×aF}(ha:e.bJ=[a])(ho:e.az=8)(h:dT mem env e= .ok x):∃y,dT mem env a= .ok y/\(kD 8 y.2 y.1 y.1).2=0/\x=((kD 8 y.2 y.1 y.1).1,y.2):=by
 rw[zx (by omega) ha]at h;obtain⟨y,J,h2⟩:=CP h;rw[ho,show((8:Int)==12)=false from rfl,cond_false]at h2;exact⟨y,J,TX h2⟩
theorem Zy{e a b:aw}{x:aA×aF}(ha:e.bJ=[a,b])(ho:¬e.az<=3)(h:dT mem env e= .ok x):∃y z,dT mem env a= .ok y/\dT mem env b= .ok z/\y.2=z.2/\(kD e.az y.2 y.1 z.1).2=0/\x=((kD e.az y.2 y.1 z.1).1,y.2):=by
 rw[Sn ho ha]at h;obtain⟨y,J,h2⟩:=CP h;obtain⟨z,h3,h4⟩:=CP h2;obtain⟨h5,h6⟩:=TS h4;exact⟨y,z,J,h3,Dr.1 h5,TX h6⟩
theorem acS{e c a b:aw}{x:aA×aF}(ha:e.bJ=[c,a,b])(ho:¬e.az<=3)(h:dT mem env e= .ok x):∃t,kN mem env c= .ok t/\(bif t then dT mem env a else dT mem env b)= .ok x:=by
 rw[NN ho ha]at h;exact CP h
theorem QP:∀(n:Nat)(e:aw),SizeOf.sizeOf e<=n->Ev e->eE e=false->∀x,dT mem env e= .ok x->cZ x.2=true/\cJ x.2 x.1=true
 |0,e,hn,_,_,_,_=>by cases e;simp at hn
 |n+1,e,hn,H,hc,x,hx=>by
  rcases kd H.n hc with h|⟨a,ha,ho⟩|⟨a,ha,ho⟩|⟨a,b,ha,ho⟩|⟨c,a,b,ha,ho⟩
  ·rw[HT h]at hx;exact aac H.n.lit hx
  ·obtain⟨y,J,h2,rfl⟩:=XE ha ho hx;exact agl h2
  ·obtain⟨y,J,h2,rfl⟩:=WW ha ho hx;exact⟨(E4 h2).1,(E4 h2).2.2⟩
  ·obtain⟨y,z,J,h2,h3,h4,rfl⟩:=Zy ha (by omega) hx;exact⟨(E4 h4).1,(E4 h4).2.2⟩
  ·obtain⟨t,J,h2⟩:=acS ha (by omega) hx;have s3:=Vm ha;have c3:=H.c3 ha ho;have a3:=H.a3 ha;cases t with
   |true=>exact QP n a (by omega) a3.2.1 c3.2.1 x h2
   |false=>exact QP n b (by omega) a3.2.2 c3.2.2 x h2
theorem aj2{e:aw}{x:aA×aF}(H:Ev e)(hc:eE e=false)(hx:dT mem env e= .ok x):cZ x.2=true/\cJ x.2 x.1=true:=QP _ e (aqc _) H hc x hx
end
theorem Yq(N:Nat)(e:aw)(p:aV)(vars:aqP aqQ)(rec:aV->aqP aqQ->aw->aqR (aF×Int)):
 ∀(l:aqP aw)(k:Nat)(acc:aqP aF)(t:aF),mh N e p vars rec l k acc=some (t,0)->
  ∃ts:aqP aF,ts.length=l.length/\(∀(i:Nat)(x:aw),l[i]?=some x->∃u,ts[i]?=some u/\rec p vars x=some (u,0))/\∃k',mh N e p vars rec [] k' (acc++ts)=some (t,0)
 |[],k,acc,t,h=>⟨[],rfl,λi x hx=>by simp at hx,k,by rw[aqm];exact h⟩
 |x::l,k,acc,t,h=>by
  rw[mh]at h;cases hr:rec p vars x with
  |none=>rw[hr]at h;cases h
  |some q=>
   rw[hr,ap0]at h;cases hz:q.2 !=0 with
   |true=>rw[hz,cond_true]at h;rw[(Prod.mk.inj (aqk h)).2]at hz;cases hz
   |false=>
    rw[hz,cond_false]at h;cases hb:Nat.ble ((acc.length+1)*40) 140737488355328 with
    |false=>rw[hb]at h;cases h
    |true=>
     rw[hb,cond_true]at h;obtain⟨ts,J,h2,k',h3⟩:=Yq N e p vars rec l (k+1) (acc++[q.1]) t h;refine⟨q.1::ts,by simp [J],λi y hy=> ?_,k',by rw[aqi]at h3;exact h3⟩;cases i with
     |zero=>
      cases hy
      refine⟨q.1,rfl,?_⟩;rw[hr];have:=jd hz;exact congrArg some (Prod.ext rfl this)
     |succ i=>exact h2 i y (by simpa using hy)
theorem F7(N:Nat)(p:aV)(vars:aqP aqQ)(mem:aqP aI)(env:aqP aJ)(la:gQ p.aG):∀(d:Nat)(e:aw)(t:aF),tW N d p vars e=some (t,0)->Ev e->eE e=false->
 (∀y∈dF e,y.az=3->∀T,eO mem y.au=some T->T.ax=(dy p.aX p.aG y.au).1)->∀x,dT mem env e= .ok x->x.2=t
 |0,e,t,h,_,_,_,_,_=>by cases h
 |d+1,e,t,h,H,hc,hr,x,hx=>by
  rw[tW]at h;obtain⟨ts,J,h2,k',h3⟩:=Yq N e p vars _ _ _ _ _ h;rw[List.nil_append]at h3;rw[mh]at h3;have sub {a:aw} (ha:a∈e.bJ):∀y∈dF a,y.az=3->∀T,eO mem y.au=some T->T.ax=(dy p.aX p.aG y.au).1:=λy hy=>hr y (zC ha hy);rcases kd H.n hc with k0|⟨a,ha,ho⟩|⟨a,ha,ho⟩|⟨a,b,ha,ho⟩|⟨c,a,b,ha,ho⟩
  ·have hl:=H.n.lo;have:e.az=1\/e.az=2\/e.az=3:=by omega
   rw[HT k0]at hx;unfold rG at hx;rcases this with ho|ho|ho
   ·rw[ho]at hx h3;cases hx
    have h4:some (e.ax,(0:Int))=some (t,0):=h3;cases h4;rfl
   ·rw[ho,show((2:Int)==1)=false from rfl,show((2:Int)==2)=true from rfl,cond_false,cond_true]at hx;rw[ho,M9]at h3;have h4:some (KK,ga (nU (vars++p.bm)) [e.bo])=some (t,(0:Int)):=h3;have h5:KK=t:=congrArg (λq:aqR (aF×Int)=>(q.getD (dR,0)).1) h4;cases h6:(de e.bo env).2 !=0 with
    |true=>rw[h6]at hx;cases hx
    |false=>
     rw[h6,cond_false]at hx;cases h7:(decide ((de e.bo env).1.toInt>2147483647)||decide ((de e.bo env).1.toInt< -2147483647))with
     |true=>rw[h7]at hx;cases hx
     |false=>rw[h7]at hx;cases hx;exact h5
   ·rw[ho,show((3:Int)==1)=false from rfl,show((3:Int)==2)=false from rfl,cond_false,cond_false]at hx;rw[ho,Ov N vars p la]at h3;have h4:some (vu (dy p.aX p.aG e.au).1 (sE (vars++p.bm) p.aX p.aG e))=some (t,(0:Int)):=h3;have h5:=aqk h4;have h6:=abB h5;rw[h6]at h5;have h7:(dy p.aX p.aG e.au).1=t:=congrArg Prod.fst h5;unfold AU at hx;cases kt:nG mem e.au with
    |error z=>rw[kt]at hx;cases hx
    |ok T=>
     rw[kt]at hx;dsimp only at hx;have hT:=hr e ap7 ho T (JR kt).1;cases oc:((e.xIdx.length:Int) !=(T.aS.length:Int))with
     |true=>rw[oc]at hx;cases hx
     |false=>
      rw[oc,cond_false]at hx;cases hp:o0 mem env e.xIdx T.aS 0 with
      |error z=>rw[hp]at hx;cases hx
      |ok c=>
       rw[hp]at hx;dsimp only at hx;cases hv:T.dn[c.toNat]? with
       |none=>rw[hv]at hx;cases hx
       |some v=>rw[hv]at hx;cases hx;exact hT.trans h7
  ·rw[ho]at h3;have h4:some (e.ax,(0:Int))=some (t,0):=h3;cases h4
   obtain⟨y,y1,y2,rfl⟩:=XE ha ho hx;rfl
  ·obtain⟨u,u1,u2⟩:=h2 0 a (by rw[ha];rfl);rw[ho]at h3;have h4:(Option.bind ts[0]? λaQ=>some (aQ,(0:Int)))=some (t,0):=h3;rw[u1]at h4;cases h4
   obtain⟨y,y1,y2,rfl⟩:=WW ha ho hx;exact F7 N p vars mem env la d a _ u2 (H.a1 ha) (H.c1 ha (by omega) (by omega)) (sub (by rw[ha];simp)) y y1
  ·obtain⟨u,u1,u2⟩:=h2 0 a (by rw[ha];rfl);obtain⟨w,w1,w2⟩:=h2 1 b (by rw[ha];rfl);have h4:(Option.bind ts[0]? λbu=>Option.bind ts[1]? λbG=>bif iH bu bG then some (bu,(0:Int))else some (dR,10))=some (t,0):=by
    have:e.az=4\/e.az=5\/e.az=6\/e.az=7\/e.az=9\/e.az=10:=by omega
    rcases this with h|h|h|h|h|h<;>rw[h]at h3<;>exact h3
   rw[u1,w1]at h4;have h5:(bif iH u w then some (u,(0:Int))else some (dR,10))=some (t,0):=h4;obtain⟨y,z,y1,z1,y2,y3,rfl⟩:=Zy ha (by omega) hx;cases hb:iH u w with
   |false=>rw[hb]at h5;cases h5
   |true=>
    rw[hb]at h5;cases h5
    exact F7 N p vars mem env la d a _ u2 (H.a2 ha).1 (H.c2 ha (by omega) (by omega)).1 (sub (by rw[ha];simp)) y y1
  ·obtain⟨u,u1,u2⟩:=h2 1 a (by rw[ha];rfl);obtain⟨w,w1,w2⟩:=h2 2 b (by rw[ha];rfl);have h4:(Option.bind ts[1]? λbu=>Option.bind ts[2]? λbG=>bif iH bu bG then some (bu,(0:Int))else some (dR,10))=some (t,0):=by
    rw[ho]at h3;exact h3
   rw[u1,w1]at h4;have h5:(bif iH u w then some (u,(0:Int))else some (dR,10))=some (t,0):=h4;obtain⟨s,s1,s2⟩:=acS ha (by omega) hx;cases hb:iH u w with
   |false=>rw[hb]at h5;cases h5
   |true=>
    have e1:=Dr.1 hb;rw[hb]at h5;cases h5
    cases s with
    |true=>exact F7 N p vars mem env la d a _ u2 (H.a3 ha).2.1 (H.c3 ha ho).2.1 (sub (by rw[ha];simp)) x s2
    |false=>exact(F7 N p vars mem env la d b _ w2 (H.a3 ha).2.2 (H.c3 ha ho).2.2 (sub (by rw[ha];simp)) x s2).trans e1.symm
theorem aft(P:aqP eN)(D:aqP bB)(k:Nat)(s:aqQ)(h:(dy P (D.take k) s).2.2=true):dy P D s=dy P (D.take k) s:=by
 unfold dy at h ⊢;cases hp:P.find? (λx=>bL x.au==bL s)with
 |some x=>rfl
 |none=>
  rw[hp]at h;dsimp only at h ⊢;cases hd:(D.take k).find? (ik s)with
  |none=>rw[hd]at h;cases h
  |some d=>
   have:D.find? (ik s)=some d:=by
    rw[<-aqE k D,List.find?_append,hd];rfl
   rw[this]
theorem aaC{y:aw}(ho:y.az=3):∀{l:aqP aw},y∈l->y.au∈pn l
 |x::l,h=>by
  rw[pn];rcases aqv.1 h with rfl|h
  ·refine List.mem_append_left _ ?_;unfold HZ;rw[ho];exact List.mem_append_left _ ap7
  ·exact List.mem_append_right _ (aaC ho h)
theorem akN{e y:aw}(hy:y∈dF e)(ho:y.az=3):y.au∈uu e:=(ane _).2 _|>.2 (aaC ho hy)
theorem aje{N:Nat}(hN:9223372036854775808<N){p:aV}(B:Bd N p)(V:VQ N p){k:Nat}{d:bB}(hd:p.aG[k]?=some d)(G:nN p k d)(H:Df N d)(hl:hO 400 d.bP){mem:aqP aI}(hr:∀s∈uu d.bP,xO p mem s){env:aqP aJ}{x:aA×aF}(hx:dT mem env d.bP= .ok x):x.2=d.ax/\cJ d.ax x.1=true:=by
 have Q:=V.defs k d hd;obtain⟨t,J,h2⟩:=Q.tp;have h2:=Dr.1 (show iH t d.ax=true from h2);subst h2;have hs:=H.size;unfold vg at J;rw[QE N (by omega) d.bP (by omega) (hl.mV (by decide)),ap0,G.body,show((0:Int) !=0)=false from rfl,cond_false,GU,H.cond,ap0,cond_false]at J;cases hn:EY N (⟨p.bm,[],p.aX,((p.aG.take k).drop 0),[]⟩:aV) (Ct d) d.bP with
 |none=>rw[hn]at J;cases J
 |some q=>
  rw[hn,ap0]at J;cases hz:q.2 !=0 with
  |true=>rw[hz,cond_true]at J;rw[(Prod.mk.inj (aqk J)).2]at hz;cases hz
  |false=>
   rw[hz,cond_false]at J;have e1:q.1=d.ax:=congrArg (λq:aqR (aF×Int)=>(q.getD (dR,0)).1) J;have eX:tW N N (⟨p.bm,[],p.aX,((p.aG.take k).drop 0),[]⟩:aV) (Ct d) d.bP=some (d.ax,0):=by
     refine Eq.trans hn ?_;rw[<-e1];exact congrArg some (Prod.ext rfl (jd hz))
   have e2:=F7 N _ (Ct d) mem env (show gQ ((p.aG.take k).drop 0)from Q0 B.D k) N d.bP d.ax eX H.ev H.cond (λy hy ho T hT=>by
    obtain⟨T',t1,t2,t3⟩:=hr y.au (akN hy ho);rw[hT]at t1;cases t1
    rw[t3];have r1:=G.reads y hy ho;have:(dy p.aX (p.aG.take k) y.au).2.2=true:=by
      unfold sE at r1;cases hf:(dy p.aX (p.aG.take k) y.au).2.2 with
      |true=>rfl
      |false=>rw[hf]at r1;cases r1
    exact congrArg Prod.fst (aft _ _ k _ this)) x hx
   have g:=aj2 H.ev H.cond hx;rw[e2]at g;exact⟨e2,g.2⟩
theorem adb{f:Int}{t:aF}{a b v:aA}(h:mL f t a b= .ok v):cJ t v=true:=by
 unfold mL at h;obtain⟨J,h⟩:=TS h;obtain⟨h2,h⟩:=TS h;cases hz:(kD (sQ f) t a b).2 !=0 with
 |true=>rw[hz]at h;cases h
 |false=>
  rw[hz]at h;cases h
  exact(E4 (by simpa using hz)).2.2
theorem PI{f:aqP Int->Except Int (aA×aF)}{d:bB}(hf:∀q x,f q= .ok x->cJ d.ax x.1=true):∀(l:aqP (aqP Int))(acc:aqR aA)(v:aA),(∀a,acc=some a->cJ d.ax a=true)->(l≠ []\/acc≠none)->rC f d l acc= .ok v->cJ d.ax v=true
 |[],acc,v,ha,hl,h=>by
  cases acc with
  |none=>rcases hl with h|h<;>exact absurd rfl h
  |some a=>cases h;exact ha a rfl
 |q::l,acc,v,ha,hl,h=>by
  rw[rC]at h;cases hq:f q with
  |error z=>rw[hq]at h;cases h
  |ok x=>
   rw[hq]at h;cases acc with
   |none=>exact PI hf l (some x.1) v (λa e=>by cases e;exact hf q x hq) (.inr (by simp)) h
   |some a=>
    dsimp only at h;cases hr:mL d.dj d.ax a x.1 with
    |error z=>rw[hr]at h;cases h
    |ok w=>
     rw[hr]at h;exact PI hf l (some w) v (λa e=>by cases e;exact adb hr) (.inr (by simp)) h
theorem P4{f:aqP Int->Except Int aA}{d:bB}(hf:∀q v,f q= .ok v->cJ d.ax v=true):∀(l:aqP (aqP Int))(acc vs:aqP aA),(∀a∈acc,cJ d.ax a=true)->nC f d l acc= .ok vs->∀a∈vs,cJ d.ax a=true
 |[],acc,vs,ha,h=>by cases h;exact ha
 |q::l,acc,vs,ha,h=>by
  rw[nC]at h;cases hq:f q with
  |error z=>rw[hq]at h;cases h
  |ok v=>
   rw[hq]at h;dsimp only at h;cases hb:(d.dj==5&&decide (Gq q>0))with
   |false=>
    rw[hb,cond_false]at h;refine P4 hf l _ vs (λa h'=> ?_) h;rcases aqD.1 h' with h'|h'
    ·exact ha a h'
    ·rcases List.mem_singleton.1 h' with rfl;exact hf q a hq
   |true=>
    rw[hb,cond_true]at h;cases hw:acc[acc.length-1]? with
    |none=>rw[hw]at h;cases h
    |some w=>
     rw[hw]at h;dsimp only at h;cases hr:mL 1 d.ax w v with
     |error z=>rw[hr]at h;cases h
     |ok u=>
      rw[hr]at h;refine P4 hf l _ vs (λa h'=> ?_) h;rcases aqD.1 h' with h'|h'
      ·exact ha a h'
      ·rcases List.mem_singleton.1 h' with rfl;exact adb hr
theorem adk:∀l:aqP Int,l.foldl (·*·) 1=cX l
 |[]=>rfl
 |x::l=>by rw[Nl,cX,adk l]
theorem ak3{mem:aqP aI}{env:aqP aJ}{e:aw}{z:Int}(h:rG mem env e= .error z):z≠0:=by
 unfold rG at h;cases k1:(e.az==1)with
 |true=>rw[k1]at h;cases h
 |false=>
  rw[k1,cond_false]at h;cases k2:(e.az==2)with
  |true=>
   rw[k2,cond_true]at h;cases he:((de e.bo env).2 !=0)with
   |true=>rw[he]at h;cases h;simpa using he
   |false=>
    rw[he,cond_false]at h;cases hc:(decide ((de e.bo env).1.toInt>2147483647)||decide ((de e.bo env).1.toInt< -2147483647))with
    |true=>rw[hc]at h;cases h;decide
    |false=>rw[hc]at h;cases h
  |false=>
   rw[k2,cond_false]at h;unfold AU at h;cases kt:nG mem e.au with
   |error y=>rw[kt]at h;cases h;exact ace kt
   |ok t=>
    rw[kt]at h;dsimp only at h;cases oc:((e.xIdx.length:Int) !=(t.aS.length:Int))with
    |true=>rw[oc]at h;cases h;decide
    |false=>
     rw[oc,cond_false]at h;cases hp:o0 mem env e.xIdx t.aS 0 with
     |error y=>rw[hp]at h;cases h;exact YZ mem env _ _ _ _ hp
     |ok c=>
      rw[hp]at h;dsimp only at h;cases hv:t.dn[c.toNat]? with
      |none=>rw[hv]at h;cases h;decide
      |some v=>rw[hv]at h;cases h
theorem qW{α β:Type}{r:Except Int α}{f:α->Except Int β}{z:Int}(h:jm r f= .error z):r= .error z\/∃x,r= .ok x/\f x= .error z:=by
 cases r with
 |error y=>exact .inl (by cases h;rfl)
 |ok x=>exact .inr ⟨x,rfl,h⟩
theorem Pj{t:aF}{r:aA×Int}{z:Int}(h:oF t r= .error z):z≠0:=by
 unfold oF at h;cases hz:r.2 !=0 with
 |true=>rw[hz]at h;cases h;simpa using hz
 |false=>rw[hz]at h;cases h
theorem vr{α:Type}{b:Bool}{x y:Except Int α}{z:Int}(h:(bif b then x else y)= .error z):x= .error z\/y= .error z:=by
 cases b with
 |true=>exact .inl h
 |false=>exact .inr h
theorem oz{mem:aqP aI}{env:aqP aJ}:∀(n:Nat)(e:aw),SizeOf.sizeOf e<=n->Ev e->(∀z,dT mem env e= .error z->eE e=false->z≠0)/\(∀z,kN mem env e= .error z->eE e=true->z≠0)
 |0,e,hn,_=>by cases e;simp at hn
 |n+1,e,hn,H=>by
  refine⟨λz h hc=> ?_,λz h hc=> ?_⟩
  ·rcases kd H.n hc with k0|⟨a,ha,ho⟩|⟨a,ha,ho⟩|⟨a,b,ha,ho⟩|⟨c,a,b,ha,ho⟩
   ·rw[HT k0]at h;exact ak3 h
   ·have s1:=RU ha;rw[zx (by omega) ha]at h;rcases qW h with h|⟨x,_,h⟩
    ·exact(oz n a (by omega) (H.a1 ha)).1 z h (H.c1 ha (by omega) (by omega))
    ·rcases vr h with h|h<;>exact Pj h
   ·have s1:=RU ha;rw[zx (by omega) ha]at h;rcases qW h with h|⟨x,_,h⟩
    ·exact(oz n a (by omega) (H.a1 ha)).1 z h (H.c1 ha (by omega) (by omega))
    ·rcases vr h with h|h<;>exact Pj h
   ·have s2:=TM ha;have c2:=H.c2 ha (by omega) (by omega);rw[Sn (by omega) ha]at h;rcases qW h with h|⟨x,_,h⟩
    ·exact(oz n a (by omega) (H.a2 ha).1).1 z h c2.1
    ·rcases qW h with h|⟨y,_,h⟩
     ·exact(oz n b (by omega) (H.a2 ha).2).1 z h c2.2
     ·rcases vr h with h|h
      ·exact Pj h
      ·cases h;decide
   ·have s3:=Vm ha;have c3:=H.c3 ha ho;rw[NN (by omega) ha]at h;rcases qW h with h|⟨x,_,h⟩
    ·exact(oz n c (by omega) (H.a3 ha).1).2 z h c3.1
    ·rcases vr h with h|h
     ·exact(oz n a (by omega) (H.a3 ha).2.1).1 z h c3.2.1
     ·exact(oz n b (by omega) (H.a3 ha).2.2).1 z h c3.2.2
  ·rcases kc H.n hc with⟨a,ha,ho⟩|⟨a,b,ha,ho⟩|⟨a,b,ha,ho⟩
   ·have s1:=RU ha;rw[adw ha]at h;rcases qW h with h|⟨x,_,h⟩
    ·exact(oz n a (by omega) (H.a1 ha)).2 z h (H.k1 ha ho)
    ·cases h
   ·have s2:=TM ha;have c2:=H.c2 ha (by omega) (by omega);rw[M4 ha,aqI (show e.az<16 by omega),cond_true]at h;rcases qW h with h|⟨x,_,h⟩
    ·exact(oz n a (by omega) (H.a2 ha).1).1 z h c2.1
    ·rcases qW h with h|⟨y,_,h⟩
     ·exact(oz n b (by omega) (H.a2 ha).2).1 z h c2.2
     ·rcases vr h with h|h
      ·cases h
      ·cases h;decide
   ·have s2:=TM ha;have k2:=H.k2 ha ho;rw[M4 ha,aqJ (show ¬e.az<16 by omega),cond_false]at h;rcases qW h with h|⟨x,_,h⟩
    ·exact(oz n a (by omega) (H.a2 ha).1).2 z h k2.1
    ·rcases qW h with h|⟨y,_,h⟩
     ·exact(oz n b (by omega) (H.a2 ha).2).2 z h k2.2
     ·cases h
theorem aiK{mem:aqP aI}{env:aqP aJ}{z:Int}(n:Nat)(e:aw)(hn:SizeOf.sizeOf e<=n)(H:Ev e)(h:dT mem env e= .error z)(hc:eE e=false):z≠0:=(oz n e hn H).1 z h hc
theorem XX{f:Int}{t:aF}{a b:aA}{z:Int}(h:mL f t a b= .error z):z≠0:=by
 unfold mL at h;rcases vr h with h|h
 ·rcases vr h with h|h
  ·cases hz:(kD (sQ f) t a b).2 !=0 with
   |true=>rw[hz]at h;cases h;simpa using hz
   |false=>rw[hz]at h;cases h
  ·cases h;decide
 ·cases h;decide
theorem NZ{f:aqP Int->Except Int (aA×aF)}{d:bB}(hf:∀q z,f q= .error z->z≠0):∀(l:aqP (aqP Int))(acc:aqR aA)(z:Int),rC f d l acc= .error z->z≠0
 |[],acc,z,h=>by cases h
 |q::l,acc,z,h=>by
  rw[rC]at h;cases hq:f q with
  |error y=>rw[hq]at h;cases h;exact hf q _ hq
  |ok x=>
   rw[hq]at h;cases acc with
   |none=>exact NZ hf l _ z h
   |some a=>
    dsimp only at h;cases hr:mL d.dj d.ax a x.1 with
    |error y=>rw[hr]at h;cases h;exact XX hr
    |ok w=>rw[hr]at h;exact NZ hf l _ z h
theorem Rx{f:aqP Int->Except Int aA}{d:bB}(hf:∀q z,f q= .error z->z≠0):∀(l:aqP (aqP Int))(acc:aqP aA)(z:Int),nC f d l acc= .error z->z≠0
 |[],acc,z,h=>by cases h
 |q::l,acc,z,h=>by
  rw[nC]at h;cases hq:f q with
  |error y=>rw[hq]at h;cases h;exact hf q _ hq
  |ok v=>
   rw[hq]at h;dsimp only at h;rcases vr h with h|h
   ·cases hw:acc[acc.length-1]? with
    |none=>rw[hw]at h;cases h;decide
    |some w=>
     rw[hw]at h;dsimp only at h;cases hr:mL 1 d.ax w v with
     |error y=>rw[hr]at h;cases h;exact XX hr
     |ok u=>rw[hr]at h;exact Rx hf l _ z h
   ·exact Rx hf l _ z h
structure al4(p:aV)(env:List aJ)(d:bB)(T:aT):Prop where
 ok:jL T=true
 ty:T.ax=d.ax
 dm:T.aS=(eI p env d.au).1
 e0:(eI p env d.au).2.2=0
theorem alY{N:Nat}(hN:9223372036854775808<N){p:aV}{env:aqP aJ}(B:Bd N p)(V:VQ N p){i:Nat}{d:bB}(hd:p.aG[i]?=some d)(G:nN p i d)(H:Df N d)(hl:hO 400 d.bP){mem:aqP aI}{rx:Int}(hr:rx=0->∀s∈uu d.bP,xO p mem s)(h:(pz p env mem d rx).2=0):al4 p env d (pz p env mem d rx).1:=by
 unfold pz at h ⊢;cases J:((eI p env d.au).2.2 !=0)with
 |true=>rw[J,cond_true]at h;have h:(eI p env d.au).2.2=0:=h;rw[h]at J;cases J
 |false=>
  rw[J,cond_false]at h;rw[cond_false];rw[bne_eq_false_iff_eq]at J;obtain⟨d1,d2,d3⟩:=SR J;rw[Q9 hd G]at d1 d2;have JB:(eI p env d.au).1.length=d.aS.length:=by rw[d1,D7 env _ [] d2];simp
  have yg:∀x∈(eI p env d.au).1,1<=x/\x<=4096:=by rw[d1];exact Cr env _ [] λx hx=>by cases hx
  have FD:=H.l1;cases h2:((fP env (d.bR.map (·.dG)) []).2 !=0)with
  |true=>rw[h2,cond_true]at h;have h:(fP env (d.bR.map (·.dG)) []).2=0:=h;rw[h]at h2;cases h2
  |false=>
   rw[h2,cond_false]at h;rw[cond_false];have AX:∀x∈(fP env (d.bR.map (·.dG)) []).1,1<=x/\x<=4096:=Cr env _ [] λx hx=>by cases hx
   cases h3:decide (cX (eI p env d.au).1*cX (fP env (d.bR.map (·.dG)) []).1>65536)with
   |true=>rw[h3,cond_true]at h;cases h
   |false=>
    rw[h3,cond_false]at h;rw[cond_false];cases h4:rx !=0 with
    |true=>rw[h4,cond_true]at h;have h:rx=0:=h;rw[h]at h4;cases h4
    |false=>
     rw[h4,cond_false]at h;rw[cond_false];have hR:=hr (by simpa using h4);cases hf:nC (zL mem env d (fP env (d.bR.map (·.dG)) []).1) d (mW (eI p env d.au).1 0 (cX (eI p env d.au).1).toNat) []with
     |error z=>
      rw[hf]at h;have h:z=0:=h;subst h;exact absurd rfl (Rx (λq z hz=>NZ (λq z hz=>aiK _ _ (aqc _) H.ev hz H.cond) _ _ _ hz) _ _ _ hf)
     |ok vs=>
      have hlen:=Ky _ _ _ _ _ hf;rw[ZB,aqd,aql]at hlen;have hp:=qx yg;have hv:∀a∈vs,cJ d.ax a=true:=P4 (λq v hq=>by
       unfold zL Es at hq;refine PI (λq x hx=>(aje hN B V hd G H hl hR hx).2) _ _ v (λa e=>by cases e) (.inl ?_) hq;have:=qx AX;obtain⟨m,hm⟩:∃m,(cX (fP env (d.bR.map (·.dG)) []).1).toNat=m+1:=⟨(cX (fP env (d.bR.map (·.dG)) []).1).toNat-1,by omega⟩;rw[hm,Hi];simp) _ _ _ (λa ha=>by cases ha) hf
      refine⟨?_,rfl,rfl,J⟩;show jL ⟨d.ax,(eI p env d.au).1,vs⟩=true;unfold jL rE;dsimp only;rw[H.ty,adk,hlen,show(((cX (eI p env d.au).1).toNat:Nat):Int)=cX (eI p env d.au).1 by omega,aqK,aqI (show(eI p env d.au).1.length<=6 by omega),aqI d3,aqr.2 hv,PD.2 λn hn=>(yg n hn).1];rfl
theorem FN{l:aqP aI}{s:aqQ}{t:aT}(h:eO l s=some t):lW l s=(t,true):=by unfold lW;rw[h]
theorem Yj{N:Nat}{p:aV}{env:aqP aJ}(W:Lw N p env)(V:VQ N p)(ins:aqP aI)(hi:wy ins):∀(l:aqP eN)(k:Nat)(acc:aqP aI),p.aX.drop k=l->acc.length+l.length<=1000000->
 (∃z,z≠0/\rO N p env ins l k acc=some ([],z))\/(∃m,rO N p env ins l k acc=some (acc++m,0)/\m.map (·.au)=l.map (·.au)/\∀a∈m,eO ins a.au=some a.cB/\jL a.cB=true/\vv a.cB)
 |[],k,acc,_,_=> .inr ⟨[],by rw[aqm];rfl,rfl,λa ha=>by cases ha⟩
 |x::l,k,acc,hd,hl=>by
  simp only[ap4]at hl;have hN:=W.hN;have hx:p.aX[k]?=some x:=bI hd;have B:=W.bd;rw[rO,MH N (by omega) p env x.au B.P B.D,ap0];cases J:((eI p env x.au).2.2 !=0)with
  |true=>
   rw[bne_iff_ne]at J;rw[show((eI p env x.au).2.2==0)=false by rw[beq_eq_false_iff_ne];exact J,cond_false];unfold AZ;rw[bne_iff_ne.2 J,cond_true];exact .inl ⟨_,J,rfl⟩
  |false=>
   rw[bne_eq_false_iff_eq]at J;rw[J,show((0:Int)==0)=true from rfl,cond_true];obtain⟨z,m1,m3⟩:=adA N (by omega) ins x.au (eI p env x.au).2.1 (eI p env x.au).1;rw[m1,ap0];unfold AZ;cases hz:(z !=0)with
   |true=>exact .inl ⟨z,bne_iff_ne.1 hz,rfl⟩
   |false=>
    obtain⟨y,y1,y2,y3⟩:=m3 (by simpa using hz);have sm:=hi.find x.au;rw[cond_false,abk,ap0,adK N sm,ap0,fJ (by omega),cond_true,FN y1];rcases Yj W V ins hi l (k+1) (acc++[⟨x.au,y⟩]) (oV hd) (by simp only[ap2,ap4,aqd];omega)with⟨z,z1,z2⟩|⟨m,z1,z2,z3⟩
    ·exact .inl ⟨z,z1,z2⟩
    ·refine .inr ⟨⟨x.au,y⟩::m,by refine z1.trans ?_;rw[aqi];rfl,by rw[aqq,aqq,z2],λa ha=> ?_⟩;rcases aqv.1 ha with rfl|ha
     ·exact⟨y1,y2,by have h:=sm;rw[FN y1]at h;exact h⟩
     ·exact z3 a ha
def X5(p:aV)(env:aqP aJ)(mem:aqP aI)(d:bB)(T:aT):Prop:=∃rx,(rx=0->∀s∈uu d.bP,xO p mem s)/\pz p env mem d rx=(T,0)
theorem ZU{N:Nat}{p:aV}{env:aqP aJ}(W:Lw N p env)(V:VQ N p)(G:∀i d,p.aG[i]?=some d->nN p i d):∀(l:aqP bB)(k:Nat)(mem:aqP aI),p.aG.drop k=l->mem.length+l.length<=1000000->
 (∃z,z≠0/\DS N p env l k mem=some ([],z))\/(∃all,DS N p env l k mem=some (mem++all,0)/\all.map (·.au)=l.map (·.au)/\(∀a∈all,vv a.cB)/\∀(j:Nat)(a:aI)(d:bB),all[j]?=some a->l[j]?=some d->X5 p env (mem++all.take j) d a.cB)
 |[],k,mem,_,_=> .inr ⟨[],by rw[aqm];rfl,rfl,λa ha=>(by cases ha),λj a d ha=>by simp at ha⟩
 |d::l,k,mem,hd,hl=>by
  simp only[ap4]at hl;have hk:p.aG[k]?=some d:=bI hd;obtain⟨rx,r0,r1⟩:=amz W V G mem (by omega) hk;rw[DS,r1,ap0];cases hq:((pz p env mem d rx).2 !=0)with
  |true=>exact .inl ⟨_,bne_iff_ne.1 hq,rfl⟩
  |false=>
   rw[bne_eq_false_iff_eq]at hq;rw[cond_false,fJ (by omega),cond_true];rcases ZU W V G l (k+1) (mem++[⟨d.au,(pz p env mem d rx).1⟩]) (oV hd) (by simp only[ap2,ap4,aqd];omega)with⟨z,z1,z2⟩|⟨all,z1,z2,zs,z3⟩
   ·exact .inl ⟨z,z1,z2⟩
   ·refine .inr ⟨⟨d.au,(pz p env mem d rx).1⟩::all,by refine z1.trans ?_;rw[aqi];rfl,by rw[aqq,aqq,z2],λa ha=> ?_,λj a e ha he=> ?_⟩
    ·rcases aqv.1 ha with rfl|ha
     ·have gu:=aqe hk;exact agr hk (G k d hk) (Ro W.hN W.bd V hk (G k d hk) (W.sh.D d gu).body (W.size d gu)) mem rx
     ·exact zs a ha
    cases j with
    |zero=>
     cases ha;cases he
     rw[List.take_zero,aqm];exact⟨rx,r0,Prod.ext rfl hq⟩
    |succ j=>
     have:=z3 j a e (by simpa using ha) (by simpa using he);rw[aqi]at this;exact this
structure OC(N:Nat)(p:aV)(env:List aJ)(ins m all:List aI):Prop where
 V:VQ N p
 G:∀i d,p.aG[i]?=some d->nN p i d
 cs:BB N p env=some 0
 mn:m.map (·.au)=p.aX.map (·.au)
 an:all.map (·.au)=p.aG.map (·.au)
 ins:∀a∈m,eO ins a.au=some a.cB/\jL a.cB=true/\vv a.cB
 made:∀(j:Nat)(a:aI)(d:bB),all[j]?=some a->p.aG[j]?=some d->X5 p env (m++all.take j) d a.cB
def Rq(p:aV)(mem:aqP aI):aqP aI:=p.c9.map λs=>⟨s,(lW mem s).1⟩
theorem aan(N:Nat)(q:aqP aI×Int)(hs:wy q.1):∀(l:aqP aqQ)(k:Nat)(acc:aqP aI),acc.length+l.length<=1000000->HL N q l k acc=some (acc++l.map (λs=>(⟨s,(lW q.1 s).1⟩:aI)),0)
 |[],k,acc,_=>by rw[List.map_nil,aqm];rfl
 |s::l,k,acc,hl=>by
  simp only[ap4]at hl;rw[HL,abk,ap0,adK N (hs.find s),ap0,fJ (by omega),cond_true];dsimp only;rw[aan N q hs l (k+1) _ (by simp only[ap2,ap4,aqd];omega),aqi];rfl
theorem aoO{N:Nat}{p:aV}{env:aqP aJ}(W:Lw N p env)(ins:aqP aI)(hi:wy ins):
 (∃z,z≠0/\Ch N p env ins=some ([],z)/\Eu N p env ins=some ([],z))\/
 (∃m all,OC N p env ins m all/\Ch N p env ins=some (Rq p (m++all),0)/\Eu N p env ins=some (all,0)):=by
 have hN:=W.hN;have bw:=W.sh.d;have M0:=W.sh.q;have ho:=W.sh.o;unfold Ch Eu Mp;obtain⟨x,J,h3⟩:=aeF N (by omega) p env W.bd W.wh;rw[J,ap0];cases hx:(x !=0)with
 |true=>
  refine .inl ⟨x,bne_iff_ne.1 hx,?_,?_⟩
  ·rw[cond_true,ap0];dsimp only;rw[hx];rfl
  ·rw[cond_true,ap0];dsimp only;rw[hx];rfl
 |false=>
  have QX:x=0:=by simpa using hx
  obtain⟨_,V,G⟩:=h3 QX;rw[cond_false];unfold Jk;rcases Yj W V ins hi p.aX 0 [] rfl (by simp only[aqd];omega)with⟨z,z1,z2⟩|⟨m,z1,z2,z3⟩
  ·rw[z2,ap0];dsimp only;rw[bne_iff_ne.2 z1,cond_true];refine .inl ⟨z,z1,?_,?_⟩
   ·rw[ap0];dsimp only;rw[bne_iff_ne.2 z1];rfl
   ·rw[ap0];dsimp only;rw[bne_iff_ne.2 z1];rfl
  ·rw[z1,ap0];dsimp only;rw[show((0:Int) !=0)=false from rfl,cond_false,List.nil_append];have hm:m.length=p.aX.length:=by have:=congrArg List.length z2;simpa using this
   rcases ZU W V G p.aG 0 m rfl (by omega)with⟨z,y1,y2⟩|⟨all,y1,y2,ys,y3⟩
   ·rw[y2];refine .inl ⟨z,y1,?_,?_⟩
    ·rw[ap0];dsimp only;rw[bne_iff_ne.2 y1];rfl
    ·rw[ap0];dsimp only;rw[bne_iff_ne.2 y1];rfl
   ·rw[y1];have sm:wy (m++all):=λa ha=>by
      rcases aqD.1 ha with ha|ha
      ·exact(z3 a ha).2.2
      ·exact ys a ha
    refine .inr ⟨m,all,⟨V,G,by rw[J,QX],z2,y2,z3,y3⟩,?_,?_⟩
    ·rw[ap0];dsimp only;rw[show((0:Int) !=0)=false from rfl,cond_false];exact aan N (m++all,0) sm p.c9 0 [] (by simp only[aqd];omega)
    ·rw[ap0];dsimp only;rw[show((0:Int) !=0)=false from rfl,cond_false,aqI (show(0:Int)<=(p.aX.length:Int) by omega),cond_true,aqs,aqI (show p.aX.length<=(m++all).length by rw[ap2];omega),cond_true,List.drop_left' hm]
theorem Z0(N:Nat)(s:aqQ):∀(l:aqP bB)(k:Nat),Ir N s l k=some (match l.findIdx? (ik s)with|some i=>((k+i:Nat):Int)|none=> -1)
 |[],k=>rfl
 |d::l,k=>by
  rw[Ir,Z0 N s l (k+1),List.findIdx?_cons];unfold ik;cases hb:bL d.au==bL s with
  |true=>rfl
  |false=>
   rw[cond_false];cases (l.findIdx? λd=>bL d.au==bL s)with
   |none=>rfl
   |some i=>show some (((k+1+i:Nat):Int))=some (((k+(i+1):Nat):Int));congr 1;omega
theorem aaE:∀{all:aqP aI}{D:aqP bB}(s:aqQ),all.map (·.au)=D.map (·.au)->eO all s=(D.findIdx? (ik s)).bind λi=>all[i]?.map (·.cB)
 |[],[],s,_=>rfl
 |[],_::_,s,h=>by cases h
 |_::_,[],s,h=>by cases h
 |a::all,d::D,s,h=>by
  rw[aqq,aqq]at h;have J:a.au=d.au:=(List.cons.inj h).1;have ih:=aaE (all:=all) (D:=D) s (List.cons.inj h).2;rw[eO,List.findIdx?_cons,J,ih];show _=Option.bind (if ik s d=true then some 0 else _) _;unfold ik;cases bL d.au==bL s with
  |true=>rfl
  |false=>
   rw[cond_false,if_neg (by decide)];cases D.findIdx? (λd=>bL d.au==bL s)with
   |none=>rfl
   |some i=>rfl
theorem afl{s:aqQ}{l:aqP aI}{M:aqP aqQ}(h:l.map (·.au)=M)(hs:s ∉ M):eO l s=none:=abI λx hx=>by
 rw[beq_eq_false_iff_ne];intro e;have e':x.au=s:=TY e;exact hs (by rw[<-h,<-e'];exact List.mem_map.2 ⟨x,hx,rfl⟩)
theorem aak{s:aqQ}:∀{l:aqP aI},s∈l.map (·.au)->∃a∈l,a.au=s/\eO l s=some a.cB
 |x::l,h=>by
  rw[eO];cases hb:bL x.au==bL s with
  |true=>exact⟨x,ap7,TY (by simpa using hb),rfl⟩
  |false=>
   rw[aqq]at h;rcases aqv.1 h with rfl|h
   ·rw[aqK]at hb;cases hb
   ·obtain⟨a,J,h2,h3⟩:=aak h;exact⟨a,aqa _ J,h2,h3⟩
theorem YP{N:Nat}(hN:3000<=N){p:aV}{env:aqP aJ}{ins m all:aqP aI}(R:OC N p env ins m all)(hi:ins.length<=30)(hd:p.aG.length<=1000):∀(l:aqP aqQ)(k:Nat),p.c9.drop k=l->qy N ins (all,0) p (l.map λs=>(⟨s,(lW (m++all) s).1⟩:aI)) k=some true
 |[],k,_=>by rw[List.map_nil,qy,aaD hN];rfl
 |s::l,k,hk=>by
  have hs:=bI hk;have C4:all.length=p.aG.length:=by have:=congrArg List.length R.an;simpa using this
  have ih:=YP hN R hi hd l (k+1) (oV hk);have ho:=(R.V.outs k s hs).1;rw[lA,Bool.or_eq_true]at ho;rw[aqq,qy,fJ (by omega),cond_true,fJ (by show(ins.length+all.length)*104<=_;omega),cond_true,aqs,hs,ap0,aoF,ap0];unfold Ra;rw[Z0,ap0];have e1:=aaE s R.an;cases hf:p.aG.findIdx? (ik s)with
  |none=>
   rw[hf,Option.bind_none]at e1;have hp:s∈m.map (·.au):=by
     rw[R.mn];rcases ho with ho|ho
     ·exact Is.1 ho
     ·exfalso;obtain⟨d,ry,mE⟩:=List.mem_map.1 (Is.1 ho);have:=List.findIdx?_eq_none_iff.1 hf d ry;unfold ik at this;rw[mE,aqK]at this;cases this
   obtain⟨a,a1,a2,a3⟩:=aak hp;have a4:=(R.ins a a1).1;rw[a2]at a4;have f1:lW (m++all) s=(a.cB,true):=FN (by rw[D8,a3];rfl);have f2:lW (ins++all) s=(a.cB,true):=FN (by rw[D8,a4];rfl);dsimp only;rw[aqJ (by decide),cond_false,f1,f2];unfold zF;dsimp only;rw[cond_true,aqK,cond_true];have:xr N a.cB (⟨⟨a.cB.ax.bg,a.cB.ax.bN,a.cB.ax.bM,a.cB.ax.cn,a.cB.ax.ck⟩,a.cB.aS,a.cB.dn⟩:aT)=some true:=Yz N a.cB;rw[this];exact ih
  |some i=>
   rw[hf,ap0]at e1;obtain⟨jD,jQ,CI⟩:=List.findIdx?_eq_some_iff_getElem.1 hf;obtain⟨a,ha⟩:∃a,all[i]?=some a:=⟨_,ap5 (by omega)⟩;rw[ha,Option.map_some]at e1;have hdi:p.aG[i]?=some p.aG[i]:=ap5 jD;have hn:s ∉ p.aX.map (·.au):=by
     have g:=(R.G i _ hdi).par;have:p.aG[i].au=s:=TY (by unfold ik at jQ;simpa using jQ);rw[this]at g;exact ak9 g
   have f1:lW (m++all) s=(a.cB,true):=FN (by rw[D8,afl R.mn hn,Option.none_or,e1]);have f2:(lW (ins++all) s).2=true:=by
    unfold lW;rw[D8,e1];cases eO ins s<;>rfl
   dsimp only;rw[aqI (show((0+i:Nat):Int)>=0 by omega),cond_true,cond_true,aqs,aql,ha,ap0,f1];unfold zF;dsimp only;rw[f2,cond_true,aqK,cond_true];have:xr N a.cB (⟨⟨a.cB.ax.bg,a.cB.ax.bN,a.cB.ax.bM,a.cB.ax.cn,a.cB.ax.ck⟩,a.cB.aS,a.cB.dn⟩:aT)=some true:=Yz N a.cB;rw[this];exact ih
theorem YQ{N:Nat}{p:aV}{env:aqP aJ}(W:Lw N p env){ins m all:aqP aI}(R:OC N p env ins m all)(v8 v9:aqP aI×Int):∀(l:aqP aI)(k:Nat),all.drop k=l->wo N ins v8 p v9 env l k=qy N ins v8 p v9.1 0
 |[],k,_=>rfl
 |a::l,k,hk=>by
  have hN:=W.hN;have ha:=bI hk;have C4:all.length=p.aG.length:=by have:=congrArg List.length R.an;simpa using this
  have XD:=Tj hk;obtain⟨d,hd⟩:∃d,p.aG[k]?=some d:=⟨_,ap5 (by omega)⟩;have hm:=aqe hd;have aeB:a.au=d.au:=by
   have J:(all.map (·.au))[k]?=some a.au:=by rw[ap8,ha];rfl
   have h2:(p.aG.map (·.au))[k]?=some d.au:=by rw[ap8,hd];rfl
   rw[R.an,h2]at J;exact(aqk J).symm
  obtain⟨rx,r1,r2⟩:=R.made k a d ha hd;have T:=alY hN W.bd R.V hd (R.G k d hd) (Ro W.hN W.bd R.V hd (R.G k d hd) (W.sh.D d hm).body (W.size d hm)) (W.sh.D d hm).body r1 (by rw[r2]);rw[r2]at T;dsimp only at T;rw[wo,aqs,hd,ap0];unfold Ow;rw[R.cs,ap0,show((0:Int) !=0)=false from rfl,cond_false,MH N (by omega) p env d.au W.bd.P W.bd.D,ap0,ap0];dsimp only;rw[T.e0,show((0:Int) !=0)=false from rfl,cond_false,aeB,aqK,cond_true];obtain⟨e,e1,e2⟩:=ahc N (by omega) a.cB;rw[T.ok]at e2;have ht:(a.cB.ax.bg==d.ax.bg&&(a.cB.ax.bN==d.ax.bN&&(a.cB.ax.bM==d.ax.bM&&(a.cB.ax.cn==d.ax.cn&&(a.cB.ax.ck==d.ax.ck&&true)))))=true:=Dr.2 T.ty;rw[ht,cond_true,T.dm,Zz,ap0,cond_true,e1,ap0,e2,ap0];exact YQ W R v8 v9 l (k+1) (oV hk)
theorem ahY(N:Nat)(p:aV)(env:aqP aJ)(mem:aqP aI)(hN:9223372036854775808<N)(hd:∀d∈p.aG,hO qG d.bP/\3*SizeOf.sizeOf d.bP<N):JJ N p env mem=some true:=by
 unfold JJ;obtain⟨b1,f1,f2⟩:=ai1 N (by omega) p env 8 λd h=>⟨(hd d h).1,by have:=(hd d h).2;omega⟩;obtain⟨b2,g1,g2⟩:=aiM N mem;have L:=aaD (N:=N) (by omega);rw[f1,g1,L,ap0];cases b1 with
 |false=>rfl
 |true=>
  cases b2 with
  |false=>rfl
  |true=>
   obtain⟨Sh,he⟩:=f2 rfl;obtain⟨lZ,q2⟩:=g2 rfl;have W:Lw N p env:=⟨hN,Sh,by omega,λd h=>(hd d h).2⟩;have hi:wy mem:=λx hx=>⟨aqj (q2 x hx).Cj (by decide),aqj (q2 x hx).Q3 (by decide)⟩;have bw:=Sh.d;rw[cond_true,ap0,ap0,Bool.not_true,cond_false];rcases aoO W mem hi with⟨z,z1,z2,z3⟩|⟨m,all,R,r1,r2⟩
   ·rw[z2,z3,ap0,ap0,show(z !=z)=false by rw[bne_self_eq_false],cond_false,bne_iff_ne.2 z1];rfl
   ·have C4:all.length=p.aG.length:=by have:=congrArg List.length R.an;simpa using this
    have vh:(Rq p (m++all)).length=p.c9.length:=by unfold Rq;rw[ap6]
    rw[r1,r2,ap0,ap0];dsimp only;rw[show((0:Int) !=0)=false from rfl,cond_false,cond_false,C4,vh,show((p.aG.length:Int) !=(p.aG.length:Int))=false by rw[bne_self_eq_false],cond_false,show((p.c9.length:Int) !=(p.c9.length:Int))=false by rw[bne_self_eq_false],ap0,cond_false,YQ W R _ _ all 0 rfl];exact YP (by omega) R lZ (by omega) p.c9 0 rfl
def qH(k:IntKind)(n:Int):Prop:=k.min<=n/\n<=k.max
theorem D0{n:Int}(h:qH .i64 n):∃m:Int64,n=m.toInt:=by
 refine⟨Int64.ofInt n,?_⟩;have J:aO n=n:=by
  unfold aO;rw[IntKind.wrap_i64];have h2: -9223372036854775808<=n:=h.1;have h3:n<=9223372036854775807:=h.2;omega
 rw[Int64.toInt_ofInt,<-Cf];exact J.symm
theorem abz{p:aqP D}:∀{l:aqP (aqP D)},p∈l->SizeOf.sizeOf p<=SizeOf.sizeOf l.flatten
 |[],h=>by cases h
 |q::l,h=>by
  have app:∀a b:aqP D,SizeOf.sizeOf a<=SizeOf.sizeOf (a++b)/\SizeOf.sizeOf b<=SizeOf.sizeOf (a++b):=by
   intro a b
   induction a with
   |nil=>cases b<;>simp only[List.nil_append,List.nil.sizeOf_spec,List.cons.sizeOf_spec]<;>omega
   |cons x a ih=>simp only[List.cons_append,List.cons.sizeOf_spec];omega
  rw[List.flatten_cons];rcases aqv.1 h with rfl|h
  ·exact(app _ _).1
  ·exact aqj (abz h) (app _ _).2
theorem abi{xs:aqP D}(h:eo Tryz.prog 22 xs):∃l:aqP aqQ,xs=[.sl (ep l)]/\(l.length<=140737488355328/\∀a∈l,a.size<=maxLen):=by
 obtain⟨l,rfl,hl,hs⟩:=h.nR Tryz.underlying22;obtain⟨r,rfl,hr⟩:=nj (f:=iw) (Q:=λa=>a.size<=maxLen) l (λx hx=>by
  obtain⟨RO,rfl,N7⟩:=(hs x hx).tS Tryz.underlying9;exact⟨RO,rfl,N7⟩)
 exact⟨r,by rw[nu],by simpa using hl,hr⟩
structure Ie(x:dC):Prop where
 h0:x.au.size<=maxLen
 J:True
theorem aeM{xs:aqP D}(h:eo Tryz.prog 50 xs):∃x:dC,xs=ES x/\Ie x:=by
 obtain⟨parts,rfl,hl,hx⟩:=h.ny Tryz.underlying50
 match parts,hl with
 |[a0,a1],_=>
 obtain⟨iN,rfl,ic⟩:=(hx 0 _ _ rfl rfl).tS Tryz.underlying9;obtain⟨iY,rfl,iO⟩:=(hx 1 _ _ rfl rfl).ov Tryz.underlying2;obtain⟨Gg,rfl⟩:=D0 iO;exact⟨⟨iN,Gg⟩,rfl,⟨ic,trivial⟩⟩
theorem agm{xs:aqP D}(h:eo Tryz.prog 51 xs):∃l:aqP dC,xs=[.sl (gN l)]/\(l.length<=140737488355328/\∀a∈l,Ie a):=by
 obtain⟨l,rfl,hl,hs⟩:=h.nR Tryz.underlying51;obtain⟨r,rfl,hr⟩:=nj (f:=ES) (Q:=λa=>Ie a) l (λx hx=>aeM (hs x hx));exact⟨r,by rw[yc],by simpa using hl,hr⟩
structure sR(x:bz):Prop where
 h0:True
 J:x.xL.length<=140737488355328/\∀a∈x.xL,Ie a
theorem EK{xs:aqP D}(h:eo Tryz.prog 53 xs):∃x:bz,xs=FZ x/\sR x:=by
 obtain⟨parts,rfl,hl,hx⟩:=h.ny Tryz.underlying53
 match parts,hl with
 |[a0,a1],_=>
 obtain⟨iN,rfl,ic⟩:=(hx 0 _ _ rfl rfl).ov Tryz.underlying2;obtain⟨Tz,rfl⟩:=D0 ic;obtain⟨iY,rfl,iO⟩:=agm (hx 1 _ _ rfl rfl);exact⟨⟨Tz,iY⟩,rfl,⟨trivial,iO⟩⟩
structure Kh(x:gC):Prop where
 h0:sR x.bo
 J:True
theorem aoS{xs:aqP D}(h:eo Tryz.prog 93 xs):∃x:gC,xs=Hc x/\Kh x:=by
 obtain⟨parts,rfl,hl,hx⟩:=h.ny Tryz.underlying93
 match parts,hl with
 |[a0,a1],_=>
 obtain⟨iN,rfl,ic⟩:=EK (hx 0 _ _ rfl rfl);obtain⟨iY,rfl⟩:=(hx 1 _ _ rfl rfl).akY Tryz.underlying4;exact⟨⟨iN,iY⟩,rfl,⟨ic,trivial⟩⟩
theorem apk{xs:aqP D}(h:eo Tryz.prog 23 xs):∃l:aqP gC,xs=[.sl (nr l)]/\(l.length<=140737488355328/\∀a∈l,Kh a):=by
 obtain⟨l,rfl,hl,hs⟩:=h.nR Tryz.underlying23;obtain⟨r,rfl,hr⟩:=nj (f:=Hc) (Q:=λa=>Kh a) l (λx hx=>aoS (hs x hx));exact⟨r,by rw[yJ],by simpa using hl,hr⟩
structure EC(x:aF):Prop where
 h0:qH .i64 x.bg
 J:qH .i64 x.bN
 h2:qH .i64 x.bM
 h3:qH .i64 x.cn
 h4:qH .i64 x.ck
theorem Ji{xs:aqP D}(h:eo Tryz.prog 34 xs):∃x:aF,xs=Kb x/\EC x:=by
 obtain⟨parts,rfl,hl,hx⟩:=h.ny Tryz.underlying34
 match parts,hl with
 |[a0,a1,a2,a3,a4],_=>
 obtain⟨iN,rfl,ic⟩:=(hx 0 _ _ rfl rfl).ov Tryz.underlying3;obtain⟨iY,rfl,iO⟩:=(hx 1 _ _ rfl rfl).ov Tryz.underlying3;obtain⟨nX,rfl,oI⟩:=(hx 2 _ _ rfl rfl).ov Tryz.underlying3;obtain⟨yO,rfl,ym⟩:=(hx 3 _ _ rfl rfl).ov Tryz.underlying3;obtain⟨wm,rfl,yq⟩:=(hx 4 _ _ rfl rfl).ov Tryz.underlying3;exact⟨⟨iN,iY,nX,yO,wm⟩,rfl,⟨ic,iO,oI,ym,yq⟩⟩
theorem Y8{xs:aqP D}(h:eo Tryz.prog 41 xs):∃l:aqP bz,xs=[.sl (gj l)]/\(l.length<=140737488355328/\∀a∈l,sR a):=by
 obtain⟨l,rfl,hl,hs⟩:=h.nR Tryz.underlying41;obtain⟨r,rfl,hr⟩:=nj (f:=FZ) (Q:=λa=>sR a) l (λx hx=>EK (hs x hx));exact⟨r,by rw[w8],by simpa using hl,hr⟩
structure JC(x:eN):Prop where
 h0:x.au.size<=maxLen
 J:EC x.ax
 h2:x.aS.length<=140737488355328/\∀a∈x.aS,sR a
theorem amg{xs:aqP D}(h:eo Tryz.prog 43 xs):∃x:eN,xs=Dm x/\JC x:=by
 obtain⟨parts,rfl,hl,hx⟩:=h.ny Tryz.underlying43
 match parts,hl with
 |[a0,a1,a2],_=>
 obtain⟨iN,rfl,ic⟩:=(hx 0 _ _ rfl rfl).tS Tryz.underlying9;obtain⟨iY,rfl,iO⟩:=Ji (hx 1 _ _ rfl rfl);obtain⟨nX,rfl,oI⟩:=Y8 (hx 2 _ _ rfl rfl);exact⟨⟨iN,iY,nX⟩,rfl,⟨ic,iO,oI⟩⟩
theorem ahx{xs:aqP D}(h:eo Tryz.prog 24 xs):∃l:aqP eN,xs=[.sl (kO l)]/\(l.length<=140737488355328/\∀a∈l,JC a):=by
 obtain⟨l,rfl,hl,hs⟩:=h.nR Tryz.underlying24;obtain⟨r,rfl,hr⟩:=nj (f:=Dm) (Q:=λa=>JC a) l (λx hx=>amg (hs x hx));exact⟨r,by rw[yj],by simpa using hl,hr⟩
structure Gi(x:du):Prop where
 h0:x.au.size<=maxLen
 J:sR x.dG
theorem agT{xs:aqP D}(h:eo Tryz.prog 63 xs):∃x:du,xs=F3 x/\Gi x:=by
 obtain⟨parts,rfl,hl,hx⟩:=h.ny Tryz.underlying63
 match parts,hl with
 |[a0,a1],_=>
 obtain⟨iN,rfl,ic⟩:=(hx 0 _ _ rfl rfl).tS Tryz.underlying9;obtain⟨iY,rfl,iO⟩:=EK (hx 1 _ _ rfl rfl);exact⟨⟨iN,iY⟩,rfl,⟨ic,iO⟩⟩
theorem acz{xs:aqP D}(h:eo Tryz.prog 64 xs):∃l:aqP du,xs=[.sl (dAxiss l)]/\(l.length<=140737488355328/\∀a∈l,Gi a):=by
 obtain⟨l,rfl,hl,hs⟩:=h.nR Tryz.underlying64;obtain⟨r,rfl,hr⟩:=nj (f:=F3) (Q:=λa=>Gi a) l (λx hx=>agT (hs x hx));exact⟨r,by rw[wI],by simpa using hl,hr⟩
structure Hg(x:aA):Prop where
 h0:True
 J:True
theorem T5{xs:aqP D}(h:eo Tryz.prog 58 xs):∃x:aA,xs=A2 x/\Hg x:=by
 obtain⟨parts,rfl,hl,hx⟩:=h.ny Tryz.underlying58
 match parts,hl with
 |[a0,a1],_=>
 obtain⟨iN,rfl,ic⟩:=(hx 0 _ _ rfl rfl).ov Tryz.underlying2;obtain⟨Tz,rfl⟩:=D0 ic;obtain⟨iY,rfl,iO⟩:=(hx 1 _ _ rfl rfl).ov Tryz.underlying2;obtain⟨Gg,rfl⟩:=D0 iO;exact⟨⟨Tz,Gg⟩,rfl,⟨trivial,trivial⟩⟩
structure Nh(x:cO):Prop where
 h0:sR x.bo
 J:x.cU.size<=maxLen
 h2:x.cT.length<=140737488355328/\∀a∈x.cT,sR a
theorem anS{xs:aqP D}(h:eo Tryz.prog 55 xs):∃x:cO,xs=Eg x/\Nh x:=by
 obtain⟨parts,rfl,hl,hx⟩:=h.ny Tryz.underlying55
 match parts,hl with
 |[a0,a1,a2],_=>
 obtain⟨iN,rfl,ic⟩:=EK (hx 0 _ _ rfl rfl);obtain⟨iY,rfl,iO⟩:=(hx 1 _ _ rfl rfl).tS Tryz.underlying9;obtain⟨nX,rfl,oI⟩:=Y8 (hx 2 _ _ rfl rfl);exact⟨⟨iN,iY,nX⟩,rfl,⟨ic,iO,oI⟩⟩
theorem apF{xs:aqP D}(h:eo Tryz.prog 56 xs):∃l:aqP cO,xs=[.sl (eZ l)]/\(l.length<=140737488355328/\∀a∈l,Nh a):=by
 obtain⟨l,rfl,hl,hs⟩:=h.nR Tryz.underlying56;obtain⟨r,rfl,hr⟩:=nj (f:=Eg) (Q:=λa=>Nh a) l (λx hx=>anS (hs x hx));exact⟨r,by rw[yQ],by simpa using hl,hr⟩
inductive yH:aw->Prop
 |mk (x:aw) (h0:qH .i64 x.az) (J:x.au.size<=maxLen) (h2:Hg x.dt) (h3:EC x.ax) (h4:sR x.bo) (h5:x.xIdx.length<=140737488355328/\∀a∈x.xIdx,Nh a) (h6:x.bJ.length<=140737488355328) (g6:∀a∈x.bJ,yH a):yH x
theorem acv:∀(n:Nat)(xs:aqP D),SizeOf.sizeOf xs<n->eo Tryz.prog 61 xs->∃x:aw,xs=eV x/\yH x
 |0,_,h,_=>absurd h (aqt _)
 |n+1,xs,hn,h=>by
  obtain⟨parts,rfl,hl,hx⟩:=h.ny Tryz.underlying61
  match parts,hl with
  |[a0,a1,a2,a3,a4,a5,a6],_=>
  obtain⟨iN,rfl,ic⟩:=(hx 0 _ _ rfl rfl).ov Tryz.underlying3;obtain⟨iY,rfl,iO⟩:=(hx 1 _ _ rfl rfl).tS Tryz.underlying9;obtain⟨nX,rfl,oI⟩:=T5 (hx 2 _ _ rfl rfl);obtain⟨yO,rfl,ym⟩:=Ji (hx 3 _ _ rfl rfl);obtain⟨wm,rfl,yq⟩:=EK (hx 4 _ _ rfl rfl);obtain⟨P0,rfl,RC⟩:=apF (hx 5 _ _ rfl rfl);obtain⟨l_,rfl,aoc,hs_⟩:=(hx 6 _ _ rfl rfl).nR Tryz.underlying59;obtain⟨r_,rfl,hr_⟩:=nj (f:=eV) (Q:=yH) l_ (λx hx=>acv n x (by have J:=List.sizeOf_lt_of_mem hx;have h2:SizeOf.sizeOf [D.sl l_]<n+1:=Nat.lt_of_le_of_lt (abz (by simp)) hn;simp only[List.cons.sizeOf_spec,D.sl.sizeOf_spec,List.nil.sizeOf_spec]at h2;omega) (hs_ x hx));refine⟨⟨iN,iY,nX,yO,wm,P0,r_⟩,?_, .mk _ ic iO oI ym yq RC (by simpa using aoc) hr_⟩;show _=eV _;unfold eV;rw[qB];rfl
theorem aiB{xs:aqP D}(h:eo Tryz.prog 61 xs):∃x:aw,xs=eV x/\yH x:=acv _ xs (aqN _) h
structure Io(x:bB):Prop where
 h0:x.au.size<=maxLen
 J:EC x.ax
 h2:x.aS.length<=140737488355328/\∀a∈x.aS,Gi a
 h3:x.bR.length<=140737488355328/\∀a∈x.bR,Gi a
 h4:qH .i64 x.dj
 h5:yH x.bP
theorem aja{xs:aqP D}(h:eo Tryz.prog 66 xs):∃x:bB,xs=FO x/\Io x:=by
 obtain⟨parts,rfl,hl,hx⟩:=h.ny Tryz.underlying66
 match parts,hl with
 |[a0,a1,a2,a3,a4,a5],_=>
 obtain⟨iN,rfl,ic⟩:=(hx 0 _ _ rfl rfl).tS Tryz.underlying9;obtain⟨iY,rfl,iO⟩:=Ji (hx 1 _ _ rfl rfl);obtain⟨nX,rfl,oI⟩:=acz (hx 2 _ _ rfl rfl);obtain⟨yO,rfl,ym⟩:=acz (hx 3 _ _ rfl rfl);obtain⟨wm,rfl,yq⟩:=(hx 4 _ _ rfl rfl).ov Tryz.underlying3;obtain⟨P0,rfl,RC⟩:=aiB (hx 5 _ _ rfl rfl);exact⟨⟨iN,iY,nX,yO,wm,P0⟩,rfl,⟨ic,iO,oI,ym,yq,RC⟩⟩
theorem aoL{xs:aqP D}(h:eo Tryz.prog 25 xs):∃l:aqP bB,xs=[.sl (iV l)]/\(l.length<=140737488355328/\∀a∈l,Io a):=by
 obtain⟨l,rfl,hl,hs⟩:=h.nR Tryz.underlying25;obtain⟨r,rfl,hr⟩:=nj (f:=FO) (Q:=λa=>Io a) l (λx hx=>aja (hs x hx));exact⟨r,by rw[sS],by simpa using hl,hr⟩
structure Z3(x:aV):Prop where
 h0:x.bm.length<=140737488355328/\∀a∈x.bm,a.size<=maxLen
 J:x.dM.length<=140737488355328/\∀a∈x.dM,Kh a
 h2:x.aX.length<=140737488355328/\∀a∈x.aX,JC a
 h3:x.aG.length<=140737488355328/\∀a∈x.aG,Io a
 h4:x.c9.length<=140737488355328/\∀a∈x.c9,a.size<=maxLen
theorem akB{xs:aqP D}(h:eo Tryz.prog 27 xs):∃x:aV,xs=amc x/\Z3 x:=by
 obtain⟨parts,rfl,hl,hx⟩:=h.ny Tryz.underlying27
 match parts,hl with
 |[a0,a1,a2,a3,a4],_=>
 obtain⟨iN,rfl,ic⟩:=abi (hx 0 _ _ rfl rfl);obtain⟨iY,rfl,iO⟩:=apk (hx 1 _ _ rfl rfl);obtain⟨nX,rfl,oI⟩:=ahx (hx 2 _ _ rfl rfl);obtain⟨yO,rfl,ym⟩:=aoL (hx 3 _ _ rfl rfl);obtain⟨wm,rfl,yq⟩:=abi (hx 4 _ _ rfl rfl);exact⟨⟨iN,iY,nX,yO,wm⟩,rfl,⟨ic,iO,oI,ym,yq⟩⟩
structure JN(x:aJ):Prop where
 h0:x.au.size<=maxLen
 J:True
theorem anR{xs:aqP D}(h:eo Tryz.prog 68 xs):∃x:aJ,xs=EA x/\JN x:=by
 obtain⟨parts,rfl,hl,hx⟩:=h.ny Tryz.underlying68
 match parts,hl with
 |[a0,a1],_=>
 obtain⟨iN,rfl,ic⟩:=(hx 0 _ _ rfl rfl).tS Tryz.underlying9;obtain⟨iY,rfl,iO⟩:=(hx 1 _ _ rfl rfl).ov Tryz.underlying2;obtain⟨Gg,rfl⟩:=D0 iO;exact⟨⟨iN,Gg⟩,rfl,⟨ic,trivial⟩⟩
theorem am6{xs:aqP D}(h:eo Tryz.prog 28 xs):∃l:aqP aJ,xs=[.sl (aW l)]/\(l.length<=140737488355328/\∀a∈l,JN a):=by
 obtain⟨l,rfl,hl,hs⟩:=h.nR Tryz.underlying28;obtain⟨r,rfl,hr⟩:=nj (f:=EA) (Q:=λa=>JN a) l (λx hx=>anR (hs x hx));exact⟨r,by rw[yW],by simpa using hl,hr⟩
theorem amL{xs:aqP D}(h:eo Tryz.prog 35 xs):∃l:aqP Int,xs=[.sl (bn l)]/\(l.length<=140737488355328/\∀a∈l,qH .i64 a):=by
 obtain⟨l,rfl,hl,hs⟩:=h.nR Tryz.underlying35;obtain⟨r,rfl,hr⟩:=nj (f:=eK) (Q:=λa=>qH .i64 a) l (λx hx=>by
  obtain⟨RO,rfl,N7⟩:=(hs x hx).ov Tryz.underlying3;exact⟨RO,rfl,N7⟩)
 exact⟨r,by rw[ox],by simpa using hl,hr⟩
theorem anX{xs:aqP D}(h:eo Tryz.prog 36 xs):∃l:aqP aA,xs=[.sl (dO l)]/\(l.length<=140737488355328/\∀a∈l,Hg a):=by
 obtain⟨l,rfl,hl,hs⟩:=h.nR Tryz.underlying36;obtain⟨r,rfl,hr⟩:=nj (f:=A2) (Q:=λa=>Hg a) l (λx hx=>T5 (hs x hx));exact⟨r,by rw[sC],by simpa using hl,hr⟩
structure Yp(x:aT):Prop where
 h0:EC x.ax
 J:x.aS.length<=140737488355328/\∀a∈x.aS,qH .i64 a
 h2:x.dn.length<=140737488355328/\∀a∈x.dn,Hg a
theorem anH{xs:aqP D}(h:eo Tryz.prog 38 xs):∃x:aT,xs=bZ x/\Yp x:=by
 obtain⟨parts,rfl,hl,hx⟩:=h.ny Tryz.underlying38
 match parts,hl with
 |[a0,a1,a2],_=>
 obtain⟨iN,rfl,ic⟩:=Ji (hx 0 _ _ rfl rfl);obtain⟨iY,rfl,iO⟩:=amL (hx 1 _ _ rfl rfl);obtain⟨nX,rfl,oI⟩:=anX (hx 2 _ _ rfl rfl);exact⟨⟨iN,iY,nX⟩,rfl,⟨ic,iO,oI⟩⟩
structure Kj(x:aI):Prop where
 h0:x.au.size<=maxLen
 J:Yp x.cB
theorem agw{xs:aqP D}(h:eo Tryz.prog 40 xs):∃x:aI,xs=Ei x/\Kj x:=by
 obtain⟨parts,rfl,hl,hx⟩:=h.ny Tryz.underlying40
 match parts,hl with
 |[a0,a1],_=>
 obtain⟨iN,rfl,ic⟩:=(hx 0 _ _ rfl rfl).tS Tryz.underlying9;obtain⟨iY,rfl,iO⟩:=anH (hx 1 _ _ rfl rfl);exact⟨⟨iN,iY⟩,rfl,⟨ic,iO⟩⟩
theorem aiJ{xs:aqP D}(h:eo Tryz.prog 29 xs):∃l:aqP aI,xs=[.sl (aZ l)]/\(l.length<=140737488355328/\∀a∈l,Kj a):=by
 obtain⟨l,rfl,hl,hs⟩:=h.nR Tryz.underlying29;obtain⟨r,rfl,hr⟩:=nj (f:=Ei) (Q:=λa=>Kj a) l (λx hx=>agw (hs x hx));exact⟨r,by rw[tH],by simpa using hl,hr⟩
def afW:aqP TypeId:=[2,3,4,9,22,23,24,25,27,28,29,34,35,36,38,40,41,43,50,51,53,55,56,58,59,61,63,64,66,68,93]
theorem Nq:Oq Tryz.prog afW=true:=by kernel_rfl
theorem akz{e:aw}(h:yH e):hO qG e:=by
 induction h with
 |mk x h0 J h2 h3 h4 h5 h6 g6 ih=>
  intro y hy;rcases aqv.1 hy with rfl|hy
  ·exact⟨h4.J.1,h5.1,λz hz=>⟨(h5.2 z hz).h0.J.1,(h5.2 z hz).h2.1,λl hl=>((h5.2 z hz).h2.2 l hl).J.1⟩,h6⟩
  ·obtain⟨a,ha,hy⟩:=Jz hy;exact ih a ha y hy
noncomputable def O9(d:bB):Nat:=3*SizeOf.sizeOf d.bP+2
theorem V1:∀{l:aqP bB}{d:bB},d∈l->O9 d<=(l.map O9).sum
 |x::l,d,h=>by
  rw[aqq,List.sum_cons];rcases aqv.1 h with rfl|h
  ·omega
  ·have:=V1 h;omega
noncomputable def acr(p:aV):Nat:=(p.aG.map O9).sum
theorem ai2(p:aV)(b:aqP aJ)(m:aqP aI)(h:Z3 p)(_:b.length<=140737488355328/\∀a∈b,JN a)(_:m.length<=140737488355328/\∀a∈m,Kj a):gi Tryz.prog 6 [dW p, .d (.sl (aW b)), .d (.sl (aZ m))] (·= .d (.v (.bool true))):=by
 refine am8 (r:=true) (ahY (9223372036854775900+acr p) p b m (by omega) (λd hd=>⟨akz (h.h3.2 d hd).h5,?_⟩));have J:3*SizeOf.sizeOf d.bP+2<=acr p:=V1 hd;omega
end Go.Proofs.YtpeecnpmcbnahaaGreatDoor
