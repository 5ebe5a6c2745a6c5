/-
  Part 12 of the proof: Wts, CnJ, CnQ1, CnQ2, CnQ3, CnKf, CnQ4, CnQ5, CnP1, CnP2, CnP3, CnP4, CnP5, CnP6, CnP7, CnQ6, CnR1, CnS1, CnS2, OpenT, CnRenAbs.
-/
import Derived.Test.YtmkmibahjanejaaGreatDoorPr11
namespace Go.Proofs.YtmkmibahjanejaaGreatDoor
open Go.RowKit
set_option maxRecDepth 100000
set_option linter.unusedSimpArgs false
set_option linter.unusedVariables false
theorem uz(n:Nat):((n:Int) !=(n:Int))=false:=by rw[Fv,apC];rfl
theorem W7(N:Nat)(L:apH apI):Gz N L L=some true:=by
 have go:∀(l:apH apI)(k:Nat),L.drop k=l->Ij N L l k=some true:=by
  intro l
  induction l with
  |nil=>intro k _;rfl
  |cons x l ih=>intro k h;rw[Ij,apj,bt h,aoR,apC,cond_true];exact ih (k+1) (kI h)
 unfold Gz;rw[uz,cond_false];exact go L 0 rfl
theorem ET(N:Nat)(x:aN):vJ N x x=some true:=by
 have go:∀(l:apH bf)(k:Nat),x.xL.drop k=l->I9 N x l k=some true:=by
  intro l
  induction l with
  |nil=>intro k _;rfl
  |cons y l ih=>intro k h;rw[I9,apj,bt h,aoR,apC,apC];exact ih (k+1) (kI h)
 unfold vJ;rw[uz,bne_self_eq_false];exact go x.xL 0 rfl
theorem Xh(N:Nat)(L:apH aN):F1 N L L=some true:=by
 have go:∀(l:apH aN)(k:Nat),L.drop k=l->KG N L l k=some true:=by
  intro l
  induction l with
  |nil=>intro k _;rfl
  |cons x l ih=>intro k h;rw[KG,apj,bt h,aoR,ET,aoR,cond_true];exact ih (k+1) (kI h)
 unfold F1;rw[uz,cond_false];exact go L 0 rfl
theorem agD(N:Nat)(x:bu):KX N x x=some true:=by
 unfold KX;rw[apC,ET,Xh];rfl
theorem agH(N:Nat)(L:apH bu):G6 N L L=some true:=by
 have go:∀(l:apH bu)(k:Nat),L.drop k=l->HK N L l k=some true:=by
  intro l
  induction l with
  |nil=>intro k _;rfl
  |cons x l ih=>intro k h;rw[HK,apj,bt h,aoR,agD,aoR,cond_true];exact ih (k+1) (kI h)
 unfold G6;rw[uz,cond_false];exact go L 0 rfl
theorem Wr(N:Nat)(L:apH ar)(rec:ar->ar->apJ Bool)(hr:∀x∈L,rec x x=some true):∀(l:apH ar)(k:Nat),L.drop k=l->Mt N L rec l k=some true
 |[],k,_=>rfl
 |x::l,k,h=>by
  rw[Mt,apj,bt h,aoR,hr x (px (bt h)),aoR,cond_true];exact Wr N L rec hr l (k+1) (kI h)
theorem YN(N:Nat):∀(d:Nat)(e:ar),2*SizeOf.sizeOf e<d->xk N d e e=some true
 |0,_,h=>absurd h (apk _)
 |1,e,h=>by cases e;simp only[ar.mk.sizeOf_spec]at h;omega
 |d+2,e,h=>by
  rw[xk,CO,uz,cond_false,Wr N e.bk _ (λx hx=>YN N d x (by have:=qc hx;omega)) e.bk 0 rfl,ET,agH];rw[apC,apC,apC,apC,apC,apC,apC,apC,apC];rfl
theorem aiu(N:Nat)(L:apH cz):Mi N L L=some true:=by
 have one:∀x:cz,Ik N x x=some true:=λx=>by unfold Ik;rw[apC,ET];rfl
 have go:∀(l:apH cz)(k:Nat),L.drop k=l->JH N L l k=some true:=by
  intro l
  induction l with
  |nil=>intro k _;rfl
  |cons x l ih=>intro k h;rw[JH,apj,bt h,aoR,one,aoR,cond_true];exact ih (k+1) (kI h)
 unfold Mi;rw[uz,cond_false];exact go L 0 rfl
theorem acu(N:Nat)(L:apH bV):EO N L L=some true:=by
 have go:∀(l:apH bV)(k:Nat),L.drop k=l->IW N L l k=some true:=by
  intro l
  induction l with
  |nil=>intro k _;rfl
  |cons x l ih=>intro k h;rw[IW,apj,bt h,aoR,apC,ET];exact ih (k+1) (kI h)
 unfold EO;rw[uz,cond_false];exact go L 0 rfl
theorem aeo(N:Nat)(d:aX)(h:2*SizeOf.sizeOf d.bR+2<N):IF N d d=some true:=by
 unfold IF QT;rw[YN N N d.bR (by omega),acu,acu];rw[apC,apC,apC,apC,apC,apC,apC];rfl
theorem akv(N:Nat)(p:aG)(h:∀d∈p.aw,2*SizeOf.sizeOf d.bR+2<N):tc N p p=some true:=by
 have go2:∀(l:apH aX)(k:Nat),p.aw.drop k=l->Jf N p l k=some true:=by
  intro l
  induction l with
  |nil=>intro k _;rfl
  |cons x l ih=>intro k hd;rw[Jf,apj,bt hd,aoR,aeo N x (h x (px (bt hd))),aoR,cond_true];exact ih (k+1) (kI hd)
 have go:∀(l:apH cf)(k:Nat),p.aE.drop k=l->Kg N p p l k=some true:=by
  intro l
  induction l with
  |nil=>intro k _;exact go2 p.aw 0 rfl
  |cons x l ih=>
   intro k hd;rw[Kg,apj,bt hd,aoR,Xh,apC,apC,apC,apC,apC,apC];exact ih (k+1) (kI hd)
 unfold tc;rw[W7,aiu,W7,uz,uz];exact go p.aE 0 rfl
structure Br(B:Nat)(x:bu):Prop where
 eW:x.aQ.xL.length<=B
 at_:x.bG.length<=B
 qB:∀l∈x.bG,l.xL.length<=B
structure Gu(B:Nat)(e:ar):Prop where
 eW:e.aQ.xL.length<=B
 idx:e.xIdx.length<=B
 each:∀x∈e.xIdx,Br B x
 args:e.bk.length<=B
def iy(B:Nat)(e:ar):Prop:=∀y∈cy e,Gu B y
theorem iy.arg{B:Nat}{e x:ar}(h:iy B e)(hx:x∈e.bk):iy B x:=λy hy=>h y (zl hx hy)
theorem Br.mono{A B:Nat}(h:A<=B){x:bu}(k:Br A x):Br B x:=⟨apa k.eW h,apa k.at_ h,λl hl=>apa (k.qB l hl) h⟩
theorem Gu.mono{A B:Nat}(h:A<=B){e:ar}(k:Gu A e):Gu B e:=⟨apa k.eW h,apa k.idx h,λx hx=>(k.each x hx).mono h,apa k.args h⟩
abbrev qR:Nat:=140737488355328
theorem xb{a b:Nat}(h:a+b<=9223372036854775807):bh ((a:Int)+(b:Int))=((a+b:Nat):Int):=by
 rw[<-Int.natCast_add];exact DW h
def Wt(m n:Nat)(Q:Prop)(r:apJ Int):Prop:=∃v:Nat,r=some (v:Int)/\n<=v/\v<=m+500000000000000/\(v<=m->Q)
theorem MP(N:Nat)(m:Nat)(hm:m<=100000)(rec:ar->Int->apJ Int)(sw:ar->Prop)(hr:∀(x:ar)(q:Nat),q<=m->sw x->Wt q 1 (iy q x) (rec x (q:Int))):∀(l:apH ar)(k v:Nat),v<=m+500000000000000->(∀x∈l,sw x)->
 Wt m v (v+l.length<=m/\∀x∈l,iy m x) (xI N (m:Int) rec l k (v:Int))/\BN N (m:Int) rec l k (v:Int)=xI N (m:Int) rec l k (v:Int)
 |[],k,v,hv,_=>⟨⟨v,rfl,ao3 _,by omega,λh=>⟨h,λ_ h=>by cases h⟩⟩,rfl⟩
 |x::l,k,v,hv,hx=>by
  rw[xI,BN,wR];by_cases h:v<=m
  ·rw[apA h,cond_true,cond_true,show bh ((m:Int)-(v:Int))=((m-v:Nat):Int) by rw[show(m:Int)-(v:Int)=((m-v:Nat):Int) by omega];exact DW (by omega)];obtain⟨n,e1,e2,e3,e4⟩:=hr x (m-v) (Nat.sub_le _ _) (hx x aoY);rw[e1,aoR,aoR];dsimp only;rw[xb (by omega)];by_cases hn:v+n<=m
   ·obtain⟨⟨u,f1,f2,f3,f4⟩,f5⟩:=MP N m hm rec sw hr l (k+1) (v+n) (by omega) λy hy=>hx y (ao1 _ hy);refine⟨⟨u,f1,by omega,f3,λhu=> ?_⟩,f5⟩;obtain⟨g1,g2⟩:=f4 hu;refine⟨by simp only[aoV];omega,λy hy=> ?_⟩;rcases apm.1 hy with rfl|hy
    ·exact λz hz=>(e4 (by omega) z hz).mono (by omega)
    ·exact g2 y hy
   ·have stop:∀(l:apH ar)(k:Nat),xI N (m:Int) rec l k ((v+n:Nat):Int)=some ((v+n:Nat):Int)/\BN N (m:Int) rec l k ((v+n:Nat):Int)=some ((v+n:Nat):Int):=by
     intro l k;cases l with
     |nil=>exact⟨rfl,rfl⟩
     |cons y l=>rw[xI,BN,wR,apB hn];exact⟨rfl,rfl⟩
    rw[(stop l (k+1)).1,(stop l (k+1)).2];exact⟨⟨v+n,rfl,by omega,by omega,λh=>absurd h hn⟩,rfl⟩
  ·rw[apB h];exact⟨⟨v,rfl,ao3 _,by omega,λh'=>absurd h' h⟩,rfl⟩
theorem Uo(N:Nat)(m:Nat)(hm:m<=100000)(c:Int->apJ Int)(lo:Nat)(Q:Prop)(hc:∀v:Nat,v<=m+500000000000000->lo<=v->Wt m v Q (c (v:Int))):∀(l:apH aN)(k v:Nat),v<=m+500000000000000->lo<=v->(∀x∈l,x.xL.length<=qR)->
 Wt m v (Q/\∀x∈l,x.xL.length<=m) (Kl N c (m:Int) l k (v:Int))
 |[],k,v,hv,j6,_=>by
  obtain⟨u,h1,h2,h3,h4⟩:=hc v hv j6;exact⟨u,h1,h2,h3,λh=>⟨h4 h,λ_ h=>by cases h⟩⟩
 |x::l,k,v,hv,j6,hx=>by
  rw[Kl,wR];by_cases h:v<=m
  ·have yr:x.xL.length<=140737488355328:=hx x aoY;rw[apA h,cond_true];dsimp only;rw[xb (by omega)];obtain⟨u,f1,f2,f3,f4⟩:=Uo N m hm c lo Q hc l (k+1) (v+x.xL.length) (by omega) (by omega) λy hy=>hx y (ao1 _ hy);refine⟨u,f1,by omega,f3,λhu=>⟨(f4 hu).1,λy hy=> ?_⟩⟩;rcases apm.1 hy with rfl|hy
   ·omega
   ·exact(f4 hu).2 y hy
  ·rw[apB h,cond_false];obtain⟨u,h1,h2,h3,h4⟩:=hc v hv j6;exact⟨u,h1,h2,h3,λhu=>absurd (apa h2 hu) h⟩
theorem WQ(N:Nat)(m:Nat)(hm:m<=100000)(rec:ar->Int->apJ Int)(sw:ar->Prop)(hr:∀(x:ar)(q:Nat),q<=m->sw x->Wt q 1 (iy q x) (rec x (q:Int)))(e:ar)(ha:∀x∈e.bk,sw x):∀(l:apH bu)(k v:Nat),v<=m+500000000000000->(∀x∈l,Br qR x)->
 Wt m v ((e.bk.length<=m/\∀x∈e.bk,iy m x)/\∀x∈l,Br m x) (AP N (m:Int) rec e l k (v:Int))
 |[],k,v,hv,_=>by
  rw[AP];obtain⟨u,h1,h2,h3,h4⟩:=(MP N m hm rec sw hr e.bk 0 v hv ha).1;exact⟨u,h1,h2,h3,λh=>⟨⟨by have:=(h4 h).1;omega,(h4 h).2⟩,λ_ h=>by cases h⟩⟩
 |x::l,k,v,hv,hx=>by
  rw[AP,wR];by_cases h:v<=m
  ·have yr:=hx x aoY;have h1:x.aQ.xL.length<=140737488355328:=yr.eW;have h2:x.bG.length<=140737488355328:=yr.at_;rw[apA h,cond_true,xb (by omega),xb (by omega)];obtain⟨u,f1,f2,f3,f4⟩:=Uo N m hm (λbm=>AP N (m:Int) rec e l (k+1) bm) 0 _ (λv hv _=>WQ N m hm rec sw hr e ha l (k+1) v hv λy hy=>hx y (ao1 _ hy)) x.bG 0 (v+x.aQ.xL.length+x.bG.length) (by omega) (Nat.zero_le _) yr.qB;refine⟨u,f1,by omega,f3,λhu=> ?_⟩;obtain⟨⟨g1,g2⟩,g3⟩:=f4 hu;refine⟨g1,λy hy=> ?_⟩;rcases apm.1 hy with rfl|hy
   ·exact⟨by omega,by omega,g3⟩
   ·exact g2 y hy
  ·rw[apB h,cond_false];obtain⟨⟨u,h1,h2,h3,h4⟩,h5⟩:=MP N m hm rec sw hr e.bk 0 v hv ha;rw[h5];exact⟨u,h1,h2,h3,λhu=>absurd (apa h2 hu) h⟩
theorem X7(N:Nat):∀(d:Nat)(e:ar)(m:Nat),m<=100000->SizeOf.sizeOf e<d->iy qR e->Wt m 1 (iy m e) (vB N d e (m:Int))
 |0,_,_,_,h,_=>absurd h (apk _)
 |d+1,e,m,hm,h,hl=>by
  have he:=hl e aoY;have h1:e.aQ.xL.length<=140737488355328:=he.eW;have h2:e.xIdx.length<=140737488355328:=he.idx;rw[vB,show(1:Int)=((1:Nat):Int)from rfl,xb (by omega),xb (by omega)];obtain⟨u,f1,f2,f3,f4⟩:=WQ N m hm (vB N d) (λx=>SizeOf.sizeOf x<d/\iy qR x) (λx q hq hx=>X7 N d x q (by omega) hx.1 hx.2) e (λx hx=>⟨by have:=qc hx;omega,hl.arg hx⟩) e.xIdx 0 (1+e.aQ.xL.length+e.xIdx.length) (by omega) he.each;refine⟨u,f1,by omega,f3,λhu=> ?_⟩;obtain⟨⟨g1,g2⟩,g3⟩:=f4 hu;intro y hy;rcases apm.1 hy with rfl|hy
  ·exact⟨by omega,by omega,g3,g1⟩
  ·obtain⟨x,hx,hy⟩:=Kv hy;exact g2 x hx y hy
structure Lx(d:aX):Prop where
 ou:d.aO.length<=12
 red:d.aU.length<=12
 Fo:∀a∈d.aO++d.aU,a.cg.xL.length<=20
 body:iy 300 d.bR
structure nX(p:aG):Prop where
 s:p.az.length<=12
 w:p.cd.length<=12
 q:p.aE.length<=12
 d:p.aw.length<=12
 o:p.bW.length<=12
 W:∀c∈p.cd,c.aQ.xL.length<=20
 P:∀x∈p.aE,x.aO.length<=12/\∀y∈x.aO,y.xL.length<=20
 D:∀d∈p.aw,Lx d
def Bt(Q:Prop)(r:apJ Bool):Prop:=∃b,r=some b/\(b=false->Q)
theorem Bt.mono{Q R:Prop}{r:apJ Bool}(h:Bt Q r)(f:Q->R):Bt R r:=let ⟨b,h1,h2⟩:=h;⟨b,h1,λe=>f (h2 e)⟩
theorem R0(n:Nat):decide ((n:Int)>20)= !decide (n<=20):=kL n 20
theorem vK(n:Nat):decide ((n:Int)>12)= !decide (n<=12):=kL n 12
theorem Ub(N:Nat):∀(l:apH aN)(k:Nat),Bt (∀y∈l,y.xL.length<=20) (JP N l k)
 |[],_=>⟨_,rfl,λ_ _ h=>by cases h⟩
 |x::l,k=>by
  rw[JP,R0];by_cases h:x.xL.length<=20
  ·rw[apA h];refine(Ub N l (k+1)).mono λg y hy=> ?_;rcases apm.1 hy with rfl|hy
   ·exact h
   ·exact g y hy
  ·rw[apB h];exact⟨true,rfl,λh=>by cases h⟩
theorem XY(N:Nat)(d:aX)(c:apJ Bool)(Q:Prop)(hc:Bt Q c)(h1:d.aO.length<=12)(h2:d.aU.length<=12):∀(n k:Nat),k<=d.aO.length+d.aU.length->d.aO.length+d.aU.length-k<n->
 Bt (Q/\∀a∈(d.aO++d.aU).drop k,a.cg.xL.length<=20) (DF N d c n (k:Int))
 |0,k,_,h=>absurd h (apk _)
 |n+1,k,hk,h=>by
  rw[DF,xb (by omega)];by_cases hl:k<d.aO.length+d.aU.length
  ·have pH:k<(d.aO++d.aU).length:=by rw[aoT];exact hl
   rw[show decide ((k:Int)<((d.aO.length+d.aU.length:Nat):Int))=true from apA (by omega),mu (by omega),mu (by omega),show decide ((0:Int)<=(k:Int))=true from apA (by omega),cond_true,cond_true,cond_true,cond_true,apj,aoW pH,aoR,R0,List.drop_eq_getElem_cons pH,FU (by omega)];by_cases dx:((d.aO++d.aU)[k]).cg.xL.length<=20
   ·rw[apA dx];refine(XY N d c Q hc h1 h2 n (k+1) (by omega) (by omega)).mono fun⟨g1,g2⟩=>⟨g1,λy hy=> ?_⟩;rcases apm.1 hy with rfl|hy
    ·exact dx
    ·exact g2 y hy
   ·rw[apB dx];exact⟨true,rfl,λh=>by cases h⟩
  ·rw[show decide ((k:Int)<((d.aO.length+d.aU.length:Nat):Int))=false from apB (by omega),cond_false,List.drop_eq_nil_of_le (by rw[aoT];omega)];exact hc.mono λg=>⟨g,λ_ h=>by cases h⟩
theorem Z7(N m:Nat)(hm:m<=300)(hN:1000<N):∀(l:apH aX)(k:Nat),(∀d∈l,iy qR d.bR/\SizeOf.sizeOf d.bR<N)->Bt (∀d∈l,Lx d) (EI N (m:Int) l k)
 |[],_,_=>⟨_,rfl,λ_ _ h=>by cases h⟩
 |d::l,k,hd=>by
  obtain⟨d1,d2⟩:=hd d aoY;have ih:=Z7 N m hm hN l (k+1) λy hy=>hd y (ao1 _ hy);obtain⟨v,w1,w2,w3,w4⟩:=X7 N N d.bR m (by omega) d2 d1;rw[EI,vK,vK];unfold Ph;rw[w1,aoR,show decide ((v:Int)>(m:Int))= !decide (v<=m)from kL v m];by_cases h1:d.aO.length<=12
  ·rw[apA h1];by_cases h2:d.aU.length<=12
   ·rw[apA h2];by_cases h3:v<=m
    ·rw[apA h3];have:=XY N d _ _ ih h1 h2 N 0 (Nat.zero_le _) (by omega);rw[aps]at this;refine Bt.mono this fun⟨g1,g2⟩ y hy=> ?_;rcases apm.1 hy with rfl|hy
     ·exact⟨h1,h2,g2,λz hz=>(w4 h3 z hz).mono hm⟩
     ·exact g1 y hy
    ·rw[apB h3];exact⟨true,rfl,λh=>by cases h⟩
   ·rw[apB h2];exact⟨true,rfl,λh=>by cases h⟩
  ·rw[apB h1];exact⟨true,rfl,λh=>by cases h⟩
theorem abc(N m:Nat)(hm:m<=300)(hN:1000<N)(p:aG)(hd:∀d∈p.aw,iy qR d.bR/\SizeOf.sizeOf d.bR<N):∀(l:apH cf)(k:Nat),Bt ((∀d∈p.aw,Lx d)/\∀x∈l,x.aO.length<=12/\∀y∈x.aO,y.xL.length<=20) (KZ N (m:Int) p l k)
 |[],_=>(Z7 N m hm hN p.aw 0 hd).mono λg=>⟨g,λ_ h=>by cases h⟩
 |x::l,k=>by
  obtain⟨b,b1,b2⟩:=Ub N x.aO 0;rw[KZ,vK];unfold OB;rw[b1,aoR];by_cases h:x.aO.length<=12
  ·rw[apA h];cases b with
   |true=>exact⟨true,rfl,λh=>by cases h⟩
   |false=>
    refine(abc N m hm hN p hd l (k+1)).mono fun⟨g1,g2⟩=>⟨g1,λy hy=> ?_⟩;rcases apm.1 hy with rfl|hy
    ·exact⟨h,b2 rfl⟩
    ·exact g2 y hy
  ·rw[apB h];exact⟨true,rfl,λh=>by cases h⟩
theorem XK(N m:Nat)(hm:m<=300)(hN:1000<N)(p:aG)(hd:∀d∈p.aw,iy qR d.bR/\SizeOf.sizeOf d.bR<N):∀(l:apH cz)(k:Nat),Bt (((∀d∈p.aw,Lx d)/\∀x∈p.aE,x.aO.length<=12/\∀y∈x.aO,y.xL.length<=20)/\∀c∈l,c.aQ.xL.length<=20) (Lc N (m:Int) p l k)
 |[],_=>(abc N m hm hN p hd p.aE 0).mono λg=>⟨g,λ_ h=>by cases h⟩
 |c::l,k=>by
  rw[Lc,R0];by_cases h:c.aQ.xL.length<=20
  ·rw[apA h];refine(XK N m hm hN p hd l (k+1)).mono fun⟨g1,g2⟩=>⟨g1,λy hy=> ?_⟩;rcases apm.1 hy with rfl|hy
   ·exact h
   ·exact g2 y hy
  ·rw[apB h];exact⟨true,rfl,λh=>by cases h⟩
theorem adM(N m:Nat)(hm:m<=300)(hN:1000<N)(p:aG)(hd:∀d∈p.aw,iy qR d.bR/\SizeOf.sizeOf d.bR<N):Bt (nX p) (Dc N p (m:Int)):=by
 unfold Dc;rw[vK,vK,vK,vK,vK];by_cases h1:p.az.length<=12
 ·by_cases h2:p.cd.length<=12
  ·by_cases h3:p.aE.length<=12
   ·by_cases h4:p.aw.length<=12
    ·by_cases h5:p.bW.length<=12
     ·rw[apA h1,apA h2,apA h3,apA h4,apA h5];exact(XK N m hm hN p hd p.cd 0).mono fun⟨⟨g1,g2⟩,g3⟩=>⟨h1,h2,h3,h4,h5,g3,g2,g1⟩
     ·rw[apA h1,apA h2,apA h3,apA h4,apB h5];exact⟨true,rfl,λh=>by cases h⟩
    ·rw[apA h1,apA h2,apA h3,apB h4];exact⟨true,rfl,λh=>by cases h⟩
   ·rw[apA h1,apA h2,apB h3];exact⟨true,rfl,λh=>by cases h⟩
  ·rw[apA h1,apB h2];exact⟨true,rfl,λh=>by cases h⟩
 ·rw[apB h1];exact⟨true,rfl,λh=>by cases h⟩
theorem Aj:∀(m:Nm)(s:apI),s∈m.map (·.1)->∃p∈m,p.1=s/\aF m s=p.2
 |(k,v)::l,s,h=>by
  rw[aph,apm]at h;rw[aF];cases e:bL k==bL s with
  |true=>exact⟨(k,v),aoY,iJ (by simpa using e),rfl⟩
  |false=>
   obtain⟨p,h1,h2,h3⟩:=Aj l s (h.resolve_left λh=>by rw[h,BEq.rfl]at e;cases e);exact⟨p,ao1 _ h1,h2,h3⟩
theorem aa0:∀(m:Nm),(m.map (·.2)).Nodup->∀p∈m,∀q∈m,p.2=q.2->p=q
 |x::l,h,p,hp,q,hq,e=>by
  rw[aph,List.nodup_cons]at h;obtain⟨h1,h2⟩:=h;rcases apm.1 hp with e1|k1
  ·rcases apm.1 hq with e2|k2
   ·rw[e1,e2]
   ·exact absurd (List.mem_map.2 ⟨q,k2,by rw[<-e,e1]⟩) h1
  ·rcases apm.1 hq with e2|k2
   ·exact absurd (List.mem_map.2 ⟨p,k1,by rw[e,e2]⟩) h1
   ·exact aa0 l h2 p k1 q k2 e
theorem RJ{m:Nm}(hv:(m.map (·.2)).Nodup){x y:apI}(hx:x∈m.map (·.1))(hy:y∈m.map (·.1))(h:aF m x=aF m y):x=y:=by
 obtain⟨p,p1,p2,p3⟩:=Aj m x hx;obtain⟨q,q1,q2,q3⟩:=Aj m y hy;rw[p3,q3]at h;rw[<-p2,<-q2,aa0 m hv p p1 q q1 h]
def lu(V:apH apI)(f:apI->apI):Prop:=∀x∈V,∀y∈V,f x=f y->x=y
theorem lu.sub{V W:apH apI}{f:apI->apI}(h:lu V f)(hs:∀x∈W,x∈V):lu W f:=λx hx y hy=>h x (hs x hx) y (hs y hy)
theorem RU:∀(l:apH bf)(p:apJ apI),oM p l=true->(l.Pairwise λa b=>bL a.ao<bL b.ao)/\∀q,p=some q->∀x∈l,bL q<bL x.ao
 |[],_,_=>⟨.nil,λ_ _ _ h=>by cases h⟩
 |m::l,p,h=>by
  rw[AJ,aoU,aoU,aoU]at h;obtain⟨h1,h2⟩:=RU l (some m.ao) h.2.2.2;refine⟨List.pairwise_cons.2 ⟨h2 _ rfl,h1⟩,λq e x hx=> ?_⟩;subst e;have h3:bL q<bL m.ao:=by
    have:=h.2.2.1;dsimp only at this;rw[bytesLess_eq,decide_eq_true_iff]at this;exact this
  rcases apm.1 hx with rfl|hx
  ·exact h3
  ·exact List.lt_trans h3 (h2 _ rfl x hx)
theorem FT{V:apH apI}{l:aN}(h:fI V l=true):∀x∈l.xL,x.ao∈V:=λx hx=>ox.1 (api.1 h x hx)
theorem BF{V:apH apI}{m:Nm}(hi:lu V (aF m)){l:aN}(h1:dq l=true)(h2:fI V l=true):vE m l:=by
 unfold vE;rw[List.pairwise_map];have hp:=(RU l.xL none h1).1;have hm:=FT h2;refine hp.imp_of_mem fun{a b} ha hb CZ e=> ?_;have e2:=hi _ (hm a ha) _ (hm b hb) (iJ e);rw[e2]at CZ;exact List.lt_irrefl _ CZ
theorem Wp{m:Nm}{l:aN}(h:j8 l=true):vE m l:=by
 unfold j8 at h;rw[aoU,beq_iff_eq,beq_iff_eq]at h;unfold vE;rw[List.eq_nil_of_length_eq_zero h.2];exact .nil
theorem dS{n:Nat}(h:n<=300):(n+1)*24<=140737488355328:=by omega
theorem rN{S:apH apI}{l:aN}(h:fc S l=0):dq l=true/\fI S l=true:=by
 unfold fc at h;cases h1:dq l with
 |false=>rw[h1]at h;cases h
 |true=>
  rw[h1]at h;cases h2:fI S l with
  |false=>rw[h2]at h;cases h
  |true=>exact⟨rfl,rfl⟩
theorem DV{V:apH apI}{l:aN}(h:ku V l=0):fI V l=true:=by
 unfold ku at h;cases h2:fI V l with
 |false=>rw[h2]at h;cases h
 |true=>rfl
theorem BM{S:apH apI}:∀(l:apH bV)(O:apH apI),lh S O l=0->(∀a∈l,cE a.ao=true/\a.ao ∉ S++O/\fc S a.cg=0)/\(l.map (·.ao)).Nodup
 |[],_,_=>⟨λs hs=>(by cases hs),List.nodup_nil⟩
 |a::l,O,h=>by
  rw[lh]at h;cases e:fi (S++O) a.ao !=0 with
  |true=>rw[e,cond_true]at h;rw[h]at e;cases e
  |false=>
   rw[e,cond_false]at h;cases e2:fc S a.cg !=0 with
   |true=>rw[e2,cond_true]at h;rw[h]at e2;cases e2
   |false=>
    rw[e2,cond_false]at h;obtain⟨h1,h2⟩:=tV (fD e);obtain⟨k1,k2⟩:=BM l (O++[a.ao]) h;refine⟨λx hx=> ?_,List.nodup_cons.2 ⟨λhs=> ?_,k2⟩⟩
    ·rcases apm.1 hx with rfl|hx
     ·exact⟨h1,h2,fD e2⟩
     ·obtain⟨a1,a2,a3⟩:=k1 x hx;exact⟨a1,λhm=>a2 (by rcases apv.1 hm with hm|hm<;>simp [hm]),a3⟩
    ·obtain⟨y,hy,ey⟩:=List.mem_map.1 hs;exact(k1 y hy).2.1 (by rw[show y.ao=a.ao from ey];simp)
theorem rz(a b:apI):bL (a++b)=bL a++bL b:=by unfold bL;rw[ByteArray.data_append,Array.toList_append]
theorem ajW:∀k:Fin 12,∀j:Fin 12,bL (uQ k.val)=bL (uQ j.val)->k=j:=by decide
theorem ahZ{b:apI}{k j:Nat}(hk:k<12)(hj:j<12)(h:gD b k=gD b j):k=j:=by
 have h1:bL b++bL (uQ k)=bL b++bL (uQ j):=by rw[<-rz,<-rz];exact congrArg bL h
 exact congrArg Fin.val (ajW ⟨k,hk⟩ ⟨j,hj⟩ (List.append_cancel_left h1))
theorem ES{b s:apI}:∀{n k:Nat},s∈nums b k n->∃j,k<=j/\j<k+n/\s=gD b j
 |n+1,k,h=>by
  rw[nums]at h;rcases apm.1 h with rfl|h
  ·exact⟨k,ao3 _,by omega,rfl⟩
  ·obtain⟨j,h1,h2,h3⟩:=ES h;exact⟨j,by omega,by omega,h3⟩
theorem Lp(b:apI):∀n k:Nat,k+n<=12->(nums b k n).Nodup
 |0,_,_=>List.nodup_nil
 |n+1,k,h=>by
  rw[nums];refine List.nodup_cons.2 ⟨λhm=> ?_,Lp b n (k+1) (by omega)⟩;obtain⟨j,h1,h2,h3⟩:=ES hm;have:=ahZ (by omega) (by omega) h3;omega
def rE(a d:apI):Prop:=∃x y,(bL a).head?=some x/\(bL d).head?=some y/\x≠y
theorem UA{b:apI}{x:UInt8}(h:(bL b).head?=some x)(k:Nat):(bL (gD b k)).head?=some x:=by
 unfold gD;rw[rz,List.head?_append,h];rfl
theorem Vi{a d:apI}(h:rE a d)(n m:Nat)(hn:n<=12)(hm:m<=12):(nums a 0 n++nums d 0 m).Nodup:=by
 obtain⟨x,y,h1,h2,h3⟩:=h;rw[List.nodup_append];refine⟨Lp a n 0 (by omega),Lp d m 0 (by omega),λs hs t ht e=> ?_⟩;obtain⟨i,_,_,rfl⟩:=ES hs;obtain⟨j,_,_,rfl⟩:=ES ht;have:=UA h1 i;rw[e,UA h2 j]at this;exact h3 (apb this).symm
theorem rE.symm{a d:apI}(h:rE a d):rE d a:=let ⟨x,y,h1,h2,h3⟩:=h;⟨y,x,h2,h1,λe=>h3 e.symm⟩
section
variable {N:Nat} {p:aG} {a b c d:apI}
theorem yI:(mS a p).map (·.1)=p.az:=z8 ..
theorem xA:(mT b c p).map (·.1)=p.aE.map (·.ao)++p.aw.map (·.ao):=by unfold mT;rw[List.map_append,z8,z8]
theorem Ba{f:aX}:(mV a d p f).map (·.1)=dM f++p.az:=by unfold mV;rw[List.map_append,z8,yI]
theorem Ea(h:p.az.length<=12):lu p.az (aF (mS a p)):=λx hx y hy e=>RJ (m:=mS a p) (by unfold mS;rw[AY];exact Lp a _ 0 (by omega)) (by rw[yI];exact hx) (by rw[yI];exact hy) e
theorem ZS{f:aX}(ha:rE a d)(h:p.az.length<=12)(hv:(dM f).length<=12):lu (dM f++p.az) (aF (mV a d p f)):=λx hx y hy e=>RJ (m:=mV a d p f) (by unfold mV mS;rw[List.map_append,AY,AY];exact Vi ha.symm _ _ hv h) (by rw[Ba];exact hx) (by rw[Ba];exact hy) e
theorem adJ:cE (bs [])=false:=rfl
theorem VP.lK(V:VP p):∀s∈p.aE.map (·.ao)++p.aw.map (·.ao),cE s=true:=λs hs=>by
 rcases apv.1 hs with hs|hs
 ·obtain⟨x,hx,rfl⟩:=List.mem_map.1 hs;exact((A2 _ _ V.qH).1 x hx).1
 ·obtain⟨x,hx,rfl⟩:=List.mem_map.1 hs;exact((NH _ _ V.defs).1 x hx).1
theorem VP.akd(V:VP p):(p.aE.map (·.ao)++p.aw.map (·.ao)).Nodup:=by
 obtain⟨_,h1⟩:=A2 _ _ V.qH;obtain⟨h2,h3⟩:=NH _ _ V.defs;refine List.nodup_append.2 ⟨h1,h3,λs hs t ht e=> ?_⟩;obtain⟨x,hx,rfl⟩:=List.mem_map.1 ht;exact(h2 x hx).2 (List.mem_append_right _ (e▸hs))
theorem Dl(V:VP p):aF (mT b c p) (bs [])=bs []:=Jk _ _ (by
 rw[xA];intro h;have:=V.lK _ h;rw[adJ]at this;cases this)
theorem Tx{y:ar}(h:iA y=true)(h2:y.aJ≠2):j8 y.aQ=true:=by
 unfold iA at h;simp only[aoU,Bool.or_eq_true,beq_iff_eq]at h;exact h.2.2.2.2.1.resolve_left h2
theorem JL{y:ar}(h:iA y=true)(h2:y.aJ≠3):y.ao=bs []/\y.xIdx=[]:=by
 unfold iA at h;simp only[aoU,Bool.or_eq_true,beq_iff_eq]at h;obtain⟨h3,h4⟩:=h.2.2.2.2.2.1.resolve_left h2;exact⟨iJ h3,List.eq_nil_of_length_eq_zero h4⟩
theorem zp{y:ar}(h:iA y=true):∀i∈y.xIdx,kg i=true:=by
 unfold iA at h;simp only[aoU]at h;exact api.1 h.2.2.2.2.2.2
theorem L6{y:ar}(h:lr y=true):dq y.aQ=true/\∀i∈y.xIdx,dq i.aQ=true/\∀l∈i.bG,dq l=true:=by
 unfold lr mY at h;rw[aoU,apD,aoU,List.all_flatMap]at h;refine⟨h.2.1,λi hi=> ?_⟩;have:=api.1 h.2.2 i hi;unfold te at this;rw[apD,aoU]at this;exact⟨this.1,api.1 this.2⟩
theorem KB{V:apH apI}{P:apH cf}{D:apH aX}{e:ar}(h:lU V P D e=0):∀i∈e.xIdx,mh V P D i=0:=by
 unfold lU at h;cases h1:(dz P D e.ao).2.2 with
 |false=>rw[h1]at h;cases h
 |true=>
  rw[h1,cond_true]at h;cases h2:e.xIdx.length==(dz P D e.ao).2.1.length with
  |false=>rw[h2]at h;cases h
  |true=>rw[h2,cond_true]at h;exact sZ h
theorem K8{V:apH apI}{P:apH cf}{D:apH aX}{i:bu}(h:mh V P D i=0)(hb:kg i=true):(fI V i.aQ=true/\i.bG=[])\/(j8 i.aQ=true/\∀l∈i.bG,fI V l=true):=by
 unfold mh at h;unfold kg at hb;cases h1:bL i.bH==[]with
 |true=>
  rw[h1,cond_true]at h hb;exact .inl ⟨DV h,List.eq_nil_of_length_eq_zero (by simpa using hb)⟩
 |false=>
  rw[h1,cond_false]at h hb;refine .inr ⟨hb,?_⟩;cases h2:(dz P D i.bH).2.2 with
  |false=>rw[h2]at h;cases h
  |true=>
   rw[h2,cond_true]at h;cases h3:(dz P D i.bH).1.bS !=3 with
   |true=>rw[h3]at h;cases h
   |false=>
    rw[h3,cond_false]at h;cases h4:i.bG.length==(dz P D i.bH).2.1.length with
    |false=>rw[h4]at h;cases h
    |true=>rw[h4,cond_true]at h;exact λl hl=>DV (sZ h l hl)
theorem amU{k:Nat}{f:aX}{V T:Nm}(g:zq p k f)(hl:iy 300 f.bR)(hi:lu (dM f++p.az) (aF V))(hE:aF T (bs [])=bs []):uf V T f.bR:=λy hy=>by
 obtain⟨e1,e2,e3,e4,e5⟩:=y4 (yn g.body y hy);obtain⟨f1,f2⟩:=L6 e5;have ln:=hl y hy;refine⟨⟨?_,dS ln.eW⟩,λi c7=> ?_,?_,?_,λh3=> ?_⟩
 ·by_cases h2:y.aJ=2
  ·exact BF hi f1 (DV (g.qB y hy h2))
  ·exact Wp (Tx e1 h2)
 ·by_cases h3:y.aJ=3
  ·have lx:=ln.each i c7;have SB:=lx.at_;obtain⟨g1,g2⟩:=f2 i c7;refine⟨⟨?_,dS lx.eW⟩,λl hl=>⟨?_,dS (lx.qB l hl)⟩,by omega⟩
   ·rcases K8 (KB (g.reads y hy h3) i c7) (zp e1 i c7)with⟨h4,h5⟩|⟨h4,h5⟩
    ·exact BF hi g1 h4
    ·exact Wp h4
   ·rcases K8 (KB (g.reads y hy h3) i c7) (zp e1 i c7)with⟨h4,h5⟩|⟨h4,h5⟩
    ·rw[h5]at hl;cases hl
    ·exact BF hi (g2 l hl) (h5 l hl)
  ·rw[(JL e1 h3).2]at c7;cases c7
 ·have:=ln.idx;omega
 ·have:=ln.args;omega
 ·rw[(JL e1 h3).1];exact hE
theorem ail(V:VP p)(Sh:nX p)(G:∀i f,p.aw[i]?=some f->zq p i f)(hs:∀f∈p.aw,SizeOf.sizeOf f.bR<N)(ha:rE a d):BK N (mS a p) (mT b c p) (mV a d p) p:=by
 refine⟨Sh.s,Sh.w,Sh.q,Sh.d,Sh.o,λc hc=>⟨?_,dS (apa (Sh.W c hc) (by decide))⟩,λx hx=>⟨λl hl=>⟨?_,dS (apa ((Sh.P x hx).2 l hl) (by decide))⟩,(Sh.P x hx).1⟩,λf hf=> ?_⟩
 ·obtain⟨h1,h2⟩:=rN (V.wh c hc);exact BF (Ea Sh.s) h1 h2
 ·obtain⟨h1,h2⟩:=rN (sZ (((A2 _ _ V.qH).1 x hx).2.2) l hl);exact BF (Ea Sh.s) h1 h2
 ·obtain⟨k,hk⟩:=List.mem_iff_getElem?.1 hf;have g:=G k f hk;have hl:=g.len;have hv:(dM f).length<=12:=by unfold dM;rw[aoX,aoT];omega
  have hi:=ZS (p:=p) (f:=f) ha Sh.s hv;obtain⟨x1,x2⟩:=BM _ _ g.nK;have hx:∀x∈f.aO++f.aU,iK (mV a d p f) x.cg:=λx hx=>by
   obtain⟨h1,h2⟩:=rN (x1 x hx).2.2;exact⟨BF (hi.sub λs hs=>List.mem_append_right _ hs) h1 h2,dS (apa ((Sh.D f hf).Fo x hx) (by decide))⟩
  exact⟨λx h=>hx x (List.mem_append_left _ h),λx h=>hx x (List.mem_append_right _ h),hl,amU g (Sh.D f hf).body hi (Dl V),hs f hf⟩
end
structure DQ(N:Nat)(p:aG)(k:Nat)(T:List ByteArray)(d:aX):Prop where
 name:fi T d.ao=0
 type:eO d.aM=true
 l1:d.aO.length<=6
 l2:d.aU.length<=6
 nK:lh p.az [] (d.aO++d.aU)=0
 fold:qm d=0
 tp:∃t:bq,pn N (⟨p.az,[],p.aE,((p.aw.take k).drop 0),[]⟩:aG) (dM d) d.bR=some (t,0)/\((t.bS==d.aM.bS)&&((t.cb==d.aM.cb)&&((t.ca==d.aM.ca)&&((t.cJ==d.aM.cJ)&&((t.cH==d.aM.cH)&&true)))))=true
structure VQ(N:Nat)(p:aG):Prop where
 names:lH [] p.az=0
 wh:∀c∈p.cd,fc p.az c.aQ=0
 qH:uc p.az [] p.aE
 defs:∀k d,p.aw[k]?=some d->DQ N p k (p.az++p.aE.map (·.ao)++(p.aw.take k).map (·.ao)) d
 outs:∀k s,p.bW[k]?=some s->cq (p.aE.map (·.ao)++p.aw.map (·.ao)) s=true/\cq (p.bW.take k) s=false
theorem To{c m:Nat}{α:Type}{x:apJ α}{z:α}(h:(bif Nat.ble c m then x else none)=some z):x=some z:=by
 cases e:Nat.ble c m with
 |false=>rw[e]at h;cases h
 |true=>rw[e]at h;exact h
theorem MW{b:Bool}{α:Type}{x:apJ α}{z:α}(h:(bif b then x else none)=some z):b=true/\x=some z:=by
 cases b with
 |false=>cases h
 |true=>exact⟨rfl,h⟩
theorem H5{a:Int}{x:apJ Int}(h:(bif a !=0 then some a else x)=some 0):a=0/\x=some 0:=by
 cases e:a !=0 with
 |true=>rw[e]at h;simp only[cond_true]at h;rw[apb h]at e;cases e
 |false=>rw[e]at h;exact⟨fD e,h⟩
section
variable {N:Nat} {p:aG}
theorem anA(hN:16<N){k:Nat}{d:aX}{T:apH apI}(hd:p.aw[k]?=some d)(hs:p.az.length<=1000)(hx:∀x∈d.aO++d.aU,jE x.cg)(h:tU N p (k:Int) T=some 0):DQ N p k T d:=by
 unfold tU at h;obtain⟨_,h⟩:=MW h;rw[apj,hd,aoR,xP N hN,aoR]at h;obtain⟨n1,h⟩:=H5 h;rw[sk,aoR]at h;cases e1:eO d.aM with
 |false=>rw[e1]at h;cases h
 |true=>
  rw[e1,cond_true,sL,sL,js,aoR]at h;cases e2: !decide (d.aO.length<=6)|| !decide (d.aU.length<=6)with
  |true=>rw[e2]at h;cases h
  |false=>
   rw[e2,cond_false]at h;simp only[apG,Bool.not_eq_false',decide_eq_true_eq]at e2;have h:=To (To h);rw[RM N hN p.az _ hx (by rw[aoT];omega),aoR]at h;obtain⟨n2,h⟩:=H5 h;rw[QG,aoR]at h;obtain⟨n3,h⟩:=H5 h;obtain⟨_,h⟩:=MW h;rw[LY N d (by omega),aoR]at h;obtain⟨⟨t,x⟩,h1,h⟩:=dv h;obtain⟨n4,h⟩:=H5 h;dsimp only at n4 h;subst n4;refine⟨n1,e1,e2.1,e2.2,n2,n3,t,h1,?_⟩;cases e3:((t.bS==d.aM.bS)&&((t.cb==d.aM.cb)&&((t.ca==d.aM.ca)&&((t.cJ==d.aM.cJ)&&((t.cH==d.aM.cH)&&true)))))with
   |true=>rfl
   |false=>rw[e3]at h;cases h
theorem ahD(hN:16<N){k:Nat}{d:aX}{T:apH apI}(hd:p.aw[k]?=some d)(hs:p.az.length<=1000)(hx:∀x∈d.aO++d.aU,jE x.cg)(h:DQ N p k T d):tU N p (k:Int) T=some 0:=by
 obtain⟨n1,e1,l1,l2,n2,n3,t,h1,h2⟩:=h;have hk:k<p.aw.length:=(aoS.1 hd).1;unfold tU;rw[apj,hd,aoR,xP N hN,aoR,n1,sk,aoR,e1,sL,sL,js,aoR,RM N hN p.az _ hx (by rw[aoT];omega),aoR,n2,QG,aoR,n3,LY N d (by omega),aoR];have e:pn N (⟨p.az,[],p.aE,((p.aw.take k).drop 0),[]⟩:aG) ((d.aO++d.aU).map (·.ao)) d.bR=some (t,0):=h1;rw[e,aoR,apA (show(0:Int)<=(k:Int) by omega),apA l1,apA l2,apA (show k<=p.aw.length by omega),Nat.ble_eq_true_of_le (show(0+d.aO.length)*48<=140737488355328 by omega),Nat.ble_eq_true_of_le (show(d.aO.length+d.aU.length)*48<=140737488355328 by omega)];simp only[cond_true,cond_false,Bool.not_true,Bool.or_self,bne_self_eq_false,h2]
theorem VR(hD:fZ p.aw):∀(l:apH apI)(k:Nat)(at_:Int){a:Int},p.bW.drop k=l->mU N p l k at_=some (a,0)->∀i s,k<=i->p.bW[i]?=some s->cq (p.aE.map (·.ao)++p.aw.map (·.ao)) s=true/\cq (p.bW.take i) s=false
 |[],k,at_,a,hk,h,i,s,hi,hs=>by
  have:=(aoS.1 hs).1;have:=List.drop_eq_nil_iff.1 hk;omega
 |s::l,k,at_,a,hk,h,i,y,hi,hy=>by
  rw[mU,Bi N p s hD,aoR,Co]at h;cases e:cq (p.aE.map (·.ao)++p.aw.map (·.ao)) s with
  |false=>rw[e]at h;cases h
  |true=>
   rw[e]at h;simp only[cond_true]at h;obtain⟨_,h⟩:=qW h;rw[vc,aoR]at h;cases e2:cq ((p.bW.take ((k:Int)).toNat).drop 0) s with
   |true=>rw[e2]at h;cases h
   |false=>
    rw[e2]at h;rcases Nat.lt_or_ge k i with aH|jM
    ·exact VR hD l (k+1) (bh (at_+1)) (kI hk) h i y aH hy
    ·have:i=k:=by omega
     subst this;rw[bt hk]at hy;cases hy
     exact⟨e,e2⟩
theorem acf(hD:fZ p.aw)(h:∀i s,p.bW[i]?=some s->cq (p.aE.map (·.ao)++p.aw.map (·.ao)) s=true/\cq (p.bW.take i) s=false):∀(l:apH apI)(k:Nat)(at_:Int),p.bW.drop k=l->∃a,mU N p l k at_=some (a,0)
 |[],k,at_,hk=>⟨_,by rw[mU]⟩
 |s::l,k,at_,hk=>by
  obtain⟨a,ha⟩:=acf hD h l (k+1) (bh (at_+1)) (kI hk);obtain⟨h1,h2⟩:=h k s (bt hk);have hl:=HO hk;refine⟨a,?_⟩;rw[mU,Bi N p s hD,aoR,Co,h1,cond_true,vc,aoR,apj,aps,h2,apA (show k<=p.bW.length by omega)];exact ha
theorem TG(hN:16<N)(hD:fZ p.aw)(hs:p.az.length<=1000):∀(l:apH aX)(k:Nat)(at_:Int){a:Int},p.aw.drop k=l->l7 N p l k (p.az++p.aE.map (·.ao)++(p.aw.take k).map (·.ao)) at_=some (a,0)->
 (∀i d,k<=i->p.aw[i]?=some d->DQ N p i (p.az++p.aE.map (·.ao)++(p.aw.take i).map (·.ao)) d)/\∃at' a',mU N p p.bW 0 at'=some (a',0)
 |[],k,at_,a,hk,h=>⟨λi d hi hd=>by
    have:=(aoS.1 hd).1;have:=List.drop_eq_nil_iff.1 hk;omega,at_,a,h⟩
 |d::l,k,at_,a,hk,h=>by
  rw[l7]at h;obtain⟨x,e,h⟩:=dv h;cases e2:x !=0 with
  |true=>rw[e2]at h;simp only[cond_true]at h;rw[(Prod.mk.inj (apb h)).2]at e2;cases e2
  |false=>
   rw[e2]at h;obtain⟨_,h⟩:=qW h;have hx:=fD e2;rw[hx]at e;have et:p.az++p.aE.map (·.ao)++(p.aw.take k).map (·.ao)++[d.ao]=p.az++p.aE.map (·.ao)++(p.aw.take (k+1)).map (·.ao):=by
     rw[MF hk,List.map_append,ao9 (p.az++p.aE.map (·.ao))];rfl
   dsimp only at h;rw[et]at h;obtain⟨k1,k2⟩:=TG hN hD hs l (k+1) _ (kI hk) h;refine⟨λi d' hi gy=> ?_,k2⟩;rcases Nat.lt_or_ge k i with aH|jM
   ·exact k1 i d' aH gy
   ·have:i=k:=by omega
    subst this;rw[bt hk]at gy;cases gy
    exact anA hN (bt hk) hs (λx hx=>(hD.lS d (px (bt hk)) x hx).ok) e
theorem aaf(hN:16<N)(hD:fZ p.aw)(hs:p.az.length<=1000)(hq:p.aE.length<=1000)(hd:p.aw.length<=1000)(h:VQ N p):∀(l:apH aX)(k:Nat)(at_:Int),p.aw.drop k=l->∃a,l7 N p l k (p.az++p.aE.map (·.ao)++(p.aw.take k).map (·.ao)) at_=some (a,0)
 |[],k,at_,hk=>by
  obtain⟨a,ha⟩:=acf (N:=N) hD h.outs p.bW 0 at_ rfl;exact⟨a,by rw[l7];exact ha⟩
 |d::l,k,at_,hk=>by
  obtain⟨a,ha⟩:=aaf hN hD hs hq hd h l (k+1) (bh (at_+1)) (kI hk);have hl:=HO hk;have et:p.az++p.aE.map (·.ao)++(p.aw.take k).map (·.ao)++[d.ao]=p.az++p.aE.map (·.ao)++(p.aw.take (k+1)).map (·.ao):=by
   rw[MF hk,List.map_append,ao9 (p.az++p.aE.map (·.ao))];rfl
  rw[<-et]at ha;refine⟨a,?_⟩;rw[l7,ahD hN (bt hk) hs (λx hx=>(hD.lS d (px (bt hk)) x hx).ok) (h.defs k d (bt hk)),aoR,Nat.ble_eq_true_of_le (show((p.az++p.aE.map (·.ao)++(p.aw.take k).map (·.ao)).length+1)*16<=140737488355328 by
    simp only[aoT,aoX,List.length_take];omega)]
  exact ha
theorem ams(hN:16<N):∀(l:apH cf)(k:Nat)(at_:Int)(T:apH apI){a:Int},nR l->nQ N p l k (p.az++T) at_=some (a,0)->∃at' a',l7 N p p.aw 0 (p.az++(T++l.map (·.ao))) at'=some (a',0):=λl k at_ T a hl h=>(Rn hN l k at_ T hl h).2
theorem Xa(hN:16<N)(hD:fZ p.aw)(hs:p.az.length<=1000)(hq:p.aE.length<=1000)(hd:p.aw.length<=1000)(h:VQ N p):∀(l:apH cf)(k:Nat)(at_:Int)(T:apH apI),T++l.map (·.ao)=p.aE.map (·.ao)->nR l->uc p.az T l->∃a,nQ N p l k (p.az++T) at_=some (a,0)
 |[],k,at_,T,ht,_,_=>by
  obtain⟨a,ha⟩:=aaf hN hD hs hq hd h p.aw 0 at_ rfl;refine⟨a,?_⟩;rw[List.map_nil,apd]at ht;rw[List.take_zero,List.map_nil,apd]at ha;rw[nQ,ht];exact ha
 |x::l,k,at_,T,ht,hl,hp=>by
  obtain⟨a,ha⟩:=Xa hN hD hs hq hd h l (k+1) (bh (at_+1)) (T++[x.ao]) (by rw[<-ht,ao9];rfl) ⟨λy hy=>hl.len y (ao1 _ hy),λy hy=>hl.lS y (ao1 _ hy)⟩ hp.2;have hT:T.length<=1000:=by
   have:=congrArg List.length ht;rw[aoT,aoX,aoX]at this;omega
  refine⟨a,?_⟩;rw[nQ,R9 N hN x p.az T (λy hy=>(hl.lS x aoY y hy).ok),aoR,hp.1,Nat.ble_eq_true_of_le (show((p.az++T).length+1)*16<=140737488355328 by rw[aoT];omega)];show nQ N p l (k+1) (p.az++T++[x.ao]) (bh (at_+1))=_;rw[ao9];exact ha
theorem zA{α:Type}{f:α->Int}:∀{l:apH α},(∀x∈l,f x=0)->fq f l=0
 |[],_=>rfl
 |x::l,h=>by
  rw[fq,h x aoY];exact zA λy hy=>h y (ao1 _ hy)
theorem ajY(hN:16<N)(B:Bd N p){a:Int}(h:pY N p=some (a,0)):VQ N p:=by
 have hs:=B.s;have V:=Rl hN B h;unfold pY Ei at h;rw[Ku,aoR]at h;cases e:qQ p with
 |false=>rw[e]at h;cases h
 |true=>
  rw[e]at h;simp only[Bool.not_true,cond_false]at h;rw[Db hN p.az 0 rfl,aoR,List.take_zero,V.names]at h;simp only[bne_self_eq_false,cond_false]at h;rw[GJ hN hs p.cd 0 B.W,zA V.wh]at h;simp only[bne_self_eq_false,cond_false]at h;obtain⟨RQ,a1,h1⟩:=ams hN p.aE 0 2 [] B.P (by rw[apd];exact h);rw[List.nil_append]at h1;obtain⟨k2,FC,a2,h2⟩:=TG hN B.D hs p.aw 0 RQ rfl (by rw[List.take_zero,List.map_nil,apd];exact h1);exact⟨V.names,V.wh,V.qH,λk d=>k2 k d (Nat.zero_le _),λk s=>VR B.D p.bW 0 FC rfl h2 k s (Nat.zero_le _)⟩
theorem anw(hN:16<N)(B:Bd N p)(hl:qQ p=true)(h:VQ N p):∃a,pY N p=some (a,0):=by
 have hs:=B.s;obtain⟨a,ha⟩:=Xa hN B.D hs B.q B.d h p.aE 0 2 [] rfl B.P h.qH;rw[apd]at ha;refine⟨a,?_⟩;unfold pY Ei;rw[Ku,aoR,hl];simp only[Bool.not_true,cond_false];rw[Db hN p.az 0 rfl,aoR,List.take_zero,h.names];simp only[bne_self_eq_false,cond_false];rw[GJ hN hs p.cd 0 B.W,zA h.wh];simp only[bne_self_eq_false,cond_false];exact ha
end
structure Gd(V:List ByteArray)(f:ByteArray->ByteArray):Prop where
 inj:lu V f
 nm:∀x∈V,cE (f x)=true
theorem Gd.sub{V W:apH apI}{f:apI->apI}(h:Gd V f)(hs:∀x∈W,x∈V):Gd W f:=⟨h.inj.sub hs,λx hx=>h.nm x (hs x hx)⟩
section
variable {V W S:apH apI} {f g:apI->apI} {l:aN}
theorem TV(hi:lu V f)(h1:dq l=true)(h2:fI V l=true):(l.xL.map (λx=>(⟨f x.ao,x.ck⟩:bf))).Pairwise λa b=>bL a.ao≠bL b.ao:=by
 rw[List.pairwise_map];have hp:=(RU l.xL none h1).1;have hm:=FT h2;refine hp.imp_of_mem fun{a b} ha hb CZ e=> ?_;have e2:=hi _ (hm a ha) _ (hm b hb) (iJ e);rw[e2]at CZ;exact List.lt_irrefl _ CZ
theorem Zc:∀(l:apH bf)(q:apJ apI),(∀x∈l,cE x.ao=true/\(x.ck.toInt==0)=false)->(l.Pairwise λa b=>bL a.ao<bL b.ao)->(∀q',q=some q'->∀x∈l,bL q'<bL x.ao)->oM q l=true
 |[],q,_,_,_=>by cases q<;>rfl
 |m::l,q,h1,h2,h3=>by
  obtain⟨a,b⟩:=h1 m aoY;obtain⟨p1,p2⟩:=List.pairwise_cons.1 h2;rw[AJ,a,b,Zc l (some m.ao) (λx hx=>h1 x (ao1 _ hx)) p2 (λq' e x hx=>by cases e;exact p1 x hx)];cases q with
  |none=>rfl
  |some q'=>
   dsimp only;rw[bytesLess_eq,apA (h3 q' rfl m aoY)];rfl
theorem WN:∀(l:apH bf)(q:apJ apI),oM q l=true->∀m∈l,(m.ck.toInt==0)=false
 |m::l,q,h,y,hy=>by
  rw[AJ]at h;simp only[aoU]at h;rcases apm.1 hy with rfl|hy
  ·have:=h.2.1;cases e:y.ck.toInt==0 with
   |false=>rfl
   |true=>rw[e]at this;cases this
  ·exact WN l _ h.2.2.2 y hy
theorem Xx{y:bf}(h:y∈(dc f l).xL):∃x∈l.xL,y=⟨f x.ao,x.ck⟩:=by
 have:=(oD _).subset h;obtain⟨x,hx,e⟩:=List.mem_map.1 this;exact⟨x,hx,e.symm⟩
theorem yl:(dc f l).xL.length=l.xL.length:=by
 show(ib _).length=_;rw[(oD _).length_eq,aoX]
theorem YB:j8 (dc f l)=j8 l:=by
 unfold j8;rw[yl];rfl
theorem LA(G:Gd V f)(h1:dq l=true)(h2:fI V l=true):dq (dc f l)=true:=by
 refine Zc _ none (λy hy=> ?_) (zc _ (TV G.inj h1 h2)) (λq' e=>by cases e);obtain⟨x,hx,rfl⟩:=Xx hy;exact⟨G.nm _ (FT h2 x hx),WN _ _ h1 x hx⟩
theorem aaC(hw:∀x∈V,f x∈W)(h2:fI V l=true):fI W (dc f l)=true:=by
 unfold fI;rw[api];intro y hy;obtain⟨x,hx,rfl⟩:=Xx hy;exact ox.2 (hw _ (FT h2 x hx))
theorem aob(h1:dq l=true)(h2:fI S l=true):fc S l=0:=by unfold fc;rw[h1,h2];rfl
theorem Th(G:Gd S f)(hw:∀x∈S,f x∈W)(h:fc S l=0):fc W (dc f l)=0:=by
 obtain⟨h1,h2⟩:=rN h;exact aob (LA G h1 h2) (aaC hw h2)
theorem Cd{s:apI}{k:apH apI}(hi:lu V f)(hl:∀x∈k,x∈V)(hs:s∈V)(h:s ∉ k):f s ∉ k.map f:=λhm=>by
 obtain⟨x,hx,e⟩:=List.mem_map.1 hm;exact h (hi x (hl x hx) s hs e▸hx)
theorem Jw{s:apI}{T:apH apI}(h1:cE s=true)(h2:s ∉ T):fi T s=0:=by
 unfold fi;rw[h1,cond_true];cases e:cq T s with
 |false=>rfl
 |true=>exact absurd (ox.1 e) h2
theorem Wd(G:Gd V f)(hS:∀x∈S,x∈V):∀(l:apH bV)(O:apH apI),(∀x∈O,x∈V)->(∀x∈l,x.ao∈V)->lh S O l=0->lh (S.map f) (O.map f) (l.map (iD f))=0
 |[],_,_,_,_=>rfl
 |a::l,O,hO,hl,h=>by
  rw[lh]at h;cases e:fi (S++O) a.ao !=0 with
  |true=>rw[e,cond_true]at h;rw[h]at e;cases e
  |false=>
   rw[e,cond_false]at h;cases e2:fc S a.cg !=0 with
   |true=>rw[e2,cond_true]at h;rw[h]at e2;cases e2
   |false=>
    rw[e2,cond_false]at h;obtain⟨h1,h2⟩:=tV (fD e);have ha:=hl a aoY;have n1:fi (S.map f++O.map f) (iD f a).ao=0:=by
      rw[<-List.map_append];exact Jw (G.nm _ ha) (Cd G.inj (λx hx=>by
        rcases apv.1 hx with hx|hx
        ·exact hS x hx
        ·exact hO x hx) ha h2)
    have n2:fc (S.map f) (iD f a).cg=0:=Th (G.sub hS) (λx hx=>List.mem_map.2 ⟨x,hx,rfl⟩) (fD e2);have ih:=Wd G hS l (O++[a.ao]) (λx hx=>by
     rcases apv.1 hx with hx|hx
     ·exact hO x hx
     ·rw[List.mem_singleton.1 hx];exact ha) (λx hx=>hl x (ao1 _ hx)) h
    rw[List.map_append]at ih;rw[aph,lh,n1,n2];exact ih
theorem abO(G:Gd V f):∀(l S:apH apI),(∀x∈S,x∈V)->(∀x∈l,x∈V)->lH S l=0->lH (S.map f) (l.map f)=0
 |[],_,_,_,_=>rfl
 |s::l,S,hS,hl,h=>by
  rw[lH]at h;cases e:fi S s !=0 with
  |true=>rw[e]at h;simp only[cond_true]at h;rw[h]at e;cases e
  |false=>
   rw[e]at h;simp only[cond_false]at h;obtain⟨h1,h2⟩:=tV (fD e);have hs:=hl s aoY;have ih:=abO G l (S++[s]) (λx hx=>by
     rcases apv.1 hx with hx|hx
     ·exact hS x hx
     ·rw[List.mem_singleton.1 hx];exact hs) (λx hx=>hl x (ao1 _ hx)) h
   rw[List.map_append]at ih;rw[aph,lH,Jw (G.nm s hs) (Cd G.inj hS hs h2)];exact ih
def mF(f g:apI->apI)(x:cf):cf:=⟨g x.ao,x.aM,x.aO.map (dc f)⟩
theorem abN(G:Gd S f)(H:Gd V g)(Dj:∀x∈S,∀y∈V,f x≠g y):∀(l:apH cf)(T:apH apI),(∀x∈T,x∈V)->(∀x∈l,x.ao∈V)->uc S T l->uc (S.map f) (T.map g) (l.map (mF f g))
 |[],_,_,_,_=>trivial
 |x::l,T,hT,hl,⟨h,hp⟩=>by
  have hx:=hl x aoY;have ih:=abN G H Dj l (T++[x.ao]) (λy hy=>by
   rcases apv.1 hy with hy|hy
   ·exact hT y hy
   ·rw[List.mem_singleton.1 hy];exact hx) (λy hy=>hl y (ao1 _ hy)) hp
  rw[List.map_append]at ih;refine⟨?_,ih⟩;unfold pM at h ⊢;cases e:fi (S++T) x.ao !=0 with
  |true=>rw[e]at h;simp only[cond_true]at h;rw[h]at e;cases e
  |false=>
   rw[e]at h;simp only[cond_false]at h;obtain⟨h1,h2⟩:=tV (fD e);have n1:fi (S.map f++T.map g) (mF f g x).ao=0:=Jw (H.nm _ hx) λhm=>by
     rcases apv.1 hm with hm|hm
     ·obtain⟨y,hy,e⟩:=List.mem_map.1 hm;exact Dj y hy _ hx e
     ·exact Cd H.inj hT hx (λhh=>h2 (List.mem_append_right _ hh)) hm
   rw[n1];cases e1:eO x.aM with
   |false=>rw[e1]at h;cases h
   |true=>
    rw[e1]at h;simp only[cond_true]at h;cases e2:decide (x.aO.length<=6)with
    |false=>rw[e2]at h;cases h
    |true=>
     rw[e2]at h;have l6:decide ((mF f g x).aO.length<=6)=true:=by
       show decide ((x.aO.map (dc f)).length<=6)=true;rw[aoX];exact e2
     have Dq:eO (mF f g x).aM=true:=e1;rw[l6,Dq];simp only[bne_self_eq_false,cond_false,cond_true];refine zA λy hy=> ?_;obtain⟨z,hz,rfl⟩:=List.mem_map.1 hy;exact Th G (λx hx=>List.mem_map.2 ⟨x,hx,rfl⟩) (sZ h z hz)
end
structure vz(V T:List ByteArray)(y:ar):Prop where
 eW:fI V y.aQ=true
 nm:(y.aJ=3/\y.ao∈T)\/(y.aJ≠3/\y.ao=bs []/\y.xIdx=[])
 ix:∀i∈y.xIdx,fI V i.aQ=true/\(i.bH=bs []\/i.bH∈T)/\∀l∈i.bG,fI V l=true
theorem U3{V:apH apI}{l:aN}(h:j8 l=true):fI V l=true:=by
 unfold j8 at h;rw[aoU,beq_iff_eq,beq_iff_eq]at h;unfold fI;rw[List.eq_nil_of_length_eq_zero h.2];rfl
theorem Hf{P:apH cf}{D:apH aX}{s:apI}(h:(dz P D s).2.2=true):s∈P.map (·.ao)++D.map (·.ao):=by
 rw[Co]at h;exact ox.1 h
theorem ace{V:apH apI}{P:apH cf}{D:apH aX}{y:ar}(h:lU V P D y=0):(dz P D y.ao).2.2=true:=by
 unfold lU at h;cases h1:(dz P D y.ao).2.2 with
 |false=>rw[h1]at h;cases h
 |true=>rfl
theorem Vg{V:apH apI}{P:apH cf}{D:apH aX}{i:bu}(h:mh V P D i=0):i.bH=bs []\/(dz P D i.bH).2.2=true:=by
 unfold mh at h;cases h1:bL i.bH==[]with
 |true=>exact .inl (iJ (beq_iff_eq.1 h1))
 |false=>
  rw[h1,cond_false]at h;cases h2:(dz P D i.bH).2.2 with
  |false=>rw[h2]at h;cases h
  |true=>exact .inr rfl
theorem aal{V:apH apI}{P:apH cf}{D:apH aX}{y:ar}(hp:iA y=true)(h3:y.aJ=3->lU V P D y=0)(h2:y.aJ=2->ku V y.aQ=0):vz V (P.map (·.ao)++D.map (·.ao)) y:=by
 refine⟨?_,?_,λi hi=> ?_⟩
 ·by_cases e:y.aJ=2
  ·exact DV (h2 e)
  ·exact U3 (Tx hp e)
 ·by_cases e:y.aJ=3
  ·exact .inl ⟨e,Hf (ace (h3 e))⟩
  ·exact .inr ⟨e,JL hp e⟩
 ·by_cases e:y.aJ=3
  ·have hr:=KB (h3 e) i hi;refine⟨?_,(Vg hr).imp_right Hf,λl hl=> ?_⟩
   ·rcases K8 hr (zp hp i hi)with⟨a,b⟩|⟨a,b⟩
    ·exact a
    ·exact U3 a
   ·rcases K8 hr (zp hp i hi)with⟨a,b⟩|⟨a,b⟩
    ·rw[b]at hl;cases hl
    ·exact b l hl
  ·rw[(JL hp e).2]at hi;cases hi
section
variable {V T:apH apI} {f g:apI->apI}
theorem Iu{s:apI}(h:cE s=true):(bL s==[])=false:=by
 cases e:bL s==[]with
 |false=>rfl
 |true=>
  rw[show s=bs []from iJ (beq_iff_eq.1 e)]at h;cases h
theorem alm(H:Gd T g)(hg:g (bs [])=bs []){i:bu}(hf:i.bH=bs []\/i.bH∈T)(hT:∀s∈T,cE s=true)(h:kg i=true):kg (lq f g i)=true:=by
 unfold kg at h ⊢;have e1:(lq f g i).bH=g i.bH:=rfl;have e2:(lq f g i).bG.length=i.bG.length:=aoX _;have e3:j8 (lq f g i).aQ=j8 i.aQ:=YB;rw[e1,e2,e3];rcases hf with e|e
 ·rw[e]at h ⊢;rw[hg];exact h
 ·rw[Iu (hT _ e)]at h;rw[Iu (H.nm _ e)];exact h
theorem amA(H:Gd T g)(hg:g (bs [])=bs [])(hT:∀s∈T,cE s=true){y:ar}(k:vz V T y)(h:iA y=true):iA (du f g y)=true:=by
 have hi:(y.xIdx.map (lq f g)).all kg=true:=by
  rw[api];intro i hi;obtain⟨z,hz,rfl⟩:=List.mem_map.1 hi;exact alm H hg (k.ix z hz).2.1 hT (zp h z hz)
 have hn:(y.aJ==3||((bL (g y.ao)==[])&&(y.xIdx.map (lq f g)).length==0))=true:=by
  rcases k.nm with⟨a,b⟩|⟨a,b,c⟩
  ·rw[a];rfl
  ·rw[b,c,hg];simp [qj]
 rw[kx];unfold iA at h ⊢;simp only[aoU]at h ⊢;refine⟨h.1,h.2.1,h.2.2.1,h.2.2.2.1,?_,hn,hi⟩;rw[YB];exact h.2.2.2.2.1
theorem aj4(H:Gd T g)(hg:g (bs [])=bs []){y:ar}(k:vz V T y)(h:lM y=true):lM (du f g y)=true:=by
 rw[kx];unfold lM at h ⊢;simp only[aoU]at h ⊢;refine⟨?_,?_⟩
 ·rcases k.nm with⟨a,b⟩|⟨a,b,c⟩
  ·rw[H.nm _ b,Bool.or_true]
  ·rw[beq_eq_false_iff_ne.2 a];rfl
 ·rw[api];intro i hi;obtain⟨z,hz,rfl⟩:=List.mem_map.1 hi;show(bL (g z.bH)==[]||cE (g z.bH))=true;rcases (k.ix z hz).2.1 with e|e
  ·rw[e,hg];rfl
  ·rw[H.nm _ e,Bool.or_true]
theorem adq{y:ar}(h:kR y=true):kR (du f g y)=true:=by
 rw[kx];unfold kR at h ⊢;simp only[aoU,aoX]at h ⊢;refine⟨h.1,h.2.1,?_⟩;rw[List.all_map,api];intro i hi;have:=api.1 h.2.2 i hi;show decide ((i.bG.map (dc f)).length<=6)=true;rw[aoX];exact this
theorem Nz(e:ar):(du f g e).aJ=e.aJ:=by rw[kx]
theorem YF(op:Int):∀(l:apH ar)(i:Nat),qU op i (l.map (du f g))=qU op i l
 |[],_=>rfl
 |x::l,i=>by
  rw[aph,qU,qU,YF op l (i+1)];unfold mM;rw[Nz]
theorem ank{y:ar}(h:kP y=true):kP (du f g y)=true:=by
 rw[kx];unfold kP at h ⊢;dsimp only;rw[YF];exact h
theorem amT(G:Gd V f){y:ar}(k:vz V T y)(h:lr y=true):lr (du f g y)=true:=by
 obtain⟨f1,f2⟩:=L6 h;rw[kx];unfold lr at h ⊢;rw[aoU]at h ⊢;refine⟨h.1,?_⟩;unfold mY;rw[apD,aoU,List.all_flatMap];refine⟨LA G f1 k.eW,?_⟩;rw[api];intro i hi;obtain⟨z,hz,rfl⟩:=List.mem_map.1 hi;unfold te;rw[apD,aoU,api];refine⟨LA G (f2 z hz).1 (k.ix z hz).1,λl hl=> ?_⟩;obtain⟨w,hw,rfl⟩:=List.mem_map.1 hl;exact LA G ((f2 z hz).2 w hw) ((k.ix z hz).2.2 w hw)
theorem afw{y:ar}(h1:iA y=true)(h2:lM y=true)(h3:kR y=true)(h4:kP y=true)(h5:lr y=true):lE y=0:=by
 unfold lE;rw[h1,h2,h3,h4,h5];rfl
theorem ajh(G:Gd V f)(H:Gd T g)(hg:g (bs [])=bs [])(hT:∀s∈T,cE s=true){y:ar}(k:vz V T y)(h:lE y=0):lE (du f g y)=0:=by
 obtain⟨a,b,c,d,e⟩:=y4 h;exact afw (amA H hg hT k a) (aj4 H hg k b) (adq c) (ank d) (amT G k e)
theorem PV:∀(n:Nat)(e:ar),SizeOf.sizeOf e<=n->cy (du f g e)=(cy e).map (du f g)
 |0,e,h=>by cases e;rw[ar.mk.sizeOf_spec]at h;omega
 |n+1,e,h=>by
  have gen:∀l:apH ar,(∀x∈l,SizeOf.sizeOf x<=n)->gX (l.map (du f g))=(gX l).map (du f g):=by
   intro l
   induction l with
   |nil=>intro _;rfl
   |cons x l ih=>
    intro hl;rw[aph,mG,mG,List.map_append,PV n x (hl x aoY),ih λy hy=>hl y (ao1 _ hy)]
  unfold cy;rw[aph];have e1:(du f g e).bk=e.bk.map (du f g):=by rw[kx]
  rw[e1,gen e.bk λx hx=>by have:=qc hx;omega]
theorem aa8:∀(L:Nat)(e:ar),gP L (du f g e)=gP L e
 |0,_=>rfl
 |L+1,e=>by
  rw[gP,gP];have e1:(du f g e).bk=e.bk.map (du f g):=by rw[kx]
  rw[e1,List.foldl_map]
  congr 1
  funext m a
  rw[aa8 L a]
theorem US:∀l:apH ar,(∀x∈l,lE x=0)->jW l=0
 |[],_=>rfl
 |x::l,h=>by
  rw[jW,h x aoY];exact US l λy hy=>h y (ao1 _ hy)
theorem acS(G:Gd V f)(H:Gd T g)(hg:g (bs [])=bs [])(hT:∀s∈T,cE s=true){e:ar}(h:kE e=0)(k:∀y∈cy e,vz V T y):kE (du f g e)=0:=by
 have hn:=PV (f:=f) (g:=g) _ e (ao3 _);have he:jW (cy (du f g e))=0:=US _ λx hx=>by
  rw[hn]at hx;obtain⟨y,hy,rfl⟩:=List.mem_map.1 hx;exact ajh G H hg hT (k y hy) (yn h y hy)
 unfold kE at h ⊢;rw[aa8,hn,aoX];rw[hn]at he;rw[he];cases h1:decide (40<gP 40 e)with
 |true=>rw[h1]at h;cases h
 |false=>
  cases h2:decide (2000<(cy e).length)with
  |true=>rw[h1,h2]at h;cases h
  |false=>rfl
theorem ahQ{e:ar}(h:kE e=0):(cy e).length<=2000:=by
 unfold kE at h;cases h1:decide (40<gP 40 e)with
 |true=>rw[h1]at h;cases h
 |false=>
  cases h2:decide (2000<(cy e).length)with
  |true=>rw[h1,h2]at h;cases h
  |false=>have:=of_decide_eq_false h2;omega
theorem abG{e:ar}{B:Nat}(h:iy B e):iy B (du f g e):=λx hx=>by
 rw[PV _ e (ao3 _)]at hx;obtain⟨y,hy,rfl⟩:=List.mem_map.1 hx;have k:=h y hy;rw[kx];refine⟨?_,?_,λi hi=> ?_,?_⟩
 ·show(dc f y.aQ).xL.length<=B;rw[yl];exact k.eW
 ·show(y.xIdx.map _).length<=B;rw[aoX];exact k.idx
 ·obtain⟨z,hz,rfl⟩:=List.mem_map.1 hi;have kz:=k.each z hz;refine⟨?_,?_,λl hl=> ?_⟩
  ·show(dc f z.aQ).xL.length<=B;rw[yl];exact kz.eW
  ·show(z.bG.map _).length<=B;rw[aoX];exact kz.at_
  ·obtain⟨w,hw,rfl⟩:=List.mem_map.1 hl;rw[yl];exact kz.qB w hw
 ·show(y.bk.map _).length<=B;rw[aoX];exact k.args
end
theorem ah6(n:Nat):tu (n+3000)=some true:=by kernel_rfl
theorem iy.bd{e:ar}(h:iy 300 e):Rh e:=λy hy=>
 ⟨apa (h y hy).eW (by decide),apa (h y hy).idx (by decide),λx hx=>⟨apa ((h y hy).each x hx).eW (by decide),apa ((h y hy).each x hx).at_ (by decide),λl hl=>apa (((h y hy).each x hx).qB l hl) (by decide)⟩,apa (h y hy).args (by decide)⟩
theorem SA{N:Nat}{p:aG}(h:nX p)(hs:∀d∈p.aw,SizeOf.sizeOf d.bR<N):Bd N p:=
 ⟨apa h.s (by decide),apa h.w (by decide),apa h.q (by decide),apa h.d (by decide),apa h.o (by decide),
  ⟨λx hx=>apa (h.P x hx).1 (by decide),λx hx y hy=>apa ((h.P x hx).2 y hy) (by decide)⟩,
  ⟨λd hd=>by have h1:=(h.D d hd).ou;have h2:=(h.D d hd).red;omega,λd hd y hy=>apa ((h.D d hd).Fo y hy) (by decide)⟩,
  λc hc=>apa (h.W c hc) (by decide),λd hd=>⟨((h.D d hd).body.bd).ok,hs d hd⟩⟩
section
variable {N:Nat} {p:aG}
theorem alq{f g:apI->apI}{v v':aX->apI->apI}(h:∀x∈p.aw,v x=v' x):kF f g v p=kF f g v' p:=by
 have:p.aw.map (λd=>fU (v d) g d)=p.aw.map (λd=>fU (v' d) g d):=apn λx hx=>by rw[h x hx]
 show(⟨_,_,_,p.aw.map (λd=>fU (v d) g d),_⟩:aG)=_;rw[this];rfl
structure iO(N:Nat)(p:aG):Prop where
 hN:9223372036854775808<N
 V:VP p
 Sh:nX p
 G:∀i f,p.aw[i]?=some f->zq p i f
 size:∀f∈p.aw,SizeOf.sizeOf f.bR<N
theorem iO.td(h:iO N p){a b c d:apI}(ha:rE a d):BK N (mS a p) (mT b c p) (mV a d p) p:=ail h.V h.Sh h.G h.size ha
theorem aiC:rE (bs [115]) (bs [105]):=⟨115,105,rfl,rfl,by decide⟩
theorem iO.real(h:iO N p):zM N p p.az 0 []=some (cv (bs [115]) (bs [112]) (bs [100]) (bs [105]) p,0):=by
 have k:=h.td (b:=bs [112]) (c:=bs [100]) aiC;have l1:=k.s;have l3:=k.q;have l4:=k.d;rw[abI N p l3 l4 p.az 0 [] (by omega) (by rw[ao4];omega),apd];have Yl:(mS (bs [115]) p).map (·.1)=p.az:=yI;have nS:((mS (bs [115]) p).map (·.1)).Nodup:=by rw[Yl];exact(Mh _ _ h.V.names).2
 have Sw:(mT (bs [112]) (bs [100]) p).map (·.1)=p.aE.map (·.ao)++p.aw.map (·.ao):=xA;have nT:((mT (bs [112]) (bs [100]) p).map (·.1)).Nodup:=by rw[Sw];exact h.V.akd
 have pS:(mS (bs [115]) p).Perm (dR (bs [115]) 0 p.az).reverse:=(List.reverse_perm _).symm;have pT:(mT (bs [112]) (bs [100]) p).Perm ((dR (bs [100]) 0 (p.aw.map (·.ao))).reverse++(dR (bs [112]) 0 (p.aE.map (·.ao))).reverse):=by
  unfold mT;rw[<-List.reverse_append];exact(List.reverse_perm _).symm
 have eS:aF (mS (bs [115]) p)=aF (dR (bs [115]) 0 p.az).reverse:=funext λs=>SO pS nS s;have eT:aF (mT (bs [112]) (bs [100]) p)=aF ((dR (bs [100]) 0 (p.aw.map (·.ao))).reverse++(dR (bs [112]) 0 (p.aE.map (·.ao))).reverse):=funext λs=>SO pT nT s;have eV:∀f∈p.aw,aF (mV (bs [115]) (bs [105]) p f)=aF ((dR (bs [105]) 0 (dM f)).reverse++(dR (bs [115]) 0 p.az).reverse):=λf hf=>by
  obtain⟨i,hi⟩:=List.mem_iff_getElem?.1 hf;have g:=h.G i f hi;obtain⟨x1,x2⟩:=BM _ _ g.nK;refine funext λs=>SO ((List.reverse_perm _).symm.append pS) ?_ s;show((mV (bs [115]) (bs [105]) p f).map (·.1)).Nodup;rw[Ba];refine List.nodup_append.2 ⟨x2,(Mh _ _ h.V.names).2,λs hs t ht e=> ?_⟩;unfold dM at hs;obtain⟨x,hx,rfl⟩:=List.mem_map.1 hs;exact(x1 x hx).2.1 (List.mem_append_left _ (e▸ht))
 have k2:=aeO eS eT (V':=λf=>(dR (bs [105]) 0 (dM f)).reverse++(dR (bs [115]) 0 p.az).reverse) eV k;rw[amL (by rw[<-eT];exact Dl h.V) (by rw[List.length_reverse,agT];omega) k2 ?_ ?_ ?_]
 ·unfold cv;rw[eS,eT];rw[alq eV]
 ·intro s hs;rw[<-(pS.map (·.1)).mem_iff,Yl];exact hs
 ·intro x hx;rw[<-(pT.map (·.1)).mem_iff,Sw];exact List.mem_append_left _ (List.mem_map.2 ⟨x,hx,rfl⟩)
 ·intro s hs;rw[<-(pT.map (·.1)).mem_iff,Sw];exact h.V.outs s hs
end
theorem HC{α:Type}(h:α->α)(p q:α->Bool):∀l:apH α,(∀x∈l,q (h x)=p x)->(l.map h).find? q=(l.find? p).map h
 |[],_=>rfl
 |x::l,k=>by
  rw[aph,List.find?_cons,List.find?_cons,k x aoY];cases p x with
  |true=>rfl
  |false=>exact HC h p q l λy hy=>k y (ao1 _ hy)
section
variable {V W T:apH apI} {f g:apI->apI} {fS:apI->apI} {v:aX->apI->apI} {P:apH cf} {D:apH aX}
theorem KS(hi:lu T g){x s:apI}(hx:x∈T)(hs:s∈T):(bL (g x)==bL (g s))=(bL x==bL s):=by
 rw[Bool.eq_iff_iff,beq_iff_eq,beq_iff_eq];exact⟨λe=>by rw[hi x hx s hs (iJ e)],λe=>by rw[iJ e]⟩
def FG(P P':apH cf)(D D':apH aX)(g:apI->apI)(T:apH apI):Prop:=∀s∈T,(dz P' D' (g s)).1=(dz P D s).1/\(dz P' D' (g s)).2.1.length=(dz P D s).2.1.length/\(dz P' D' (g s)).2.2=(dz P D s).2.2
theorem aj2(hi:lu T g)(hP:∀x∈P,x.ao∈T)(hD:∀x∈D,x.ao∈T):FG P (P.map (mF fS g)) D (D.map λd=>fU (v d) g d) g T:=λs hs=>by
 unfold dz;rw[HC (mF fS g) (λx=>bL x.ao==bL s) (λx=>bL x.ao==bL (g s)) P λx hx=>KS hi (hP x hx) hs];rw[HC (λd=>fU (v d) g d) (mW s) (mW (g s)) D λx hx=>KS hi (hD x hx) hs];cases P.find? (λx=>bL x.ao==bL s)with
 |some x=>exact⟨rfl,aoX _,rfl⟩
 |none=>
  cases D.find? (mW s)with
  |some d=>exact⟨rfl,by show(((d.aO.map (iD (v d))).map (·.cg)).length)=_;rw[aoX,aoX];exact(aoX _).symm,rfl⟩
  |none=>exact⟨rfl,rfl,rfl⟩
theorem On(hw:∀x∈V,f x∈W){l:aN}(h:ku V l=0):ku W (dc f l)=0:=by
 unfold ku;rw[aaC hw (DV h)];rfl
theorem ac3{P':apH cf}{D':apH aX}(hw:∀x∈V,f x∈W)(F:FG P P' D D' g T)(H:Gd T g)(hg:g (bs [])=bs [])(hT:∀s∈T,cE s=true)(Ip:∀s∈P.map (·.ao)++D.map (·.ao),s∈T){i:bu}(h:mh V P D i=0):mh W P' D' (lq f g i)=0:=by
 have hf:=(Vg h).imp_right λe=>Ip _ (Hf e);unfold mh at h ⊢;have e1:(lq f g i).bH=g i.bH:=rfl;have e2:(lq f g i).bG.length=i.bG.length:=aoX _;rw[e1,e2];rcases hf with e|e
 ·rw[e]at h ⊢;rw[hg];exact On hw h
 ·obtain⟨a,b,c⟩:=F _ e;rw[Iu (hT _ e),cond_false]at h;rw[Iu (H.nm _ e),cond_false,a,b,c];cases h2:(dz P D i.bH).2.2 with
  |false=>rw[h2]at h;cases h
  |true=>
   rw[h2,cond_true]at h;cases h3:(dz P D i.bH).1.bS !=3 with
   |true=>rw[h3]at h;cases h
   |false=>
    rw[h3,cond_false]at h;cases h4:i.bG.length==(dz P D i.bH).2.1.length with
    |false=>rw[h4]at h;cases h
    |true=>
     rw[h4,cond_true]at h;refine zA λl hl=> ?_;obtain⟨z,hz,rfl⟩:=List.mem_map.1 hl;exact On hw (sZ h z hz)
theorem ajl{P':apH cf}{D':apH aX}(hw:∀x∈V,f x∈W)(F:FG P P' D D' g T)(H:Gd T g)(hg:g (bs [])=bs [])(hT:∀s∈T,cE s=true)(Ip:∀s∈P.map (·.ao)++D.map (·.ao),s∈T){e:ar}(h:lU V P D e=0):lU W P' D' (du f g e)=0/\(dz P' D' (du f g e).ao).1=(dz P D e.ao).1:=by
 have hn:e.ao∈T:=Ip _ (Hf (ace h));obtain⟨a,b,c⟩:=F _ hn;have hi:=KB h;rw[kx];refine⟨?_,a⟩;unfold lU at h ⊢;dsimp only;rw[b,c,aoX];cases h2:(dz P D e.ao).2.2 with
 |false=>rw[h2]at h;cases h
 |true=>
  rw[h2,cond_true]at h;cases h4:e.xIdx.length==(dz P D e.ao).2.1.length with
  |false=>rw[h4]at h;cases h
  |true=>
   refine zA λl hl=> ?_;obtain⟨z,hz,rfl⟩:=List.mem_map.1 hl;exact ac3 hw F H hg hT Ip (hi z hz)
end
section
variable {N:Nat} {p q:aG} {vars vars' T:apH apI} {f g:apI->apI}
structure P1(p q:aG)(vars vars' T:List ByteArray)(f g:ByteArray->ByteArray):Prop where
 w:∀x∈vars++p.az,f x∈vars'++q.az
 F:FG p.aE q.aE p.aw q.aw g T
 H:Gd T g
 hg:g (bs [])=bs []
 hT:∀s∈T,cE s=true
 PD:∀s∈p.aE.map (·.ao)++p.aw.map (·.ao),s∈T
 lC:fZ p.aw
 Nq:fZ q.aw
theorem aaS(R:P1 p q vars vars' T f g)(e:ar)(rec:aG->apH apI->ar->apJ (bq×Int)):∀(l:apH ar)(k:Nat)(acc:apH bq)(t:bq),lN N e p vars rec l k acc=some (t,0)->(∀x∈l,∀t',rec p vars x=some (t',0)->rec q vars' (du f g x)=some (t',0))->lN N (du f g e) q vars' rec (l.map (du f g)) k acc=some (t,0)
 |[],k,acc,t,h,_=>by
  rw[List.map_nil];rw[lN]at h ⊢;have e1:(du f g e).aJ=e.aJ:=Nz e;have e2:(du f g e).aM=e.aM:=by rw[kx]
  have e3:(du f g e).aQ=dc f e.aQ:=by rw[kx]
  rw[e1,e2,e3,js,aoR];rw[js,aoR]at h;cases h1:e.aJ==1||e.aJ==12 with
  |true=>rw[h1]at h;exact h
  |false=>
   rw[h1,cond_false]at h;rw[cond_false];cases h2:e.aJ==2 with
   |true=>
    rw[h2,cond_true,FI,IT,aoR]at h;rw[cond_true,FI,IT,aoR];have hz:ku (vars++p.az) e.aQ=0:=congrArg Prod.snd (apb h);rw[On R.w hz];rw[hz]at h;exact h
   |false=>
    rw[h2,cond_false]at h;rw[cond_false];cases h3:e.aJ==3 with
    |true=>
     rw[h3,cond_true,IS N vars p R.lC,aoR]at h;rw[cond_true,IS N vars' q R.Nq,aoR];have hz:lU (vars++p.az) p.aE p.aw e=0:=YU (apb h);obtain⟨k1,k2⟩:=ajl R.w R.F R.H R.hg R.hT R.PD hz;rw[k1,k2];rw[hz]at h;exact h
    |false=>
     rw[h3,cond_false]at h;rw[cond_false];exact h
 |x::l,k,acc,t,h,hr=>by
  rw[aph];rw[lN]at h ⊢;obtain⟨⟨t',z⟩,h1,h⟩:=dv h;cases hz:z !=0 with
  |true=>dsimp only at h;rw[hz]at h;simp only[cond_true]at h;rw[(Prod.mk.inj (apb h)).2]at hz;cases hz
  |false=>
   have tw:=fD hz;subst tw;rw[hr x aoY t' h1,aoR];dsimp only at h ⊢;simp only[bne_self_eq_false,cond_false]at h ⊢;obtain⟨hb,h⟩:=MW h;rw[hb,cond_true];exact aaS R e rec l (k+1) (acc++[t']) t h λy hy=>hr y (ao1 _ hy)
theorem V7(R:P1 p q vars vars' T f g):∀(d:Nat)(e:ar)(t:bq),sX N d p vars e=some (t,0)->sX N d q vars' (du f g e)=some (t,0)
 |0,e,t,h=>by cases h
 |d+1,e,t,h=>by
  rw[sX]at h ⊢;have e1:(du f g e).bk=e.bk.map (du f g):=by rw[kx]
  rw[e1];exact aaS R e _ e.bk 0 [] t h λx hx t' ht=>V7 R d x t' ht
theorem WV{e:ar}{t:bq}(h:pn N p vars e=some (t,0)):rZ N e=some 0/\mM e=false/\w9 N p vars e=some (t,0):=by
 unfold pn at h;cases e1:rZ N e with
 |none=>rw[e1]at h;cases h
 |some a=>
  rw[e1,aoR]at h;cases h1:a !=0 with
  |true=>rw[h1,cond_true]at h;rw[(Prod.mk.inj (apb h)).2]at h1;cases h1
  |false=>
   rw[h1,cond_false,D9,aoR]at h;cases h2:mM e with
   |true=>rw[h2]at h;cases h
   |false=>
    rw[h2,cond_false]at h;cases e3:w9 N p vars e with
    |none=>rw[e3]at h;cases h
    |some q=>
     rw[e3,aoR]at h;cases h4:q.2 !=0 with
     |true=>rw[h4,cond_true]at h;rw[(Prod.mk.inj (apb h)).2]at h4;cases h4
     |false=>
      rw[h4,cond_false]at h;have hq:=(Prod.mk.inj (apb h)).1;refine⟨by rw[fD h1],rfl,?_⟩;obtain⟨q1,q2⟩:=q;dsimp only at hq h4;rw[hq,fD h4]
theorem ac9(R:P1 p q vars vars' T f g){e:ar}{t:bq}(h:pn N p vars e=some (t,0))(hv:rZ N (du f g e)=some 0):pn N q vars' (du f g e)=some (t,0):=by
 obtain⟨_,h2,h3⟩:=WV h;have hc:mM (du f g e)=false:=by
  unfold mM at h2 ⊢;rw[Nz];exact h2
 unfold pn;rw[hv,aoR,D9,aoR,hc];have:w9 N q vars' (du f g e)=some (t,0):=V7 R N e t h3;rw[this];rfl
end
def lK(p:aG):apH apI:=p.aE.map (·.ao)++p.aw.map (·.ao)
structure Ow(p:aG)(f g:ByteArray->ByteArray)(v:aX->ByteArray->ByteArray):Prop where
 S:Gd p.az f
 T:Gd (lK p) g
 dj:∀x∈p.az,∀y∈lK p,f x≠g y
 V:∀d∈p.aw,Gd (dM d++p.az) (v d)
 agree:∀d∈p.aw,∀s∈p.az,v d s=f s
 nil:g (bs [])=bs []
section
variable {N:Nat} {p:aG} {f g:apI->apI} {v:aX->apI->apI}
theorem W8(h:nX p):nX (kF f g v p):=by
 refine⟨?_,?_,?_,?_,?_,λc hc=> ?_,λx hx=> ?_,λd hd=> ?_⟩
 ·show(p.az.map f).length<=12;rw[aoX];exact h.s
 ·show(p.cd.map _).length<=12;rw[aoX];exact h.w
 ·show(p.aE.map _).length<=12;rw[aoX];exact h.q
 ·show(p.aw.map _).length<=12;rw[aoX];exact h.d
 ·show(p.bW.map _).length<=12;rw[aoX];exact h.o
 ·obtain⟨y,hy,rfl⟩:=List.mem_map.1 hc;rw[yl];exact h.W y hy
 ·obtain⟨y,hy,rfl⟩:=List.mem_map.1 hx;refine⟨?_,λl hl=> ?_⟩
  ·show(y.aO.map _).length<=12;rw[aoX];exact(h.P y hy).1
  ·obtain⟨z,hz,rfl⟩:=List.mem_map.1 hl;rw[yl];exact(h.P y hy).2 z hz
 ·obtain⟨y,hy,rfl⟩:=List.mem_map.1 hd;have k:=h.D y hy;refine⟨?_,?_,λa ha=> ?_,abG k.body⟩
  ·show(y.aO.map _).length<=12;rw[aoX];exact k.ou
  ·show(y.aU.map _).length<=12;rw[aoX];exact k.red
  ·have ha':a∈(y.aO++y.aU).map (iD (v y)):=by rw[List.map_append];exact ha
   obtain⟨z,hz,rfl⟩:=List.mem_map.1 ha';show(dc (v y) z.cg).xL.length<=20;rw[yl];exact k.Fo z hz
theorem TH(d:aX)(h:apI->apI):dM (fU h g d)=(dM d).map h:=by
 unfold dM;show(d.aO.map (iD h)++d.aU.map (iD h)).map (·.ao)=_;rw[<-List.map_append,List.map_map,List.map_map];rfl
theorem aml(d:aX)(h:apI->apI):qm (fU h g d)=qm d:=by
 unfold qm;have e1:(fU h g d).aU.length=d.aU.length:=aoX _;have e2:(fU h g d).aO.length=d.aO.length:=aoX _;rw[e1,e2];rfl
theorem XE(h:nX p):fZ p.aw:=⟨λd hd=>by have h1:=(h.D d hd).ou;have h2:=(h.D d hd).red;omega,λd hd y hy=>apa ((h.D d hd).Fo y hy) (by decide)⟩
theorem iy.ok{e:ar}(h:iy 300 e):po e:=h.bd.ok
theorem adz(hN:2147483648<N)(V:VP p)(Sh:nX p)(R:Ow p f g v){k:Nat}{d:aX}(hd:p.aw[k]?=some d)(hs:SizeOf.sizeOf d.bR<N)(b8:SizeOf.sizeOf (du (v d) g d.bR)<N)
 (h:DQ N p k (p.az++p.aE.map (·.ao)++(p.aw.take k).map (·.ao)) d):
 DQ N (kF f g v p) k ((kF f g v p).az++(kF f g v p).aE.map (·.ao)++((kF f g v p).aw.take k).map (·.ao)) (fU (v d) g d):=by
 obtain⟨n1,n2,l1,l2,n3,n4,t,h1,h2⟩:=h;have hm:=px hd;have hV:=R.V d hm;have Nc:d.ao∈lK p:=List.mem_append_right _ (List.mem_map.2 ⟨d,hm,rfl⟩);have eS:p.az.map f=p.az.map (v d):=apn λs hs=>(R.agree d hm s hs).symm;have eP:(kF f g v p).aE.map (·.ao)=(p.aE.map (·.ao)).map g:=by
  show(p.aE.map (mF f g)).map (·.ao)=_;rw[List.map_map,List.map_map];rfl
 have eD:(kF f g v p).aw.take k=(p.aw.take k).map (λd=>fU (v d) g d):=by
  show(p.aw.map _).take k=_;rw[List.map_take]
 have eDn:((kF f g v p).aw.take k).map (·.ao)=((p.aw.take k).map (·.ao)).map g:=by
  rw[eD,List.map_map,List.map_map];rfl
 have sub:∀x∈p.aE.map (·.ao)++(p.aw.take k).map (·.ao),x∈lK p:=λx hx=>by
  rcases apv.1 hx with hx|hx
  ·exact List.mem_append_left _ hx
  ·obtain⟨y,hy,rfl⟩:=List.mem_map.1 hx;exact List.mem_append_right _ (List.mem_map.2 ⟨y,List.mem_of_mem_take hy,rfl⟩)
 refine⟨?_,n2,?_,?_,?_,by rw[aml];exact n4,t,?_,h2⟩
 ·obtain⟨a,b⟩:=tV n1;refine Jw (R.T.nm _ Nc) ?_;rw[eP,eDn,ao9,<-List.map_append];intro gZ;rcases apv.1 gZ with gZ|gZ
  ·obtain⟨y,hy,e⟩:=List.mem_map.1 gZ;exact R.dj y hy _ Nc e
  ·exact Cd R.T.inj sub Nc (λhh=>b (by rw[ao9];exact List.mem_append_right _ hh)) gZ
 ·show(d.aO.map _).length<=6;rw[aoX];exact l1
 ·show(d.aU.map _).length<=6;rw[aoX];exact l2
 ·show lh (p.az.map f) [] (d.aO.map (iD (v d))++d.aU.map (iD (v d)))=0;rw[eS,<-List.map_append];exact Wd hV (λx hx=>List.mem_append_right _ hx) _ [] (λx hx=>by cases hx) (λx hx=>List.mem_append_left _ (List.mem_map.2 ⟨x,hx,rfl⟩)) n3
 ·rw[TH];have lC:=XE Sh;have Nq:=XE (W8 (f:=f) (g:=g) (v:=v) Sh);have Yq:=(Sh.D d hm).body;have hT:=V.lK;have PX:=Ue N _ (dM d) (by rw[aps];exact Gi lC k) d.bR t h1;rw[aps]at h1 PX ⊢;have lI:kE d.bR=0:=by
    have a:=(WV h1).1;rw[HR N hN _ hs Yq.ok]at a;exact apb a
  have akf:kE (du (v d) g d.bR)=0:=acS hV R.T R.nil hT lI λy hy=>by
   have pl:=(y4 (yn lI y hy)).1;have nv:=aal pl (PX y hy).1 (PX y hy).2;exact⟨nv.eW,nv.nm.imp_left (fun⟨a,b⟩=>⟨a,sub _ b⟩),λi hi=>⟨(nv.ix i hi).1,(nv.ix i hi).2.1.imp_right (sub _),(nv.ix i hi).2.2⟩⟩
  refine ac9 (T:=lK p) (f:=v d) ⟨λx hx=> ?_,?_,R.T,R.nil,hT,sub,Gi lC k,?_⟩ h1 ?_
  ·show v d x∈(dM d).map (v d)++p.az.map f;rw[eS,<-List.map_append];exact List.mem_map.2 ⟨x,hx,rfl⟩
  ·show FG p.aE (p.aE.map (mF f g)) (p.aw.take k) ((kF f g v p).aw.take k) g (lK p);rw[eD];exact aj2 R.T.inj (λx hx=>List.mem_append_left _ (List.mem_map.2 ⟨x,hx,rfl⟩)) (λx hx=>List.mem_append_right _ (List.mem_map.2 ⟨x,List.mem_of_mem_take hx,rfl⟩))
  ·exact Gi Nq k
  ·show rZ N (du (v d) g d.bR)=some 0;rw[HR N hN _ b8 (abG Yq).ok,akf]
theorem al0(hN:2147483648<N)(V:VP p)(Sh:nX p)(R:Ow p f g v)(hs:∀d∈p.aw,SizeOf.sizeOf d.bR<N)(b8:∀d∈(kF f g v p).aw,SizeOf.sizeOf d.bR<N)(h:VQ N p):VQ N (kF f g v p):=by
 have eP:(kF f g v p).aE.map (·.ao)=(p.aE.map (·.ao)).map g:=by
  show(p.aE.map (mF f g)).map (·.ao)=_;rw[List.map_map,List.map_map];rfl
 have eD:(kF f g v p).aw.map (·.ao)=(p.aw.map (·.ao)).map g:=by
  show(p.aw.map (λd=>fU (v d) g d)).map (·.ao)=_;rw[List.map_map,List.map_map];rfl
 refine⟨?_,λc hc=> ?_,?_,λk d hd=> ?_,λk s hk=> ?_⟩
 ·exact abO R.S p.az [] (λx hx=>by cases hx) (λx hx=>hx) h.names
 ·obtain⟨y,hy,rfl⟩:=List.mem_map.1 hc;exact Th R.S (λx hx=>List.mem_map.2 ⟨x,hx,rfl⟩) (h.wh y hy)
 ·exact abN R.S R.T R.dj p.aE [] (λx hx=>by cases hx) (λx hx=>List.mem_append_left _ (List.mem_map.2 ⟨x,hx,rfl⟩)) h.qH
 ·have gy:(p.aw.map (λd=>fU (v d) g d))[k]?=some d:=hd;rw[aoZ]at gy;obtain⟨e,he,rfl⟩:=Option.map_eq_some_iff.1 gy;have hm:=px he;exact adz hN V Sh R he (hs e hm) (b8 _ (List.mem_map.2 ⟨e,hm,rfl⟩)) (h.defs k e he)
 ·have lF:(p.bW.map g)[k]?=some s:=hk;rw[aoZ]at lF;obtain⟨e,he,rfl⟩:=Option.map_eq_some_iff.1 lF;obtain⟨a,b⟩:=h.outs k e he;have HF:e∈lK p:=ox.1 a;refine⟨?_,?_⟩
  ·rw[eP,eD,<-List.map_append];exact ox.2 (List.mem_map.2 ⟨e,HF,rfl⟩)
  ·show cq ((p.bW.map g).take k) (g e)=false;rw[<-List.map_take];cases hh:cq ((p.bW.take k).map g) (g e)with
   |false=>rfl
   |true=>
    exact absurd (ox.1 hh) (Cd R.T.inj (λx hx=>V.outs x (List.mem_of_mem_take hx)) HF (XI b))
end
theorem aA(l:apH UInt8):(bs l).size=l.length:=rfl
theorem aV{c:Nat}{α:Type}{x z:apJ α}(h:c<=9223372036854775807)(k:x=z):(bif Nat.ble c 9223372036854775807 then x else none)=z:=by
 rw[Nat.ble_eq_true_of_le h];exact k
theorem aB{α β:Type}{o:apJ α}{v:α}{f:α->apJ β}{z:apJ β}(h:o=some v)(k:f v=z):Option.bind o f=z:=by rw[h];exact k
theorem bE{α:Type}{b:Bool}{x y z:α}(h:b=true)(k:x=z):(bif b then x else y)=z:=by rw[h];exact k
theorem aY{α:Type}{b:Bool}{x y z:α}(h:b=false)(k:y=z):(bif b then x else y)=z:=by rw[h];exact k
theorem mJ{N:Nat}{a b:apI}(h:b.size+a.size<=140737488355328):fg N a b=some (b++a):=by
 unfold fg Ai;rw[Nat.ble_eq_true_of_le h];rfl
theorem qD{N:Nat}{a b:apI}(h:b.size+a.size<=140737488355328):l8 N a b=some (b++a):=by
 unfold l8 Ai;rw[Nat.ble_eq_true_of_le h];rfl
theorem pk(a:apI):a++bs []=a:=iJ (by rw[rz];exact apd _)
theorem kD(a:apI):bs []++a=a:=iJ (by rw[rz];rfl)
theorem FD(a:apI):(bL a==bL (bs []))=(a.size==0):=by
 rw[nk,qj];cases bL a<;>rfl
theorem aba{a:apI}(h:(a.size==0)=true):a=bs []:=iJ (by rw[nk,beq_iff_eq]at h;exact List.length_eq_zero_iff.1 h)
def sW(n:Nat):apI:=bs (mR 20 n [])
theorem XF:∀(f u:Nat)(a:apH UInt8),(mR f u a).length<=f+a.length
 |0,_,a=>by rw[mR];omega
 |f+1,u,a=>by
  rw[mR];cases Nat.blt u 10 with
  |true=>simp only[cond_true,aoV];omega
  |false=>have h:=XF f (u / 10) (UInt8.ofNat (48+u%10)::a);simp only[cond_false,aoV]at h ⊢;omega
theorem xY(n:Nat):(sW n).size<=20:=XF 20 n []
theorem acv(n:Int):kY n=bif decide (n<0)then bs [45]++sW n.natAbs else sW n.toNat:=by
 unfold kY sW;cases decide (n<0)with
 |false=>rfl
 |true=>rw[cond_true,cond_true];exact iJ (by rw[rz];rfl)
theorem og(n:Int):(kY n).size<=21:=by
 rw[acv];cases decide (n<0)with
 |false=>have:=xY n.toNat;simp only[cond_false];omega
 |true=>have:=xY n.natAbs;simp only[cond_true,ByteArray.size_append,aA,aoV,ao4];omega
theorem Sc(N:Nat)(v:Int64):AG N v 10=some (kY v.toInt):=rfl
theorem Wl(N n:Nat)(h:n<18446744073709551616):uF N (n:Int) 10=some (sW n):=by
 unfold uF Nt IN;rw[apA (show(0:Int)<=(n:Int) by omega),apA (show(n:Int)<18446744073709551616 by omega)];rfl
theorem Uy(N:Nat)(v:Int)(h:bh v=v):y0 N v=some (kY v):=by
 unfold y0 Qc;rw[h,apC,cond_true];have e:(Int64.ofInt v).toInt=v:=by rw[Int64.toInt_ofInt,<-xf];exact h
 exact congrArg (λx=>some (kY x)) e
theorem agt(c:Nat)(h:c<10):zt [(IntKind.u8.wrap (IntKind.u64.wrap ((48:Int)+((c:Nat):Int))))]=bs [UInt8.ofNat (48+c)]:=by
 have:∀c:Fin 10,zt [(IntKind.u8.wrap (IntKind.u64.wrap ((48:Int)+((c.val:Nat):Int))))]=bs [UInt8.ofNat (48+c.val)]:=by decide
 exact this ⟨c,h⟩
theorem Vk(c:Nat)(h:c<10):(bs [48,49,50,51,52,53,54,55,56,57]).extract c (c+1)=bs [UInt8.ofNat (48+c)]:=by
 have:∀c:Fin 10,(bs [48,49,50,51,52,53,54,55,56,57]).extract c.val (c.val+1)=bs [UInt8.ofNat (48+c.val)]:=by decide
 exact this ⟨c,h⟩
theorem Pg(c:UInt8)(a:apI):bs [c]++a=bs (c::bL a):=iJ (by rw[rz];rfl)
theorem QZ(l:apH UInt8):bL (bs l)=l:=rfl
theorem Zj(u:Nat):((u:Int)).tmod 10=((u%10:Nat):Int):=by rw[Int.tmod_eq_emod_of_nonneg (by omega)];rfl
theorem abk(u:Nat):IntKind.u64.wrap (((u:Int)).tdiv 10)=IntKind.u64.wrap ((u / 10:Nat):Int):=by rw[Int.tdiv_eq_ediv_of_nonneg (by omega)];rfl
theorem ZT{u:Nat}(h:u<18446744073709551616):IntKind.u64.wrap (u:Int)=(u:Int):=by rw[tg];omega
theorem VM{u v:Nat}(h:u<v):Nat.blt u v=true:=by rw[Nat.blt_eq];exact h
theorem acp{u v:Nat}(h:¬u<v):Nat.blt u v=false:=by rw[<-Bool.not_eq_true,Nat.blt_eq];exact h
theorem WY(N:Nat):∀(f k u:Nat)(a:apI),u<18446744073709551616->u<10^(f+1)->f<k->a.size<=100-f->f<=50->HL N k (u:Int) a=some (bs (mR (f+1) u (bL a)))
 |f,0,_,_,_,_,h,_,_=>by omega
 |f,k+1,u,a,hu,hp,hk,ha,hf=>by
  rw[HL,Zj,abk,ZT (show u / 10<18446744073709551616 by omega),agt _ (by omega),Pg];refine aV (by rw[aA,List.length_singleton];omega) ?_;rw[mR];by_cases bM:u<10
  ·rw[VM bM,show u / 10=0 by omega,show u%10=u by omega];rfl
  ·rw[acp bM];refine aY (by rw[beq_eq_false_iff_ne];omega) ?_;cases f with
   |zero=>rw[Nat.pow_succ]at hp;simp at hp;omega
   |succ f=>
    rw[cond_false];exact WY N f k (u / 10) (bs (UInt8.ofNat (48+u%10)::bL a)) (by omega) (by rw[Nat.div_lt_iff_lt_mul (by decide)];rw[Nat.pow_succ]at hp;exact hp) (by omega) (by rw[aA,aoV,<-nk];omega) (by omega)
theorem UL(N n:Nat)(hN:50<N)(h:n<18446744073709551616):PU N (n:Int)=some (sW n):=
 WY N 19 N n (bs []) h (EA (by omega)) (by omega) (by rw[aA];decide) (by omega)
theorem Ws(N:Nat):∀(f k u:Nat)(a:apI),u<18446744073709551616->u<10^(f+1)->f<k->a.size<=100-f->f<=50->FY N k (u:Int) a=some (bs (mR (f+1) u (bL a)))
 |f,0,_,_,_,_,h,_,_=>by omega
 |f,k+1,u,a,hu,hp,hk,ha,hf=>by
  have one:∀c:Nat,c<10->IntKind.u64.wrap ((c:Int)+1)=((c+1:Nat):Int):=λc hc=>by rw[tg];omega
  rw[FY,Zj,abk,ZT (show u / 10<18446744073709551616 by omega),one _ (Nat.mod_lt _ (by decide)),apj,apj,Vk _ (Nat.mod_lt _ (by decide)),Pg];rw[mR];by_cases bM:u<10
  ·rw[VM bM];refine aY (apB (by omega)) ?_;rw[one _ bM,apj,apj,Vk _ bM,Pg];refine bE (apA (by omega)) (bE (apA (by omega)) (bE (apA (by omega)) (bE (apA (by rw[aA];simp only[aoV,ao4];omega)) (aV (by rw[aA,List.length_singleton];omega) rfl))))
  ·rw[acp bM];refine bE (apA (by omega)) ?_;refine bE (apA (by omega)) (bE (apA (by omega)) (bE (apA (by omega)) (bE (apA (by rw[aA];simp only[aoV,ao4];omega)) (aV (by rw[aA,List.length_singleton];omega) ?_))));cases f with
   |zero=>rw[Nat.pow_succ]at hp;simp at hp;omega
   |succ f=>
    rw[cond_false];exact Ws N f k (u / 10) (bs (UInt8.ofNat (48+u%10)::bL a)) (by omega) (by rw[Nat.div_lt_iff_lt_mul (by decide)];rw[Nat.pow_succ]at hp;exact hp) (by omega) (by rw[aA,aoV,<-nk];omega) (by omega)
theorem Zs(N n:Nat)(hN:50<N)(h:n<18446744073709551616):HQ N (n:Int)=some (sW n):=
 Ws N 19 N n (bs []) h (EA (by omega)) (by omega) (by rw[aA];decide) (by omega)
theorem anW(N:Nat)(v:Int64):yv N v=some ((v.toInt.natAbs:Nat):Int):=IA N v
theorem Kh(N:Nat)(v:Int64):EM N v=some ((v.toInt.natAbs:Nat):Int):=by
 have h1:=v.le_toInt;have h2:=v.toInt_lt;unfold EM;by_cases h:v.toInt<0
 ·refine bE (apA h) ?_;have e:(-(v+(1:Int64))).toInt= -(v.toInt+1):=by
   rw[Int64.toInt_neg,Int64.toInt_add,show(1:Int64).toInt=1 from rfl];rw[Int.bmod_eq_of_le (n:=v.toInt+1) (m:=2^64) (by omega) (by omega),Int.bmod_eq_of_le (n:= -(v.toInt+1)) (m:=2^64) (by omega) (by omega)]
  rw[e,tg,tg];exact congrArg some (by omega)
 ·refine aY (apB h) ?_;rw[tg];exact congrArg some (by omega)
theorem Tk(N:Nat)(v:Int64):AB N v=some ((v.toInt.natAbs:Nat):Int):=Kh N v
theorem zS(v:Int64):v.toInt.natAbs<18446744073709551616:=by
 have h1:=v.le_toInt;have h2:=v.toInt_lt;omega
theorem K4(N:Nat)(hN:50<N)(v:Int64):nO N v=some (kY v.toInt):=by
 unfold nO;rw[acv,Tk,aoR,Zs N _ hN (zS v),aoR,aoR];cases h:decide (v.toInt<0)with
 |true=>
  have:=xY v.toInt.natAbs;exact aV (by(first|omega|(simp only[ByteArray.size_append,aA,aoV,ao4]at*;omega))) rfl
 |false=>
  have h':=of_decide_eq_false h;rw[cond_false,cond_false,Zs N _ hN (zS v),aoR,show v.toInt.natAbs=v.toInt.toNat by omega]
theorem Ms(n:Nat):((n:Int) !=1)= !(n==1):=Oq n 1
def EE(e n:Bool):apI:=bif e then(bif n then bs [45]else bs [])else bif n then bs [32,45,32]else bs [32,43,32]
def vm(c:Int64)(s:apI):apI:=bif s.size==0 then sW c.toInt.natAbs else bif c.toInt.natAbs==1 then s else sW c.toInt.natAbs++bs [42]++s
def um(c:Int64)(s a:apI):apI:=a++EE (a.size==0) (decide (c.toInt<0))++vm c s
theorem anb(e n:Bool):(EE e n).size<=3:=by cases e<;>cases n<;>decide
theorem anV(c:Int64)(s:apI):(vm c s).size<=21+s.size:=by
 have:=xY c.toInt.natAbs;unfold vm;cases s.size==0<;>cases c.toInt.natAbs==1<;>simp only[cond_true,cond_false]<;>(first|omega|(simp only[ByteArray.size_append,aA,aoV,ao4]at*;omega))
theorem Mc(c:Int64)(s a:apI):(um c s a).size<=a.size+24+s.size:=by
 have h1:=anb (a.size==0) (decide (c.toInt<0));have h2:=anV c s;unfold um;(first|omega|(simp only[ByteArray.size_append,aA,aoV,ao4]at*;omega))
theorem XV(N:Nat)(c:Int64)(a b:apI)(h:a.size+b.size<=1000000000):L2 N a (decide (c.toInt<0)) b=some (a++EE (a.size==0) (decide (c.toInt<0))++b):=by
 unfold L2 EE;rw[FD];cases e:a.size==0 with
 |true=>
  rw[aba e,kD];cases decide (c.toInt<0)with
  |true=>exact aV (by(first|omega|(simp only[ByteArray.size_append,aA,aoV,ao4]at*;omega))) rfl
  |false=>rw[cond_true,cond_false,kD];rfl
 |false=>
  cases decide (c.toInt<0)with
  |true=>exact aV (by(first|omega|(simp only[ByteArray.size_append,aA,aoV,ao4]at*;omega))) (aV (by(first|omega|(simp only[ByteArray.size_append,aA,aoV,ao4]at*;omega))) rfl)
  |false=>exact aV (by(first|omega|(simp only[ByteArray.size_append,aA,aoV,ao4]at*;omega))) (aV (by(first|omega|(simp only[ByteArray.size_append,aA,aoV,ao4]at*;omega))) rfl)
theorem HW(N:Nat)(c:Int64)(s v:apI)(J:apI->apJ apI)(hJ:∀x,J x=(fg N s x).bind λy=>some y)(h:v.size+21+s.size<=140737488355328):
 ((yv N c).bind λv7=>
  Option.bind (bif (bL s==bL (bs []))then some true else some (v7 !=1)) λv8=>
  bif v8 then
   Option.bind (uF N v7 (10:Int)) λv11=>
   (fg N v11 v).bind λv12=>
   bif (bL s==bL (bs []))then J v12 else Option.bind (fg N (bs [42]) v12) λba=>J ba
  else J v)=some (v++vm c s):=by
 have hd:=xY c.toInt.natAbs;have Q3:∀x:apI,x.size+s.size<=140737488355328->J x=some (x++s):=λx hx=>by rw[hJ,mJ hx,aoR]
 refine aB (anW N c) ?_;rw[FD];unfold vm;cases e:s.size==0 with
 |true=>
  refine aB rfl (bE rfl (aB (Wl N _ (zS c)) (aB (mJ (by omega)) ?_)));simp only[cond_true];rw[Q3 _ (by(first|omega|(simp only[ByteArray.size_append,aA,aoV,ao4]at*;omega)))];have e2:=aba e;rw[e2,pk]
 |false=>
  rw[Ms];cases c.toInt.natAbs==1 with
  |true=>refine aB rfl (aY rfl ?_);simp only[cond_true,cond_false];exact Q3 _ (by omega)
  |false=>
   refine aB rfl (bE rfl (aB (Wl N _ (zS c)) (aB (mJ (by omega)) (aY rfl (aB (mJ (by(first|omega|(simp only[ByteArray.size_append,aA,aoV,ao4]at*;omega)))) ?_)))));rw[Q3 _ (by(first|omega|(simp only[ByteArray.size_append,aA,aoV,ao4]at*;omega)))];simp only[cond_false,ByteArray.append_assoc]
theorem T5(N:Nat)(c:Int64)(s a:apI)(h:a.size+s.size<=1000000000):Et N c s a=some (um c s a):=by
 have len:∀x:apI,Fu N x=some (x.size:Int):=λ_=>rfl;unfold Et um EE;simp only[len,aoR,p8,j5];cases e:a.size==0 with
 |true=>
  cases decide (c.toInt<0)with
  |true=>
   refine aB rfl (bE rfl (aB (mJ (by(first|omega|(simp only[ByteArray.size_append,aA,aoV,ao4]at*;omega)))) ?_));exact(HW N c s _ (Ey N s) (λ_=>rfl) (by(first|omega|(simp only[ByteArray.size_append,aA,aoV,ao4]at*;omega)))).trans rfl
  |false=>
   refine aB rfl (aY rfl (aB rfl (aY rfl (aY rfl ?_))));rw[cond_true,cond_false,pk];exact HW N c s _ (El N s) (λ_=>rfl) (by(first|omega|(simp only[ByteArray.size_append,aA,aoV,ao4]at*;omega)))
 |false=>
  cases decide (c.toInt<0)with
  |true=>
   refine aB rfl (aY rfl (aB rfl (bE rfl (aB (mJ (by(first|omega|(simp only[ByteArray.size_append,aA,aoV,ao4]at*;omega)))) ?_))));exact HW N c s _ (Ck N s) (λ_=>rfl) (by(first|omega|(simp only[ByteArray.size_append,aA,aoV,ao4]at*;omega)))
  |false=>
   refine aB rfl (aY rfl (aB rfl (aY rfl (bE rfl (aB (mJ (by(first|omega|(simp only[ByteArray.size_append,aA,aoV,ao4]at*;omega)))) ?_)))));exact HW N c s _ (Gn N s) (λ_=>rfl) (by(first|omega|(simp only[ByteArray.size_append,aA,aoV,ao4]at*;omega)))
def oT(x:aN):apH bf->apI->apI
 |[],a=>bif !(x.xK.toInt==0)||x.xL.length==0 then um x.xK (bs []) a else a
 |m::l,a=>oT x l (um m.ck m.ao a)
theorem aay(x:aN):∀(l:apH bf)(a:apI),(∀m∈l,m.ao.size<=16)->(oT x l a).size<=a.size+40*l.length+24
 |[],a,_=>by
  have:=Mc x.xK (bs []) a;rw[oT];cases !(x.xK.toInt==0)||x.xL.length==0<;>simp only[cond_true,cond_false]<;>(first|omega|(simp only[ByteArray.size_append,aA,aoV,ao4]at*;omega))
 |m::l,a,h=>by
  have h1:=aay x l (um m.ck m.ao a) (λy hy=>h y (ao1 _ hy));have h2:=Mc m.ck m.ao a;have h3:=h m aoY;rw[oT,aoV];omega
theorem Vq(N:Nat)(x:aN):∀(l:apH bf)(k:Nat)(a:apI),(∀m∈l,m.ao.size<=16)->a.size+40*l.length<=1000000->DS N x l k a=some (oT x l a)
 |[],k,a,_,h=>by
  rw[DS,oT,rj,p8,js,aoR];cases !(x.xK.toInt==0)||x.xL.length==0 with
  |true=>exact aB (T5 N _ _ _ (by(first|omega|(simp only[ByteArray.size_append,aA,aoV,ao4]at*;omega)))) rfl
  |false=>rfl
 |m::l,k,a,hm,h=>by
  have h2:=Mc m.ck m.ao a;have h3:=hm m aoY;rw[aoV]at h;rw[DS,T5 N _ _ _ (by omega),aoR,oT];exact Vq N x l (k+1) _ (λy hy=>hm y (ao1 _ hy)) (by omega)
theorem abb(N:Nat)(hN:50<N)(x:aN):∀(l:apH bf)(k:Nat)(a:apI),(∀m∈l,m.ao.size<=16/\m.ao.size≠0)->a.size+40*l.length<=1000000->uB N x l k a=some (oT x l a)
 |[],k,a,_,h=>by
  have hd:=xY x.xK.toInt.natAbs;rw[uB,oT,rj,p8,js,aoR];cases !(x.xK.toInt==0)||x.xL.length==0 with
  |true=>exact aB (Kh N _) (aB (UL N _ hN (zS _)) (aB (XV N x.xK a _ (by omega)) rfl))
  |false=>rfl
 |m::l,k,a,hm,h=>by
  have h2:=Mc m.ck m.ao a;have h3:=hm m aoY;have hd:=xY m.ck.toInt.natAbs;rw[aoV]at h;rw[uB,oT];refine aB (Kh N _) ?_;have hn:(m.ao.size==0)=false:=by rw[beq_eq_false_iff_ne];exact h3.2
  have fin:∀b:apI,b=vm m.ck m.ao->b.size<=21+m.ao.size->L3 N a m (λbm=>uB N x l (k+1) bm) b=some (oT x l (um m.ck m.ao a)):=λb hb hs=>by
   unfold L3;rw[XV N m.ck a b (by omega),aoR,hb];show uB N x l (k+1) (um m.ck m.ao a)=_;exact abb N hN x l (k+1) _ (λy hy=>hm y (ao1 _ hy)) (by omega)
  rw[Ms];cases e:m.ck.toInt.natAbs==1 with
  |true=>exact aY rfl (fin _ (by unfold vm;rw[hn,e];rfl) (by omega))
  |false=>exact bE rfl (aB (Kh N _) (aB (UL N _ hN (zS _)) (aV (by(first|omega|(simp only[ByteArray.size_append,aA,aoV,ao4]at*;omega))) (aV (by(first|omega|(simp only[ByteArray.size_append,aA,aoV,ao4]at*;omega))) (fin _ (by unfold vm;rw[hn,e];rfl) (by(first|omega|(simp only[ByteArray.size_append,aA,aoV,ao4]at*;omega))))))))
def jd(x:aN):apI:=bif dq x then oT x x.xL (bs [])else bs []
theorem qt{s:apI}(h:cE s=true):s.size<=16/\s.size≠0:=by
 unfold cE C6 at h;simp only[aoU,decide_eq_true_eq]at h;rw[nk];omega
theorem HI:∀(l:apH bf)(q:apJ apI),oM q l=true->∀m∈l,cE m.ao=true
 |m::l,q,h,y,hy=>by
  rw[AJ]at h;simp only[aoU]at h;rcases apm.1 hy with rfl|hy
  ·exact h.1
  ·exact HI l _ h.2.2.2 y hy
theorem rB{x:aN}{n:Nat}(h:x.xL.length<=n):(jd x).size<=40*n+24:=by
 unfold jd;cases e:dq x with
 |false=>exact Nat.zero_le _
 |true=>
  have:=aay x x.xL (bs []) (λm hm=>(qt (HI _ _ e m hm)).1);rw[cond_true];rw[aA,ao4]at this;omega
theorem DO{N:Nat}(hN:50<N){x:aN}(h:x.xL.length<=300):sH N x=some (jd x):=by
 unfold sH jd;rw[tB N (by omega) x (apa h (by decide)),aoR];cases e:dq x with
 |false=>rfl
 |true=>exact aY rfl (Vq N x x.xL 0 _ (λm hm=>(qt (HI _ _ e m hm)).1) (by rw[aA,ao4];omega))
theorem FF{N:Nat}(hN:50<N){x:aN}(h:x.xL.length<=300):wB N x=some (jd x):=by
 unfold wB W5 jd;rw[rF N (by omega) x (apa h (by decide)),aoR];cases e:dq x with
 |false=>rfl
 |true=>exact aB rfl (aY rfl (abb N hN x x.xL 0 _ (λm hm=>qt (HI _ _ e m hm)) (by rw[aA,ao4];omega)))
def yX(x:cz):apI:=bif dq x.aQ then(bif x.hY then bs [48,32,61,61,32]else bs [48,32,60,61,32])++jd x.aQ else bs []
theorem amy{N:Nat}(hN:50<N){x:cz}(h:x.aQ.xL.length<=300):K3 N x=some (yX x):=by
 have hs:=rB h;have hv:tM N x=some (bif dq x.aQ then 0 else 1):=by
  unfold tM;rw[tB N (by omega) x.aQ (apa h (by decide)),aoR]
  try (cases dq x.aQ<;>rfl)
 unfold K3 yX;rw[hv,aoR,DO hN h];cases dq x.aQ with
 |false=>rfl
 |true=>
  refine aY rfl ?_;cases x.hY with
  |true=>exact aV (by(first|omega|(simp only[ByteArray.size_append,aA,aoV,ao4]at*;omega))) rfl
  |false=>exact aV (by(first|omega|(simp only[ByteArray.size_append,aA,aoV,ao4]at*;omega))) rfl
theorem ajG{N:Nat}(hN:50<N){x:cz}(h:x.aQ.xL.length<=300):Pb N x=some (yX x):=by
 have hs:=rB h;unfold Pb CS yX;rw[rF N (by omega) x.aQ (apa h (by decide)),aoR,FF hN h];cases dq x.aQ with
 |false=>rfl
 |true=>
  refine aB rfl (aY rfl ?_);cases x.hY with
  |true=>exact aV (by(first|omega|(simp only[ByteArray.size_append,aA,aoV,ao4]at*;omega))) rfl
  |false=>exact aV (by(first|omega|(simp only[ByteArray.size_append,aA,aoV,ao4]at*;omega))) rfl
theorem agr{x:cz}{n:Nat}(h:x.aQ.xL.length<=n):(yX x).size<=40*n+29:=by
 have hs:=rB h;unfold yX;cases dq x.aQ<;>cases x.hY<;>simp only[cond_true,cond_false]<;>(first|omega|(simp only[ByteArray.size_append,aA,aoV,ao4]at*;omega))
def x8(r:Int):apI:=bif r==1 then bs [102,108,111,111,114]else bif r==2 then bs [99,101,105,108]else bif r==3 then bs [122,101,114,111]else bs [101,118,101,110]
theorem OS(r:Int):(x8 r).size<=5:=by unfold x8;cases r==1<;>cases r==2<;>cases r==3<;>decide
theorem ag1(N:Nat)(r:Int):IZ N r=some (x8 r):=by unfold IZ x8;cases r==1<;>cases r==2<;>cases r==3<;>rfl
theorem ae7(N:Nat)(r:Int):QQ N r=some (x8 r):=by unfold QQ x8;cases r==1<;>cases r==2<;>cases r==3<;>rfl
def Ar(t:bq)(o:apI):apI:=(((((((bs [102,105,120,40])++kY t.cb)++(bs [44,32]))++kY t.ca)++(bs [44,32]))++x8 t.cJ)++(bs [44,32]))++o++bs [41]
theorem ahU(t:bq){o:apI}(h:o.size<=4):(Ar t o).size<=62:=by
 have h1:=og t.cb;have h2:=og t.ca;have h3:=OS t.cJ;unfold Ar;(first|omega|(simp only[ByteArray.size_append,aA,aoV,ao4]at*;omega))
theorem N7{t:bq}(h:eO t=true)(h1:(t.bS==1)=false)(h3:(t.bS==3)=false):(t.bS==2)=true/\2<=t.cb/\t.cb<=31/\0<=t.ca/\t.ca<=30:=by
 unfold eO at h;rw[h1,h3]at h;simp only[Bool.or_false,Bool.false_or,cond_false,aoU,decide_eq_true_eq]at h;exact⟨h.1,h.2.1,h.2.2.1,h.2.2.2.1,h.2.2.2.2.1⟩
theorem akO(N:Nat)(t:bq){o:apI}(ho:o.size<=4)(hb:bh t.cb=t.cb)(hf:bh t.ca=t.ca):Cq N t o=some (Ar t o):=by
 have h1:=og t.cb;have h2:=og t.ca;have h3:=OS t.cJ;unfold Cq;refine aB (Uy N _ hb) (aV (by(first|omega|(simp only[ByteArray.size_append,aA,aoV,ao4]at*;omega))) (aV (by(first|omega|(simp only[ByteArray.size_append,aA,aoV,ao4]at*;omega))) (aB (Uy N _ hf) (aV (by(first|omega|(simp only[ByteArray.size_append,aA,aoV,ao4]at*;omega))) (aV (by(first|omega|(simp only[ByteArray.size_append,aA,aoV,ao4]at*;omega))) (aB (ag1 N _) (aV (by(first|omega|(simp only[ByteArray.size_append,aA,aoV,ao4]at*;omega))) (aV (by(first|omega|(simp only[ByteArray.size_append,aA,aoV,ao4]at*;omega))) (aV (by(first|omega|(simp only[ByteArray.size_append,aA,aoV,ao4]at*;omega))) (aV (by(first|omega|(simp only[ByteArray.size_append,aA,aoV,ao4]at*;omega))) rfl))))))))))
theorem aha(N:Nat)(hN:50<N)(t:bq){o:apI}(ho:o.size<=4)(hb:bh t.cb=t.cb)(hf:bh t.ca=t.ca):G5 N t o=some (Ar t o):=by
 have h1:=og t.cb;have h2:=og t.ca;have h3:=OS t.cJ;have dg:∀v:Int,bh v=v->nO N (Int64.ofInt v)=some (kY v):=λv h=>by
  rw[K4 N hN,Int64.toInt_ofInt,<-xf];exact congrArg (λx=>some (kY x)) h
 unfold G5;refine bE (beq_iff_eq.2 hb) (aB (dg _ hb) (aV (by(first|omega|(simp only[ByteArray.size_append,aA,aoV,ao4]at*;omega))) (aV (by(first|omega|(simp only[ByteArray.size_append,aA,aoV,ao4]at*;omega))) (bE (beq_iff_eq.2 hf) (aB (dg _ hf) (aV (by(first|omega|(simp only[ByteArray.size_append,aA,aoV,ao4]at*;omega))) (aV (by(first|omega|(simp only[ByteArray.size_append,aA,aoV,ao4]at*;omega))) (aB (ae7 N _) (aV (by(first|omega|(simp only[ByteArray.size_append,aA,aoV,ao4]at*;omega))) (aV (by(first|omega|(simp only[ByteArray.size_append,aA,aoV,ao4]at*;omega))) (aV (by(first|omega|(simp only[ByteArray.size_append,aA,aoV,ao4]at*;omega))) (aV (by(first|omega|(simp only[ByteArray.size_append,aA,aoV,ao4]at*;omega))) rfl))))))))))))
def np(t:bq):apI:=bif eO t then bif t.bS==1 then bs [102,114,97,99]else bif t.bS==3 then bs [105,110,116]else Ar t (bif t.cH==2 then bs [119,114,97,112]else bs [115,97,116])else bs []
theorem Lw(t:bq):(np t).size<=62:=by
 have h:=ahU t (o:=bif t.cH==2 then bs [119,114,97,112]else bs [115,97,116]) (by cases t.cH==2<;>decide);unfold np;cases eO t<;>cases t.bS==1<;>cases t.bS==3<;>simp only[cond_true,cond_false]<;>first|exact h|decide
theorem JT(N:Nat)(t:bq):yW N t=some (np t):=by
 unfold yW np;rw[rP,aoR];cases e:eO t with
 |false=>rfl
 |true=>
  refine aY rfl ?_;cases e1:t.bS==1 with
  |true=>rfl
  |false=>
   cases e3:t.bS==3 with
   |true=>rfl
   |false=>
    obtain⟨_,iL,jS,aR,cM⟩:=N7 e e1 e3;cases t.cH==2<;>exact akO N t (by decide) (oV (by omega) (by omega)) (oV (by omega) (by omega))
theorem J5{N:Nat}(hN:50<N)(t:bq):Bh N t=some (np t):=by
 unfold Bh np;rw[sk,aoR];cases e:eO t with
 |false=>rfl
 |true=>
  refine bE rfl ?_;cases e1:t.bS==1 with
  |true=>rfl
  |false=>
   cases e3:t.bS==3 with
   |true=>rfl
   |false=>
    obtain⟨_,iL,jS,aR,cM⟩:=N7 e e1 e3;cases t.cH==2<;>exact aha N hN t (by decide) (oV (by omega) (by omega)) (oV (by omega) (by omega))
def tF:bq:=⟨1,0,0,0,0⟩
def vj(v:dy):apI:=bif mr tF v then(bif v.xD.toInt==1 then kY v.xN.toInt else kY v.xN.toInt++bs [47]++kY v.xD.toInt)else bs []
theorem UY(v:dy):(vj v).size<=43:=by
 have h1:=og v.xN.toInt;have h2:=og v.xD.toInt;unfold vj;cases mr tF v<;>cases v.xD.toInt==1<;>simp only[cond_true,cond_false]<;>(first|omega|(simp only[ByteArray.size_append,aA,aoV,ao4]at*;omega))
theorem acx{N:Nat}(hN:2147483648<N)(v:dy):J2 N v=some (vj v):=by
 have h1:=og v.xN.toInt;have h2:=og v.xD.toInt;have hv:x7 N v=some (mr tF v):=by
  have h:=Ta N hN tF v rfl;unfold vH at h;rw[rP,aoR]at h;revert h;show((x7 N v).bind λv7=>some v7)=_->_;cases x7 N v with
  |none=>intro h;cases h
  |some b=>exact id
 unfold J2 vj;rw[hv,aoR];cases mr tF v with
 |false=>rfl
 |true=>
  cases v.xD.toInt==1 with
  |true=>rfl
  |false=>exact bE rfl (aY rfl (aB (Sc N _) (aV (by(first|omega|(simp only[ByteArray.size_append,aA,aoV,ao4]at*;omega))) (aB (Sc N _) (aV (by(first|omega|(simp only[ByteArray.size_append,aA,aoV,ao4]at*;omega))) rfl)))))
theorem Wi{N:Nat}(hN:2147483648<N)(v:dy):OJ N v=some (vj v):=by
 have h1:=og v.xN.toInt;have h2:=og v.xD.toInt;unfold OJ XQ vj;have hv:BP N (⟨(1:Int),(0:Int),(0:Int),(0:Int),(0:Int)⟩:bq) v=some (mr tF v):=Np N hN tF v rfl;rw[hv,aoR,aoR];cases mr tF v with
 |false=>rfl
 |true=>
  cases v.xD.toInt==1 with
  |true=>exact bE rfl (bE rfl (aB (K4 N (by omega) _) rfl))
  |false=>exact bE rfl (aY rfl (aB (K4 N (by omega) _) (aV (by(first|omega|(simp only[ByteArray.size_append,aA,aoV,ao4]at*;omega))) (aB (K4 N (by omega) _) (aV (by(first|omega|(simp only[ByteArray.size_append,aA,aoV,ao4]at*;omega))) rfl)))))
theorem YE(N:Nat):∀(k:Nat)(a b:Int),y5 N k a b=GN N k a b
 |0,_,_=>rfl
 |k+1,a,b=>by
  rw[y5,GN];cases b !=0 with
  |true=>exact YE N k b _
  |false=>rfl
theorem amn(N:Nat)(a b:Int64)(hb:b.toInt≠0)(hN:b.toInt.natAbs<N):∃r,Ks N a b=some r/\Oy N a b=some r:=by
 have hg:GA N ((a.toInt.natAbs:Nat):Int) ((b.toInt.natAbs:Nat):Int)=some ((Nat.gcd a.toInt.natAbs b.toInt.natAbs:Nat):Int):=P6 N N _ _ hN;have qw:Xp N ((a.toInt.natAbs:Nat):Int) ((b.toInt.natAbs:Nat):Int)=some ((Nat.gcd a.toInt.natAbs b.toInt.natAbs:Nat):Int):=by
  rw[<-hg];exact(YE N N _ _).symm
 have hz:(((Nat.gcd a.toInt.natAbs b.toInt.natAbs:Nat):Int) !=0)=true:=by
  have:0<Nat.gcd a.toInt.natAbs b.toInt.natAbs:=Nat.gcd_pos_of_pos_right _ (by omega);rw[rj,beq_eq_false_iff_ne.2 (by omega)];rfl
 unfold Ks Oy aas;rw[IA,IA,Tk,Tk];simp only[aoR,hg,qw,hz,cond_true,beq_eq_false_iff_ne.2 hb,cond_false,js];cases decide (IntKind.u64.wrap (Int.tdiv ((a.toInt.natAbs:Nat):Int) ((Nat.gcd a.toInt.natAbs b.toInt.natAbs:Nat):Int))>2147483647)||decide (IntKind.u64.wrap (Int.tdiv ((b.toInt.natAbs:Nat):Int) ((Nat.gcd a.toInt.natAbs b.toInt.natAbs:Nat):Int))>2147483647)with
 |true=>exact⟨_,rfl,rfl⟩
 |false=>
  cases (decide (a.toInt<0))==(decide (b.toInt<0))with
  |true=>exact⟨_,rfl,rfl⟩
  |false=>exact⟨_,rfl,rfl⟩
theorem ajC:∀F:Fin 31,(Int64.ofInt ((1:Int)*2^(min (F.val:Nat) (IntKind.bits .i64)))).toInt≠0/\(Int64.ofInt ((1:Int)*2^(min (F.val:Nat) (IntKind.bits .i64)))).toInt.natAbs<2147483648:=by decide
theorem afk{f:Int}(h1:0<=f)(h2:f<=30):(Int64.ofInt ((1:Int)*2^(min f.toNat (IntKind.bits .i64)))).toInt≠0/\(Int64.ofInt ((1:Int)*2^(min f.toNat (IntKind.bits .i64)))).toInt.natAbs<2147483648:=
 ajC ⟨f.toNat,by omega⟩
theorem ag3{N:Nat}(hN:2147483648<N){t:bq}{v:dy}(ht:eO t=true)(hv:mr t v=true):∃x,QV N t v=some x/\aaW N t v=some x/\x.size<=43:=by
 have r0:vH N t v=some true:=by rw[Ta N hN t v ht,hv]
 have r1:Tc N t v=some true:=by
  unfold Tc;rw[sk,ht];exact aB rfl (aB (bE rfl (aB (Np N hN t v ht) rfl)) (congrArg some hv))
 cases k2:t.bS==2 with
 |false=>
  refine⟨vj v,?_,?_,UY v⟩
  ·exact aB r0 (bE rfl (aB (show JE N t v=some v from aY k2 rfl) (aB (acx hN v) rfl)))
  ·exact aB r1 (bE rfl (aB (show MY N t v=some v from aY k2 rfl) (aB (Wi hN v) rfl)))
 |true=>
  have hk:t.bS=2:=beq_iff_eq.1 k2;obtain⟨_,iL,jS,aR,cM⟩:=N7 ht (by rw[hk];rfl) (by rw[hk];rfl);obtain⟨s1,s2⟩:=afk aR cM;obtain⟨r,n1,n2⟩:=amn N v.xN _ s1 (Nat.lt_trans s2 hN);have fv:uu N t=some 0:=by
   have h:=rP N t;rw[ht]at h;unfold qv Cm at h;rw[hk]at h;revert h;show((uu N t).bind λv4=>bif v4==0 then some 0 else some 10)=some 0->_;cases uu N t with
   |none=>intro h;cases h
   |some z=>
    show(bif z==0 then some (0:Int)else some 10)=some 0->_;cases ez:z==0 with
    |true=>intro _;rw[beq_iff_eq.1 ez]
    |false=>intro h;cases h
  have vv:vL N t v=some true:=by
   have h:=r0;unfold vH at h;rw[rP,ht,aoR,k2]at h;revert h;show((vL N t v).bind λv4=>some v4)=some true->_;cases vL N t v with
   |none=>intro h;cases h
   |some z=>exact id
  have tf:I5 N t v=some (r.1,r.2):=by
   unfold I5 S8;exact aB (aB fv (aY rfl (aB vv (bE rfl rfl)))) (aY rfl (bE (apA aR) (aB n1 rfl)))
  refine⟨vj r.1,?_,?_,UY r.1⟩
  ·exact aB r0 (bE rfl (aB (show JE N t v=some r.1 from bE k2 (aB tf rfl)) (aB (acx hN r.1) rfl)))
  ·have st:Of N t=some (Int64.ofInt ((1:Int)*2^(min t.ca.toNat (IntKind.bits .i64)))):=by
    unfold Of;have e:IntKind.u64.wrap t.ca=t.ca:=by rw[tg];omega
    rw[e];exact bE (apA aR) rfl
   refine aB r1 (bE rfl (aB (show MY N t v=some r.1 from bE k2 (aB st (aB n2 ?_))) (aB (Wi hN r.1) rfl)));rfl
def da:Bool->apH apI->apI
 |_,[]=>bs []
 |b,t::l=>(bif b then bs [44,32]else bs [])++t++da true l
theorem Ac{B:Nat}:∀(l:apH apI)(b:Bool),(∀t∈l,t.size<=B)->(da b l).size<=l.length*(B+2)
 |[],b,_=>Nat.zero_le _
 |t::l,b,h=>by
  have h1:=Ac l true λx hx=>h x (ao1 _ hx);have h2:=h t aoY;have h3:(bif b then bs [44,32]else bs []).size<=2:=by cases b<;>decide
  rw[da,aoV,Nat.succ_mul,ByteArray.size_append,ByteArray.size_append];omega
theorem Gx{α:Type}{N:Nat}(xs:apH α)(item:Int->apJ apI)(F:α->apI)(L:Nat->Int->apI->apJ apI)(hx:xs.length<=1000000)
 (hL:∀k i a,L (k+1) i a=bif decide (i<(xs.length:Int))then(bif decide (i>0)then(Option.bind (fg N (bs [44,32]) a) λv9=>(item i).bind λv7=>(fg N v7 v9).bind λv8=>L k (bh (i+(1:Int))) v8)
  else((item i).bind λv7=>(fg N v7 a).bind λv8=>L k (bh (i+(1:Int))) v8))else some a)
 (hi:∀(i:Nat) x,xs[i]?=some x->item (i:Int)=some (F x)):
 ∀(l:apH α)(k i:Nat)(a:apI),xs.drop i=l->l.length<k->i<=xs.length->a.size+(da (!(i==0)) (l.map F)).size<=140737488355328->L k (i:Int) a=some (a++da (!(i==0)) (l.map F))
 |l,0,_,_,_,h,_,_=>by omega
 |[],k+1,i,a,hd,hk,c7,hs=>by
  rw[hL];have:xs.length<=i:=List.drop_eq_nil_iff.1 hd;refine aY (apB (by omega)) ?_;rw[List.map_nil,da,pk]
 |x::l,k+1,i,a,hd,hk,c7,hs=>by
  have aH:i<xs.length:=by
   have:=congrArg List.length hd;rw[List.length_drop,aoV]at this;omega
  have hg:=hi i x (bt hd);have e1:bh ((i:Int)+1)=((i+1:Nat):Int):=FU (by omega);have ih:=λb hb=>Gx xs item F L hx hL hi l k (i+1) b (kI hd) (by rw[aoV]at hk;omega) (by omega) hb;rw[show(!(i+1==0))=true from rfl]at ih;rw[aph,da]at hs ⊢;rw[hL,j5 i,e1];refine bE (apA (by omega)) ?_;cases hz: !(i==0)with
  |true=>
   rw[hz]at hs;simp only[cond_true,ByteArray.size_append]at hs;refine bE rfl (aB (mJ (by(first|omega|(simp only[ByteArray.size_append,aA,aoV,ao4]at*;omega)))) (aB hg (aB (mJ (by(first|omega|(simp only[ByteArray.size_append,aA,aoV,ao4]at*;omega)))) ?_)));rw[ih _ (by(first|omega|(simp only[ByteArray.size_append,aA,aoV,ao4]at*;omega)))];simp only[cond_true,ByteArray.append_assoc]
  |false=>
   rw[hz]at hs;simp only[cond_false,ByteArray.size_append]at hs;refine aY rfl (aB hg (aB (mJ (by(first|omega|(simp only[ByteArray.size_append,aA,aoV,ao4]at*;omega)))) ?_));rw[ih _ (by(first|omega|(simp only[ByteArray.size_append,aA,aoV,ao4]at*;omega)))];simp only[cond_false,kD,ByteArray.append_assoc]
theorem ai5{N:Nat}(xs:apH apI)(hx:xs.length<=1000000)(hN:xs.length<N)(hs:(da false xs).size<=140737488355328):QU N (xs.length:Int) xs=some (da false xs):=by
 have h:=Gx (N:=N) xs (JR N xs) id (zF N (xs.length:Int) xs) hx (λk i a=>rfl)
  (λi x h=>by unfold JR;exact bE (apA (by omega)) (by rw[apj,h];rfl)) xs N 0 (bs []) rfl hN (Nat.zero_le _) (by rw[List.map_id,aA,ao4,apc];exact hs)
 rw[List.map_id,kD]at h;exact h
theorem abE{N:Nat}(jB:50<N)(xs:apH aN)(hx:xs.length<=1000000)(hN:xs.length<N)(hl:∀x∈xs,x.xL.length<=300)(hs:(da false (xs.map jd)).size<=140737488355328):G7 N (xs.length:Int) xs=some (da false (xs.map jd)):=by
 have h:=Gx (N:=N) xs (HV N xs) jd (Ak N (xs.length:Int) xs) hx (λk i a=>rfl)
  (λi x h=>by unfold HV;exact bE (apA (by omega)) (by rw[apj,h];exact aB rfl (aB (DO jB (hl x (px h))) rfl))) xs N 0 (bs []) rfl hN (Nat.zero_le _) (by rw[aA,ao4,apc];exact hs)
 rw[kD]at h;exact h
def mq(x:bV):apI:=x.ao++bs [32,60,32]++jd x.cg
theorem ale{N:Nat}(jB:50<N)(xs:apH bV)(hx:xs.length<=1000000)(hN:xs.length<N)(hl:∀x∈xs,x.cg.xL.length<=300/\x.ao.size<=16)(hs:(da false (xs.map mq)).size<=140737488355328):sb N (xs.length:Int) xs=some (da false (xs.map mq)):=by
 have h:=Gx (N:=N) xs (JO N xs) mq (BR N (xs.length:Int) xs) hx (λk i a=>rfl)
  (λi x h=>by
   obtain⟨h1,h2⟩:=hl x (px h);have h3:=rB h1;unfold JO;exact bE (apA (by omega)) (by rw[apj,h];exact aB rfl (aV (by(first|omega|(simp only[ByteArray.size_append,aA,aoV,ao4]at*;omega))) (aB (DO jB h1) (aV (by(first|omega|(simp only[ByteArray.size_append,aA,aoV,ao4]at*;omega))) rfl))))) xs N 0 (bs []) rfl hN (Nat.zero_le _) (by rw[aA,ao4,apc];exact hs)
 rw[kD]at h;exact h
theorem OC{N:Nat}(jB:50<N):∀(l:apH aN)(k:Nat)(a:apI),(∀x∈l,x.xL.length<=300)->a.size+(da (!(k==0)) (l.map jd)).size<=140737488355328->AR N l k a=some (a++da (!(k==0)) (l.map jd))
 |[],k,a,_,_=>by rw[AR,List.map_nil,da,pk]
 |x::l,k,a,hl,hs=>by
  have ih:=λb hb=>OC jB l (k+1) b (λy hy=>hl y (ao1 _ hy)) hb;rw[show(!(k+1==0))=true from rfl]at ih;rw[aph,da]at hs ⊢;rw[AR,j5];unfold P8;have hf:=FF jB (hl x aoY);cases hz: !(k==0)with
  |true=>
   rw[hz]at hs;simp only[cond_true,ByteArray.size_append]at hs;refine bE rfl (aV (by(first|omega|(simp only[ByteArray.size_append,aA,aoV,ao4]at*;omega))) (aB hf (aV (by(first|omega|(simp only[ByteArray.size_append,aA,aoV,ao4]at*;omega))) ?_)));refine(ih _ (by(first|omega|(simp only[ByteArray.size_append,aA,aoV,ao4]at*;omega)))).trans ?_;simp only[cond_true,ByteArray.append_assoc]
  |false=>
   rw[hz]at hs;simp only[cond_false,ByteArray.size_append]at hs;refine aY rfl (aB hf (aV (by(first|omega|(simp only[ByteArray.size_append,aA,aoV,ao4]at*;omega))) ?_));refine(ih _ (by(first|omega|(simp only[ByteArray.size_append,aA,aoV,ao4]at*;omega)))).trans ?_;simp only[cond_false,kD,ByteArray.append_assoc]
theorem ND{N:Nat}(jB:50<N):∀(l:apH apI)(k:Nat)(a:apI),(∀x∈l,cE x=true)->a.size+(da (!(k==0)) l).size<=140737488355328->Bw N l k a=some (a++da (!(k==0)) l,true)
 |[],k,a,_,_=>by rw[Bw,da,pk]
 |x::l,k,a,hl,hs=>by
  have ih:=λb hb=>ND jB l (k+1) b (λy hy=>hl y (ao1 _ hy)) hb;rw[show(!(k+1==0))=true from rfl]at ih;rw[da]at hs ⊢;rw[Bw,j5];unfold Qu;refine aB (uh N x (by omega)) (bE (hl x aoY) ?_);cases hz: !(k==0)with
  |true=>
   rw[hz]at hs;simp only[cond_true,ByteArray.size_append]at hs;refine bE rfl (aV (by(first|omega|(simp only[ByteArray.size_append,aA,aoV,ao4]at*;omega))) (aV (by(first|omega|(simp only[ByteArray.size_append,aA,aoV,ao4]at*;omega))) ?_));refine(ih _ (by(first|omega|(simp only[ByteArray.size_append,aA,aoV,ao4]at*;omega)))).trans ?_;simp only[cond_true,ByteArray.append_assoc]
  |false=>
   rw[hz]at hs;simp only[cond_false,ByteArray.size_append]at hs;refine aY rfl (aV (by(first|omega|(simp only[ByteArray.size_append,aA,aoV,ao4]at*;omega))) ?_);refine(ih _ (by(first|omega|(simp only[ByteArray.size_append,aA,aoV,ao4]at*;omega)))).trans ?_;simp only[cond_false,kD,ByteArray.append_assoc]
theorem SE{N:Nat}(jB:50<N):∀(l:apH bV)(k:Nat)(a:apI),(∀x∈l,x.cg.xL.length<=300/\cE x.ao=true/\dq x.cg=true)->a.size+(da (!(k==0)) (l.map mq)).size<=140737488355328->AN N l k a=some (a++da (!(k==0)) (l.map mq),true)
 |[],k,a,_,_=>by rw[AN,List.map_nil,da,pk]
 |x::l,k,a,hl,hs=>by
  have ih:=λb hb=>SE jB l (k+1) b (λy hy=>hl y (ao1 _ hy)) hb;rw[show(!(k+1==0))=true from rfl]at ih;rw[aph,da]at hs ⊢;rw[AN,j5];unfold Q4;obtain⟨h1,h2,h3⟩:=hl x aoY;have hf:=FF jB h1;refine aB (uh N _ (by omega)) (aB (v:=false) (bE h2 (aB (rF N (by omega) x.cg (apa h1 (by decide))) (by rw[h3];rfl))) (aY rfl ?_));have ea:mq x=x.ao++bs [32,60,32]++jd x.cg:=rfl;cases hz: !(k==0)with
  |true=>
   rw[hz,ea]at hs;simp only[cond_true,ByteArray.size_append]at hs;refine bE rfl (aV (by(first|omega|(simp only[ByteArray.size_append,aA,aoV,ao4]at*;omega))) (aV (by(first|omega|(simp only[ByteArray.size_append,aA,aoV,ao4]at*;omega))) (aV (by(first|omega|(simp only[ByteArray.size_append,aA,aoV,ao4]at*;omega))) (aB hf (aV (by(first|omega|(simp only[ByteArray.size_append,aA,aoV,ao4]at*;omega))) ?_)))));refine(ih _ (by(first|omega|(simp only[ByteArray.size_append,aA,aoV,ao4]at*;omega)))).trans ?_;rw[ea];simp only[cond_true,ByteArray.append_assoc]
  |false=>
   rw[hz,ea]at hs;simp only[cond_false,ByteArray.size_append]at hs;refine aY rfl (aV (by(first|omega|(simp only[ByteArray.size_append,aA,aoV,ao4]at*;omega))) (aV (by(first|omega|(simp only[ByteArray.size_append,aA,aoV,ao4]at*;omega))) (aB hf (aV (by(first|omega|(simp only[ByteArray.size_append,aA,aoV,ao4]at*;omega))) ?_))));refine(ih _ (by(first|omega|(simp only[ByteArray.size_append,aA,aoV,ao4]at*;omega)))).trans ?_;rw[ea];simp only[cond_false,kD,ByteArray.append_assoc]
theorem PM{N:Nat}(h:16<N):∀(l:apH aN)(k:Nat),(∀x∈l,x.xL.length<=300)->(∀x∈l,dq x=true)->Hp N l k=some true
 |[],_,_,_=>rfl
 |x::l,k,h1,h2=>by
  rw[Hp];refine aB (tB N h x (apa (h1 x aoY) (by decide))) ?_;rw[h2 x aoY];exact aY rfl (PM h l (k+1) (λy hy=>h1 y (ao1 _ hy)) (λy hy=>h2 y (ao1 _ hy)))
theorem Pc{N:Nat}(h:16<N):∀(l:apH aN)(k:Nat),(∀x∈l,x.xL.length<=300)->(∀x∈l,dq x=true)->Jh N l k=some true
 |[],_,_,_=>rfl
 |x::l,k,h1,h2=>by
  rw[Jh];refine aB (rF N h x (apa (h1 x aoY) (by decide))) ?_;rw[h2 x aoY];exact bE rfl (Pc h l (k+1) (λy hy=>h1 y (ao1 _ hy)) (λy hy=>h2 y (ao1 _ hy)))
theorem SL{N:Nat}(h:16<N):∀(l:apH bV)(k:Nat),(∀x∈l,x.cg.xL.length<=300/\cE x.ao=true/\dq x.cg=true)->Hq N l k=some true
 |[],_,_=>rfl
 |x::l,k,h1=>by
  obtain⟨a,b,c⟩:=h1 x aoY;rw[Hq];refine aB (uy N _ h) (aB (v:=false) (bE b (aB (tB N h x.cg (apa a (by decide))) (by rw[c];rfl))) (aY rfl ?_));exact SL h l (k+1) (λy hy=>h1 y (ao1 _ hy))
theorem RG{N:Nat}(h:16<N):∀(l:apH apI)(k:Nat),(∀x∈l,cE x=true)->Hv N l k=some true
 |[],_,_=>rfl
 |x::l,k,h1=>by
  rw[Hv];exact aB (uy N _ h) (bE (h1 x aoY) (RG h l (k+1) (λy hy=>h1 y (ao1 _ hy))))
structure Bz(x:bu):Prop where
 eW:dq x.aQ=true
 at_:∀l∈x.bG,dq l=true
 idx:kg x=true
 from_:(bL x.bH==[])=true\/cE x.bH=true
 l1:x.aQ.xL.length<=300
 l2:x.bG.length<=6
 l3:∀l∈x.bG,l.xL.length<=300
def nW(x:bu):apI:=bif bL x.bH==[]then jd x.aQ else x.bH++bs [91]++da false (x.bG.map jd)++bs [93]
theorem abm{x:bu}(h:Bz x):(da false (x.bG.map jd)).size<=72156:=by
 have h1:=Ac (B:=12024) (x.bG.map jd) false λt ht=>by
  obtain⟨l,hl,rfl⟩:=List.mem_map.1 ht;exact rB (h.l3 l hl)
 rw[aoX]at h1;have:=h.l2;have:x.bG.length*(12024+2)<=6*(12024+2):=Nat.mul_le_mul_right _ this;omega
theorem anr{x:bu}(h:Bz x):(nW x).size<=72174:=by
 have h1:=abm h;have h2:=rB h.l1;unfold nW;cases e:bL x.bH==[]with
 |true=>rw[cond_true];omega
 |false=>
  rcases h.from_ with hf|hf
  ·rw[e]at hf;cases hf
  ·have:=(qt hf).1;rw[cond_false];(first|omega|(simp only[ByteArray.size_append,aA,aoV,ao4]at*;omega))
theorem UB{N:Nat}(jB:50<N){x:bu}(h:Bz x):D0 N x=some (nW x)/\It N x=some (nW x):=by
 have b9:16<N:=by omega
 have h1:=abm h;have h2:=rB h.l1;have l2:=h.l2;have a1:rR N x.aQ=some 0:=by rw[tB N b9 x.aQ (apa h.l1 (by decide)),h.eW];rfl
 have a2:o6 N x.aQ=some true:=by rw[rF N b9 x.aQ (apa h.l1 (by decide)),h.eW]
 have b1:I1 N x.bG=some true:=PM b9 x.bG 0 h.l3 h.at_;have b2:S5 N x.bG=some true:=Pc b9 x.bG 0 h.l3 h.at_;have hi:=h.idx;unfold kg at hi;unfold nW;cases e:bL x.bH==[]with
 |true=>
  rw[e,cond_true]at hi;have hz:x.bG.length=0:=beq_iff_eq.1 hi;constructor
  ·unfold D0;refine aB a1 (aB (v:=false) (aY rfl (aB b1 rfl)) (aY rfl (aB (v:=false) (bE e (by rw[hz];rfl)) (aY rfl (bE e (aB (DO jB h.l1) rfl))))))
  ·unfold It;refine aB a2 (aB (v:=false) (bE rfl (aB b2 rfl)) (aY rfl (bE e (aY (by rw[hz];rfl) (aB (FF jB h.l1) rfl)))))
 |false=>
  rw[e,cond_false]at hi;unfold j8 at hi;rw[aoU]at hi;have hn:cE x.bH=true:=h.from_.resolve_left (by rw[e];exact Bool.noConfusion);have hs:=(qt hn).1;have zz:(bif (x.aQ.xK.toInt !=0)then some true else some (decide ((x.aQ.xL.length:Int)>0)))=some false:=by
    rw[rj,hi.1,j5,hi.2];rfl
  constructor
  ·unfold D0;refine aB a1 (aB (v:=false) (aY rfl (aB b1 rfl)) (aY rfl (aB (v:=false) (aY e rfl) (aY rfl (aY e (aB (uy N _ b9) (aB (v:=false) (bE hn zz) (aY rfl (aV (by(first|omega|(simp only[ByteArray.size_append,aA,aoV,ao4]at*;omega))) (aB (abE jB x.bG (by omega) (by omega) h.l3 (by omega)) (aV (by(first|omega|(simp only[ByteArray.size_append,aA,aoV,ao4]at*;omega))) (aV (by(first|omega|(simp only[ByteArray.size_append,aA,aoV,ao4]at*;omega))) rfl))))))))))))
  ·unfold It;have rf:=OC jB x.bG 0 (bs []) h.l3 (by rw[aA,ao4,show(!(0==0))=false from rfl];omega);rw[kD,show(!(0==0))=false from rfl]at rf;refine aB a2 (aB (v:=false) (bE rfl (aB b2 rfl)) (aY rfl (aY e (aB (uh N _ b9) (aB (v:=false) (bE hn zz) (aY rfl (aV (by(first|omega|(simp only[ByteArray.size_append,aA,aoV,ao4]at*;omega))) (aB (show Ha N x.bG=_ from rf) (aV (by(first|omega|(simp only[ByteArray.size_append,aA,aoV,ao4]at*;omega))) (aV (by(first|omega|(simp only[ByteArray.size_append,aA,aoV,ao4]at*;omega))) rfl))))))))))
theorem ajL{N:Nat}(jB:50<N)(xs:apH bu)(hx:xs.length<=1000000)(hN:xs.length<N)(hl:∀x∈xs,Bz x)(hs:(da false (xs.map nW)).size<=140737488355328):PQ N (xs.length:Int) xs=some (da false (xs.map nW)):=by
 have h:=Gx (N:=N) xs (Hl N xs) nW (Ap N (xs.length:Int) xs) hx (λk i a=>rfl)
  (λi x h=>by unfold Hl;exact bE (apA (by omega)) (by rw[apj,h];exact aB rfl (aB (UB jB (hl x (px h))).1 rfl))) xs N 0 (bs []) rfl hN (Nat.zero_le _) (by rw[aA,ao4,apc];exact hs)
 rw[kD]at h;exact h
theorem XW{N:Nat}(jB:50<N):∀(l:apH bu)(k:Nat)(a:apI),(∀x∈l,Bz x)->a.size+(da (!(k==0)) (l.map nW)).size<=140737488355328->BB N l k a=some (a++da (!(k==0)) (l.map nW)++bs [93])
 |[],k,a,_,hs=>by
  rw[List.map_nil,da]at hs ⊢;rw[BB,pk];exact aV (by(first|omega|(simp only[ByteArray.size_append,aA,aoV,ao4]at*;omega))) rfl
 |x::l,k,a,hl,hs=>by
  have ih:=λb hb=>XW jB l (k+1) b (λy hy=>hl y (ao1 _ hy)) hb;rw[show(!(k+1==0))=true from rfl]at ih;rw[aph,da]at hs ⊢;rw[BB,j5];unfold QH;have hf:=(UB jB (hl x aoY)).2;cases hz: !(k==0)with
  |true=>
   rw[hz]at hs;simp only[cond_true,ByteArray.size_append]at hs;refine bE rfl (aV (by(first|omega|(simp only[ByteArray.size_append,aA,aoV,ao4]at*;omega))) (aB hf (aV (by(first|omega|(simp only[ByteArray.size_append,aA,aoV,ao4]at*;omega))) ?_)));refine(ih _ (by(first|omega|(simp only[ByteArray.size_append,aA,aoV,ao4]at*;omega)))).trans ?_;simp only[cond_true,ByteArray.append_assoc]
  |false=>
   rw[hz]at hs;simp only[cond_false,ByteArray.size_append]at hs;refine aY rfl (aB hf (aV (by(first|omega|(simp only[ByteArray.size_append,aA,aoV,ao4]at*;omega))) ?_));refine(ih _ (by(first|omega|(simp only[ByteArray.size_append,aA,aoV,ao4]at*;omega)))).trans ?_;simp only[cond_false,kD,ByteArray.append_assoc]
structure QX(y:ar):Prop where
 plain:iA y=true
 named:lM y=true
 aaE:kR y=true
 typed:kP y=true
 formed:lr y=true
 ln:Gu 300 y
def vn(e:ar):Prop:=∀y∈cy e,QX y
theorem vn.arg{e x:ar}(h:vn e)(hx:x∈e.bk):vn x:=λy hy=>h y (zl hx hy)
theorem vn.of{e:ar}(h:kE e=0)(k:iy 300 e):vn e:=λy hy=>
 let ⟨a,b,c,d,f⟩:=y4 (yn h y hy)
 ⟨a,b,c,d,f,k y hy⟩
theorem QX.ix{y:ar}(h:QX y):∀i∈y.xIdx,Bz i:=λi hi=>by
 obtain⟨f1,f2⟩:=L6 h.formed;have hn:=h.named;unfold lM at hn;rw[aoU]at hn;have jT:=api.1 hn.2 i hi;rw[Bool.or_eq_true]at jT;have hr:=h.aaE;unfold kR at hr;simp only[aoU,decide_eq_true_eq]at hr;have my:=api.1 hr.2.2 i hi;exact⟨(f2 i hi).1,(f2 i hi).2,zp h.plain i hi,jT,(h.ln.each i hi).eW,of_decide_eq_true my,(h.ln.each i hi).qB⟩
structure TT(N:Nat)(e:ar)(t:ByteArray):Prop where
 size:t.size<=600000*(cy e).length
 pos:0<t.size
 ref:∀d,3*SizeOf.sizeOf e<=d->iz N d e=some t
 real:∀d,3*SizeOf.sizeOf e<=d->∀a:ByteArray,a.size+t.size<=140737488355328->iF N d e a=some (a++t)
structure TO(N:Nat)(e:ar)(lv:Int)(t:ByteArray):Prop where
 size:t.size<=600000*(cy e).length+2
 pos:0<t.size
 ref:∀d,3*SizeOf.sizeOf e+1<=d->vg N d e lv=some t
 real:∀d,3*SizeOf.sizeOf e+1<=d->∀a:ByteArray,a.size+t.size<=140737488355328->qx N d e lv a=some (a++t)
theorem abf(N:Nat)(op:Int):∃z,Bx N op=some z/\Kn N op=some z:=by
 suffices h:∃z,Bx N op=some z by
  obtain⟨z,hz⟩:=h;exact⟨z,hz,hz⟩
 unfold Bx LQ RO NB;cases op==17 with
 |true=>exact⟨_,rfl⟩
 |false=>
 cases op==16 with
 |true=>exact⟨_,rfl⟩
 |false=>
 cases op==18 with
 |true=>exact⟨_,rfl⟩
 |false=>
 cases op==13 with
 |true=>exact⟨_,rfl⟩
 |false=>
 cases op==14 with
 |true=>exact⟨_,rfl⟩
 |false=>
 cases op==15 with
 |true=>exact⟨_,rfl⟩
 |false=>
 cases op==4 with
 |true=>exact⟨_,rfl⟩
 |false=>
 cases op==5 with
 |true=>exact⟨_,rfl⟩
 |false=>
 cases op==6 with
 |true=>exact⟨_,rfl⟩
 |false=>
 cases op==7 with
 |true=>exact⟨_,rfl⟩
 |false=>
 cases op==8 with
 |true=>exact⟨_,rfl⟩
 |false=>exact⟨_,rfl⟩
theorem TT.Nk{N:Nat}{e:ar}{t:apI}(h:TT N e t)(hs:t.size<=140737488355320)(lv:Int):∃t',TO N e lv t':=by
 obtain⟨z,E0,wN⟩:=abf N e.aJ;by_cases hl:lv<=z
 ·refine⟨t,apa h.size (apy _ _),h.pos,λd hd=> ?_,λd hd a ha=> ?_⟩
  ·obtain⟨d,rfl⟩:∃k,d=k+1:=⟨d-1,by omega⟩;rw[vg];exact aB E0 (aY (apB (by omega)) (aB (h.ref d (by omega)) rfl))
  ·obtain⟨d,rfl⟩:∃k,d=k+1:=⟨d-1,by omega⟩;rw[qx];exact aB wN (bE (apA (by omega)) (aB (h.real d (by omega) a ha) rfl))
 ·have eN:=h.size;refine⟨bs [40]++t++bs [41],by(first|omega|(simp only[ByteArray.size_append,aA,aoV,ao4]at*;omega)),by(first|omega|(simp only[ByteArray.size_append,aA,aoV,ao4]at*;omega)),λd hd=> ?_,λd hd a ha=> ?_⟩
  ·obtain⟨d,rfl⟩:∃k,d=k+1:=⟨d-1,by omega⟩;rw[vg];exact aB E0 (bE (apA (by omega)) (aB (h.ref d (by omega)) (aV (by(first|omega|(simp only[ByteArray.size_append,aA,aoV,ao4]at*;omega))) (aV (by(first|omega|(simp only[ByteArray.size_append,aA,aoV,ao4]at*;omega))) rfl))))
  ·obtain⟨d,rfl⟩:∃k,d=k+1:=⟨d-1,by omega⟩;rw[qx];simp only[ByteArray.size_append,aA,aoV,ao4]at ha;refine aB wN (aY (apB (by omega)) (aB (qD (by(first|omega|(simp only[ByteArray.size_append,aA,aoV,ao4]at*;omega)))) (aB (h.real d (by omega) _ (by(first|omega|(simp only[ByteArray.size_append,aA,aoV,ao4]at*;omega)))) (aB (qD (by(first|omega|(simp only[ByteArray.size_append,aA,aoV,ao4]at*;omega)))) ?_))));simp only[ByteArray.append_assoc]
def TL(N:Nat):apH ar->apH apI->Prop
 |[],[]=>True
 |x::l,t::ts=>TT N x t/\TL N l ts
 |_,_=>False
theorem acw{N:Nat}(d:Nat)(v2:apI):∀(l:apH ar)(ts:apH apI)(k:Nat)(a:apI),TL N l ts->(∀x∈l,3*SizeOf.sizeOf x<=d)->a.size+(da (!(k==0)|| !(v2.size==0)) ts).size+1<=140737488355328->
 rk N v2 (iF N d) l k a=some (a++da (!(k==0)|| !(v2.size==0)) ts++bs [41])
 |[],[],k,a,_,_,hs=>by
  rw[da]at hs ⊢;rw[rk,pk];exact aB (qD (by(first|omega|(simp only[ByteArray.size_append,aA,aoV,ao4]at*;omega)))) rfl
 |x::l,t::ts,k,a,⟨h,hl⟩,hd,hs=>by
  have ih:=λb hb=>acw d v2 l ts (k+1) b hl (λy hy=>hd y (ao1 _ hy)) hb;rw[show(!(k+1==0)|| !(v2.size==0))=true from rfl]at ih;have hx:=hd x aoY;rw[da]at hs ⊢;rw[rk,j5,FD,js];unfold Fe;refine aB rfl ?_;cases hz: !(k==0)|| !(v2.size==0)with
  |true=>
   rw[hz]at hs;simp only[cond_true,ByteArray.size_append]at hs;refine bE rfl (aB (qD (by(first|omega|(simp only[ByteArray.size_append,aA,aoV,ao4]at*;omega)))) (aB (h.real d hx _ (by(first|omega|(simp only[ByteArray.size_append,aA,aoV,ao4]at*;omega)))) ?_));refine(ih _ (by(first|omega|(simp only[ByteArray.size_append,aA,aoV,ao4]at*;omega)))).trans ?_;simp only[cond_true,ByteArray.append_assoc]
  |false=>
   rw[hz]at hs;simp only[cond_false,ByteArray.size_append]at hs;refine aY rfl (aB (h.real d hx _ (by(first|omega|(simp only[ByteArray.size_append,aA,aoV,ao4]at*;omega)))) ?_);refine(ih _ (by(first|omega|(simp only[ByteArray.size_append,aA,aoV,ao4]at*;omega)))).trans ?_;simp only[cond_false,kD,ByteArray.append_assoc]
 |[],_::_,_,_,h,_,_=>h.elim
 |_::_,[],_,_,h,_,_=>h.elim
theorem acZ{N:Nat}{w v2:apI}{l:apH ar}{ts:apH apI}(h:TL N l ts)(d:Nat)(hd:∀x∈l,3*SizeOf.sizeOf x<d)(a:apI)(hs:a.size+(w++bs [40]++v2++da (!(v2.size==0)) ts++bs [41]).size<=140737488355328)(h0:0<d):
 rm N d w v2 l a=some (a++(w++bs [40]++v2++da (!(v2.size==0)) ts++bs [41])):=by
 obtain⟨d,rfl⟩:∃k,d=k+1:=⟨d-1,by omega⟩;rw[rm];simp only[ByteArray.size_append]at hs;refine aV (by(first|omega|(simp only[ByteArray.size_append,aA,aoV,ao4]at*;omega))) (aV (by(first|omega|(simp only[ByteArray.size_append,aA,aoV,ao4]at*;omega))) (aB (qD (by(first|omega|(simp only[ByteArray.size_append,aA,aoV,ao4]at*;omega)))) ?_));have:=acw (N:=N) d v2 l ts 0 (a++(w++bs [40]++v2)) h (λx hx=>by have:=hd x hx;omega) (by
  rw[show(!(0==0)|| !(v2.size==0))= !(v2.size==0)from rfl];(first|omega|(simp only[ByteArray.size_append,aA,aoV,ao4]at*;omega)))
 rw[show(!(0==0)|| !(v2.size==0))= !(v2.size==0)from rfl]at this;rw[this];simp only[ByteArray.append_assoc]
theorem Qy(op:Int)(nm:apI)(v:dy)(ty:bq)(ln:aN)(ix:apH bu)(x:ar):(cy (⟨op,nm,v,ty,ln,ix,[x]⟩:ar)).length=1+(cy x).length:=by
 show(_::gX [x]).length=_;rw[aoV,mG,aoT,gX,ao4];omega
theorem FN(op:Int)(nm:apI)(v:dy)(ty:bq)(ln:aN)(ix:apH bu)(x y:ar):(cy (⟨op,nm,v,ty,ln,ix,[x,y]⟩:ar)).length=1+((cy x).length+(cy y).length):=by
 show(_::gX [x,y]).length=_;rw[aoV,mG,mG,aoT,aoT,gX,ao4];omega
theorem TI(op:Int)(nm:apI)(v:dy)(ty:bq)(ln:aN)(ix:apH bu)(x y w:ar):(cy (⟨op,nm,v,ty,ln,ix,[x,y,w]⟩:ar)).length=1+((cy x).length+((cy y).length+(cy w).length)):=by
 show(_::gX [x,y,w]).length=_;rw[aoV,mG,mG,mG,aoT,aoT,aoT,gX,ao4];omega
theorem oB{op:Int}{nm:apI}{v:dy}{ty:bq}{ln:aN}{ix:apH bu}{gs:apH ar}(x:ar)(h:x∈gs):SizeOf.sizeOf x<SizeOf.sizeOf (⟨op,nm,v,ty,ln,ix,gs⟩:ar):=qc (e:=⟨op,nm,v,ty,ln,ix,gs⟩) h
theorem th{N:Nat}{op:Int}{nm:apI}{v:dy}{ty:bq}{ln:aN}{ix:apH bu}{x y:ar}{t1 t2:apI}(sg sy:apI)
 (h1:(op==1)=false) (h2:(op==2)=false) (h3:(op==3)=false) (h8:(op==8)=false) (eM:(op==18)=false) (h9:(op==9)=false) (bM:(op==10)=false) (bY:(op==11)=false) (bU:(op==12)=false)
 (hg:abw N op=some sg) (hgs:(bL sg==bL (bs []))=false) (hgl:sg.size<=4) (hy:Rr N op=some sy) (X4:bs [32]++sy++bs [32]=sg)
 (k1:TT N x t1) (k2:TT N y t2) (hb:(cy (⟨op,nm,v,ty,ln,ix,[x,y]⟩:ar)).length<=2000):∃t,TT N ⟨op,nm,v,ty,ln,ix,[x,y]⟩ t:=by
 obtain⟨z,E0,wN⟩:=abf N op;have hn:=FN op nm v ty ln ix x y;rw[hn]at hb;have b1:=k1.size;have b2:=k2.size;obtain⟨u1,o1⟩:=k1.Nk (by omega) z;obtain⟨u2,o2⟩:=k2.Nk (by omega) (bh (z+1));have s1:=o1.size;have s2:=o2.size;have p1:=o1.pos;have eN:sy.size+2=sg.size:=by rw[<-X4];(first|omega|(simp only[ByteArray.size_append,aA,aoV,ao4]at*;omega))
 have z1:=oB (op:=op) (nm:=nm) (v:=v) (ty:=ty) (ln:=ln) (ix:=ix) (gs:=[x,y]) x aoY;have z2:=oB (op:=op) (nm:=nm) (v:=v) (ty:=ty) (ln:=ln) (ix:=ix) (gs:=[x,y]) y (ao1 _ aoY);refine⟨u1++sg++u2,by rw[hn];(first|omega|(simp only[ByteArray.size_append,aA,aoV,ao4]at*;omega)),by(first|omega|(simp only[ByteArray.size_append,aA,aoV,ao4]at*;omega)),λd hd=> ?_,λd hd a ha=> ?_⟩
 ·obtain⟨d,rfl⟩:∃k,d=k+1:=⟨d-1,by omega⟩;rw[iz];refine aB hg (aY hgs (aB rfl (aB E0 (aB (o1.ref d (by omega)) (aV (by omega) (aB rfl (aB E0 (aB (o2.ref d (by omega)) (aV (by(first|omega|(simp only[ByteArray.size_append,aA,aoV,ao4]at*;omega))) rfl)))))))))
 ·obtain⟨d,rfl⟩:∃k,d=k+1:=⟨d-1,by omega⟩;rw[iF];simp only[ByteArray.size_append]at ha;refine aB wN (aY h1 (aY h2 (aY h3 (aY h8 (aY eM (aY h9 (aY bM (aY bY (aY bU ?_)))))))));refine aB rfl (aB (o1.real d (by omega) a (by omega)) (aB hy (aV (by(first|omega|(simp only[ByteArray.size_append,aA,aoV,ao4]at*;omega))) (aV (by(first|omega|(simp only[ByteArray.size_append,aA,aoV,ao4]at*;omega))) (aB (qD (by(first|omega|(simp only[ByteArray.size_append,aA,aoV,ao4]at*;omega)))) (aB rfl (aB (o2.real d (by omega) _ (by(first|omega|(simp only[ByteArray.size_append,aA,aoV,ao4]at*;omega)))) ?_)))))));rw[X4];simp only[ByteArray.append_assoc]
theorem YO{N:Nat}{op:Int}{nm:apI}{v:dy}{ty:bq}{ln:aN}{ix:apH bu}{x:ar}{t1:apI}(z:Int)(sg:apI)
 (hg:sg.size=1) (k1:TT N x t1) (hb:(cy (⟨op,nm,v,ty,ln,ix,[x]⟩:ar)).length<=2000)
 (hr:∀d,iz N (d+1) ⟨op,nm,v,ty,ln,ix,[x]⟩=(vg N d x z).bind λbX=>bif (Nat.ble (sg.size+bX.size) 9223372036854775807)then some (sg++bX)else none)
 (hq:∀d a,iF N (d+1) ⟨op,nm,v,ty,ln,ix,[x]⟩ a=(l8 N sg a).bind λv11=>(qx N d x z v11).bind λba=>some ba):∃t,TT N ⟨op,nm,v,ty,ln,ix,[x]⟩ t:=by
 have hn:=Qy op nm v ty ln ix x;rw[hn]at hb;have b1:=k1.size;obtain⟨u1,o1⟩:=k1.Nk (by omega) z;have s1:=o1.size;have p1:=o1.pos;have z1:=oB (op:=op) (nm:=nm) (v:=v) (ty:=ty) (ln:=ln) (ix:=ix) (gs:=[x]) x aoY;refine⟨sg++u1,by rw[hn];(first|omega|(simp only[ByteArray.size_append,aA,aoV,ao4]at*;omega)),by(first|omega|(simp only[ByteArray.size_append,aA,aoV,ao4]at*;omega)),λd hd=> ?_,λd hd a ha=> ?_⟩
 ·obtain⟨d,rfl⟩:∃k,d=k+1:=⟨d-1,by omega⟩;rw[hr];exact aB (o1.ref d (by omega)) (aV (by omega) rfl)
 ·obtain⟨d,rfl⟩:∃k,d=k+1:=⟨d-1,by omega⟩;rw[hq];simp only[ByteArray.size_append]at ha;refine aB (qD (by(first|omega|(simp only[ByteArray.size_append,aA,aoV,ao4]at*;omega)))) (aB (o1.real d (by omega) _ (by(first|omega|(simp only[ByteArray.size_append,aA,aoV,ao4]at*;omega)))) ?_);rw[ByteArray.append_assoc]
theorem Uf(e:ar):0<SizeOf.sizeOf e:=by cases e;rw[ar.mk.sizeOf_spec];omega
theorem IB{N:Nat}{op:Int}{nm:apI}{v:dy}{ty:bq}{ln:aN}{ix:apH bu}{gs:apH ar}{ts:apH apI}(w x t:apI)
 (hw:w.size<=4) (hx:x.size<=62) (k:TL N gs ts) (ht:t=w++bs [40]++x++da (!(x.size==0)) ts++bs [41]) (hb:t.size<=600000*(cy (⟨op,nm,v,ty,ln,ix,gs⟩:ar)).length)
 (hr:∀d,3*SizeOf.sizeOf (⟨op,nm,v,ty,ln,ix,gs⟩:ar)<=d+1->iz N (d+1) ⟨op,nm,v,ty,ln,ix,gs⟩=some t)
 (hq:∀d a r,rm N d w x gs a=some r->iF N (d+1) ⟨op,nm,v,ty,ln,ix,gs⟩ a=some r):∃t,TT N ⟨op,nm,v,ty,ln,ix,gs⟩ t:=by
 refine⟨t,hb,by rw[ht];(first|omega|(simp only[ByteArray.size_append,aA,aoV,ao4]at*;omega)),λd hd=> ?_,λd hd a ha=> ?_⟩
 ·obtain⟨d,rfl⟩:∃k,d=k+1:=⟨d-1,by have:=Uf (⟨op,nm,v,ty,ln,ix,gs⟩:ar);omega⟩;exact hr d hd
 ·obtain⟨d,rfl⟩:∃k,d=k+1:=⟨d-1,by have:=Uf (⟨op,nm,v,ty,ln,ix,gs⟩:ar);omega⟩;refine hq d a _ ?_;rw[ht]at ha ⊢;exact acZ k d (λy hy=>by have:=oB (op:=op) (nm:=nm) (v:=v) (ty:=ty) (ln:=ln) (ix:=ix) (gs:=gs) y hy;omega) a ha (by
   have:0<SizeOf.sizeOf (⟨op,nm,v,ty,ln,ix,gs⟩:ar):=by rw[ar.mk.sizeOf_spec];omega
   omega)
theorem acD(w u1 u2:apI)(wp:apH UInt8)(hw:bL w=wp):(bs (wp++[40]))++u1++bs [44,32]++u2++bs [41]=w++bs [40]++bs []++da (!((bs []).size==0)) [u1,u2]++bs [41]:=by
 apply iJ;simp [rz,QZ,da,aA,hw]
theorem aot(w u1 u2 u3:apI)(wp:apH UInt8)(hw:bL w=wp):(bs (wp++[40]))++u1++bs [44,32]++u2++bs [44,32]++u3++bs [41]=w++bs [40]++bs []++da (!((bs []).size==0)) [u1,u2,u3]++bs [41]:=by
 apply iJ;simp [rz,QZ,da,aA,hw]
theorem aoz(w x u1:apI)(wp:apH UInt8)(hw:bL w=wp)(hx:(x.size==0)=false):(bs (wp++[40]))++x++bs [44,32]++u1++bs [41]=w++bs [40]++x++da (!(x.size==0)) [u1]++bs [41]:=by
 apply iJ;rw[hx];simp [rz,QZ,da,aA,hw]
theorem Wf{x:ar}:∀{l:apH ar},x∈l->(cy x).length<=(gX l).length
 |y::l,h=>by
  rw[mG,aoT];rcases apm.1 h with rfl|h
  ·omega
  ·have:=Wf h;omega
theorem aoh{t:bq}(h:eO t=true):((np t).size==0)=false:=by
 unfold np;rw[h,cond_true];cases t.bS==1 with
 |true=>rfl
 |false=>
  cases t.bS==3 with
  |true=>rfl
  |false=>
   rw[cond_false,cond_false,beq_eq_false_iff_ne];unfold Ar;simp only[ByteArray.size_append,aA,aoV,ao4];omega
theorem am1{op:Int}(h1:1<=op)(h2:op<=18):op=1\/op=2\/op=3\/op=4\/op=5\/op=6\/op=7\/op=8\/op=9\/op=10\/op=11\/op=12\/op=13\/op=14\/op=15\/op=16\/op=17\/op=18:=by omega
theorem UW{N:Nat}(hN:2147483648<N):∀(n:Nat)(e:ar),SizeOf.sizeOf e<=n->vn e->(cy e).length<=2000->∃t,TT N e t
 |0,e,hs,_,_=>by cases e;rw[ar.mk.sizeOf_spec]at hs;omega
 |n+1,e,hs,hE,hb=>by
  have K:=hE e aoY;have ch:∀x∈e.bk,∃t,TT N x t:=λx hx=>UW hN n x (by have:=qc hx;omega) (hE.arg hx) (by
   have:(cy x).length<=(gX e.bk).length:=Wf hx;have e2:(cy e).length=(gX e.bk).length+1:=rfl;omega)
  obtain⟨op,nm,v,ty,ln,ix,gs⟩:=e;have hp:=K.plain;unfold iA at hp;simp only[aoU,decide_eq_true_eq]at hp;have hr:=K.aaE;unfold kR at hr;rw[aoU]at hr;have jb:=hr.1;have my:=hr.2;rw[aoU]at my;have hix:ix.length<=6:=of_decide_eq_true my.1;have q7:=K.typed;unfold kP at q7;rw[aoU]at q7;have PJ:=K.formed;unfold lr at PJ;rw[aoU]at PJ;have R7:=K.named;unfold lM at R7;rw[aoU]at R7;have wA:1<=(cy (⟨op,nm,v,ty,ln,ix,gs⟩:ar)).length:=by show 1<=(gX gs).length+1;omega
  rcases am1 hp.1 hp.2.1 with rfl|rfl|rfl|rfl|rfl|rfl|rfl|rfl|rfl|rfl|rfl|rfl|rfl|rfl|rfl|rfl|rfl|rfl
  ·have ht:eO ty=true:=q7.1;have hv:mr ty v=true:=PJ.1;obtain⟨x,r1,r2,r3⟩:=ag3 hN ht hv;have s:=Lw ty;refine⟨np ty++bs [40]++x++bs [41],by(first|omega|(simp only[ByteArray.size_append,aA,aoV,ao4]at*;omega)),by(first|omega|(simp only[ByteArray.size_append,aA,aoV,ao4]at*;omega)),λd hd=> ?_,λd hd a ha=> ?_⟩
   ·obtain⟨d,rfl⟩:∃k,d=k+1:=⟨d-1,by rw[ar.mk.sizeOf_spec]at hd;omega⟩;rw[iz];exact aB (v:=bs []) rfl (bE rfl (bE rfl (aB (J5 (by omega) ty) (aV (by(first|omega|(simp only[ByteArray.size_append,aA,aoV,ao4]at*;omega))) (aB r2 (aV (by(first|omega|(simp only[ByteArray.size_append,aA,aoV,ao4]at*;omega))) (aV (by(first|omega|(simp only[ByteArray.size_append,aA,aoV,ao4]at*;omega))) rfl)))))))
   ·obtain⟨d,rfl⟩:∃k,d=k+1:=⟨d-1,by rw[ar.mk.sizeOf_spec]at hd;omega⟩;rw[iF];exact aB (v:=8) rfl (bE rfl (aB (JT N ty) (aV (by(first|omega|(simp only[ByteArray.size_append,aA,aoV,ao4]at*;omega))) (aB r1 (aV (by(first|omega|(simp only[ByteArray.size_append,aA,aoV,ao4]at*;omega))) (aV (by(first|omega|(simp only[ByteArray.size_append,aA,aoV,ao4]at*;omega))) (aB (qD ha) rfl)))))))
  ·have hl:ln.xL.length<=300:=K.ln.eW;have s:=rB hl;refine⟨bs [91]++jd ln++bs [93],by(first|omega|(simp only[ByteArray.size_append,aA,aoV,ao4]at*;omega)),by(first|omega|(simp only[ByteArray.size_append,aA,aoV,ao4]at*;omega)),λd hd=> ?_,λd hd a ha=> ?_⟩
   ·obtain⟨d,rfl⟩:∃k,d=k+1:=⟨d-1,by rw[ar.mk.sizeOf_spec]at hd;omega⟩;rw[iz];exact aB (v:=bs []) rfl (bE rfl (aY rfl (bE rfl (aB (FF (by omega) hl) (aV (by(first|omega|(simp only[ByteArray.size_append,aA,aoV,ao4]at*;omega))) (aV (by(first|omega|(simp only[ByteArray.size_append,aA,aoV,ao4]at*;omega))) rfl))))))
   ·obtain⟨d,rfl⟩:∃k,d=k+1:=⟨d-1,by rw[ar.mk.sizeOf_spec]at hd;omega⟩;rw[iF];exact aB (v:=8) rfl (aY rfl (bE rfl (aB (DO (by omega) hl) (aV (by(first|omega|(simp only[ByteArray.size_append,aA,aoV,ao4]at*;omega))) (aV (by(first|omega|(simp only[ByteArray.size_append,aA,aoV,ao4]at*;omega))) (aB (qD ha) rfl))))))
  ·have alY:cE nm=true:=R7.1;have s1:=(qt alY).1;have s2:(da false (ix.map nW)).size<=433056:=by
    have h1:=Ac (B:=72174) (ix.map nW) false λt ht=>by
     obtain⟨l,hl,rfl⟩:=List.mem_map.1 ht;exact anr (K.ix l hl)
    rw[aoX]at h1;have:ix.length*(72174+2)<=6*(72174+2):=Nat.mul_le_mul_right _ hix;omega
   refine⟨nm++bs [91]++da false (ix.map nW)++bs [93],by(first|omega|(simp only[ByteArray.size_append,aA,aoV,ao4]at*;omega)),by(first|omega|(simp only[ByteArray.size_append,aA,aoV,ao4]at*;omega)),λd hd=> ?_,λd hd a ha=> ?_⟩
   ·obtain⟨d,rfl⟩:∃k,d=k+1:=⟨d-1,by rw[ar.mk.sizeOf_spec]at hd;omega⟩;rw[iz];have rf:=XW (N:=N) (by omega) ix 0 (nm++bs [91]) K.ix (by rw[show(!(0==0))=false from rfl];(first|omega|(simp only[ByteArray.size_append,aA,aoV,ao4]at*;omega)));exact aB (v:=bs []) rfl (bE rfl (aY rfl (aY rfl (bE rfl (aV (by(first|omega|(simp only[ByteArray.size_append,aA,aoV,ao4]at*;omega))) rf)))))
   ·obtain⟨d,rfl⟩:∃k,d=k+1:=⟨d-1,by rw[ar.mk.sizeOf_spec]at hd;omega⟩;rw[iF];exact aB (v:=8) rfl (aY rfl (aY rfl (bE rfl (aV (by(first|omega|(simp only[ByteArray.size_append,aA,aoV,ao4]at*;omega))) (aB (ajL (by omega) ix (by omega) (by omega) K.ix (by omega)) (aV (by(first|omega|(simp only[ByteArray.size_append,aA,aoV,ao4]at*;omega))) (aV (by(first|omega|(simp only[ByteArray.size_append,aA,aoV,ao4]at*;omega))) (aB (qD ha) rfl))))))))
  ·obtain⟨x,y,rfl⟩:=o9 (l:=gs) (beq_iff_eq.1 jb);obtain⟨t1,k1⟩:=ch x aoY;obtain⟨t2,k2⟩:=ch y (ao1 _ aoY);exact th (bs [32,43,32]) (bs [43]) rfl rfl rfl rfl rfl rfl rfl rfl rfl rfl rfl (by decide) rfl rfl k1 k2 hb
  ·obtain⟨x,y,rfl⟩:=o9 (l:=gs) (beq_iff_eq.1 jb);obtain⟨t1,k1⟩:=ch x aoY;obtain⟨t2,k2⟩:=ch y (ao1 _ aoY);exact th (bs [32,45,32]) (bs [45]) rfl rfl rfl rfl rfl rfl rfl rfl rfl rfl rfl (by decide) rfl rfl k1 k2 hb
  ·obtain⟨x,y,rfl⟩:=o9 (l:=gs) (beq_iff_eq.1 jb);obtain⟨t1,k1⟩:=ch x aoY;obtain⟨t2,k2⟩:=ch y (ao1 _ aoY);exact th (bs [32,42,32]) (bs [42]) rfl rfl rfl rfl rfl rfl rfl rfl rfl rfl rfl (by decide) rfl rfl k1 k2 hb
  ·obtain⟨x,y,rfl⟩:=o9 (l:=gs) (beq_iff_eq.1 jb);obtain⟨t1,k1⟩:=ch x aoY;obtain⟨t2,k2⟩:=ch y (ao1 _ aoY);exact th (bs [32,47,32]) (bs [47]) rfl rfl rfl rfl rfl rfl rfl rfl rfl rfl rfl (by decide) rfl rfl k1 k2 hb
  ·obtain⟨x,rfl⟩:=K7 (l:=gs) (beq_iff_eq.1 jb);obtain⟨t1,k1⟩:=ch x aoY;refine YO 7 (bs [45]) rfl k1 hb (λd=> ?_) (λd a=> ?_)
   ·rw[iz];exact aB (v:=bs []) rfl rfl
   ·rw[iF];exact aB (v:=7) rfl rfl
  ·obtain⟨x,y,rfl⟩:=o9 (l:=gs) (beq_iff_eq.1 jb);obtain⟨t1,k1⟩:=ch x aoY;obtain⟨t2,k2⟩:=ch y (ao1 _ aoY);have s1:=k1.size;have s2:=k2.size;rw[FN]at hb;refine IB (ts:=[t1,t2]) (bs [109,105,110]) (bs []) (bs [109,105,110,40]++t1++bs [44,32]++t2++bs [41]) (by decide) (by decide) ⟨k1,k2,trivial⟩ (acD (bs [109,105,110]) t1 t2 [109,105,110] rfl) (by rw[FN];(first|omega|(simp only[ByteArray.size_append,aA,aoV,ao4]at*;omega))) (λd hd=> ?_) (λd a r h=> ?_)
   ·have z1:=oB (op:=9) (nm:=nm) (v:=v) (ty:=ty) (ln:=ln) (ix:=ix) (gs:=[x,y]) x aoY;have z2:=oB (op:=9) (nm:=nm) (v:=v) (ty:=ty) (ln:=ln) (ix:=ix) (gs:=[x,y]) y (ao1 _ aoY);rw[iz];exact aB (v:=bs []) rfl (bE rfl (aY rfl (aY rfl (aY rfl (aY rfl (aY rfl (bE rfl (aB rfl (aB (k1.ref d (by omega)) (aV (by(first|omega|(simp only[ByteArray.size_append,aA,aoV,ao4]at*;omega))) (aV (by(first|omega|(simp only[ByteArray.size_append,aA,aoV,ao4]at*;omega))) (aB rfl (aB (k2.ref d (by omega)) (aV (by(first|omega|(simp only[ByteArray.size_append,aA,aoV,ao4]at*;omega))) (aV (by(first|omega|(simp only[ByteArray.size_append,aA,aoV,ao4]at*;omega))) rfl)))))))))))))))
   ·rw[iF];exact aB (v:=8) rfl (aY rfl (aY rfl (aY rfl (aY rfl (aY rfl (bE rfl (aB h rfl)))))))
  ·obtain⟨x,y,rfl⟩:=o9 (l:=gs) (beq_iff_eq.1 jb);obtain⟨t1,k1⟩:=ch x aoY;obtain⟨t2,k2⟩:=ch y (ao1 _ aoY);have s1:=k1.size;have s2:=k2.size;rw[FN]at hb;refine IB (ts:=[t1,t2]) (bs [109,97,120]) (bs []) (bs [109,97,120,40]++t1++bs [44,32]++t2++bs [41]) (by decide) (by decide) ⟨k1,k2,trivial⟩ (acD (bs [109,97,120]) t1 t2 [109,97,120] rfl) (by rw[FN];(first|omega|(simp only[ByteArray.size_append,aA,aoV,ao4]at*;omega))) (λd hd=> ?_) (λd a r h=> ?_)
   ·have z1:=oB (op:=10) (nm:=nm) (v:=v) (ty:=ty) (ln:=ln) (ix:=ix) (gs:=[x,y]) x aoY;have z2:=oB (op:=10) (nm:=nm) (v:=v) (ty:=ty) (ln:=ln) (ix:=ix) (gs:=[x,y]) y (ao1 _ aoY);rw[iz];exact aB (v:=bs []) rfl (bE rfl (aY rfl (aY rfl (aY rfl (aY rfl (aY rfl (aY rfl (bE rfl (aB rfl (aB (k1.ref d (by omega)) (aV (by(first|omega|(simp only[ByteArray.size_append,aA,aoV,ao4]at*;omega))) (aV (by(first|omega|(simp only[ByteArray.size_append,aA,aoV,ao4]at*;omega))) (aB rfl (aB (k2.ref d (by omega)) (aV (by(first|omega|(simp only[ByteArray.size_append,aA,aoV,ao4]at*;omega))) (aV (by(first|omega|(simp only[ByteArray.size_append,aA,aoV,ao4]at*;omega))) rfl))))))))))))))))
   ·rw[iF];exact aB (v:=8) rfl (aY rfl (aY rfl (aY rfl (aY rfl (aY rfl (aY rfl (bE rfl (aB h rfl))))))))
  ·obtain⟨x,y,w,rfl⟩:=WK (l:=gs) (beq_iff_eq.1 jb);obtain⟨t1,k1⟩:=ch x aoY;obtain⟨t2,k2⟩:=ch y (ao1 _ aoY);obtain⟨t3,k3⟩:=ch w (ao1 _ (ao1 _ aoY));have s1:=k1.size;have s2:=k2.size;have s3:=k3.size;rw[TI]at hb;refine IB (ts:=[t1,t2,t3]) (bs [105,102]) (bs []) (bs [105,102,40]++t1++bs [44,32]++t2++bs [44,32]++t3++bs [41]) (by decide) (by decide) ⟨k1,k2,k3,trivial⟩ (aot (bs [105,102]) t1 t2 t3 [105,102] rfl) (by rw[TI];(first|omega|(simp only[ByteArray.size_append,aA,aoV,ao4]at*;omega))) (λd hd=> ?_) (λd a r h=> ?_)
   ·have z1:=oB (op:=11) (nm:=nm) (v:=v) (ty:=ty) (ln:=ln) (ix:=ix) (gs:=[x,y,w]) x aoY;have z2:=oB (op:=11) (nm:=nm) (v:=v) (ty:=ty) (ln:=ln) (ix:=ix) (gs:=[x,y,w]) y (ao1 _ aoY);have z3:=oB (op:=11) (nm:=nm) (v:=v) (ty:=ty) (ln:=ln) (ix:=ix) (gs:=[x,y,w]) w (ao1 _ (ao1 _ aoY));rw[iz];exact aB (v:=bs []) rfl (bE rfl (aY rfl (aY rfl (aY rfl (aY rfl (aY rfl (aY rfl (aY rfl (bE rfl (aB rfl (aB (k1.ref d (by omega)) (aV (by(first|omega|(simp only[ByteArray.size_append,aA,aoV,ao4]at*;omega))) (aV (by(first|omega|(simp only[ByteArray.size_append,aA,aoV,ao4]at*;omega))) (aB rfl (aB (k2.ref d (by omega)) (aV (by(first|omega|(simp only[ByteArray.size_append,aA,aoV,ao4]at*;omega))) (aV (by(first|omega|(simp only[ByteArray.size_append,aA,aoV,ao4]at*;omega))) (aB rfl (aB (k3.ref d (by omega)) (aV (by(first|omega|(simp only[ByteArray.size_append,aA,aoV,ao4]at*;omega))) (aV (by(first|omega|(simp only[ByteArray.size_append,aA,aoV,ao4]at*;omega))) rfl)))))))))))))))))))))
   ·rw[iF];exact aB (v:=8) rfl (aY rfl (aY rfl (aY rfl (aY rfl (aY rfl (aY rfl (aY rfl (bE rfl (aB h rfl)))))))))
  ·obtain⟨x,rfl⟩:=K7 (l:=gs) (beq_iff_eq.1 jb);obtain⟨t1,k1⟩:=ch x aoY;have s1:=k1.size;have st:=Lw ty;have ht:eO ty=true:=q7.1;rw[Qy]at hb;refine IB (ts:=[t1]) (bs [99,97,115,116]) (np ty) (bs [99,97,115,116,40]++np ty++bs [44,32]++t1++bs [41]) (by decide) st ⟨k1,trivial⟩ (aoz (bs [99,97,115,116]) (np ty) t1 [99,97,115,116] rfl (aoh ht)) (by rw[Qy];(first|omega|(simp only[ByteArray.size_append,aA,aoV,ao4]at*;omega))) (λd hd=> ?_) (λd a r h=> ?_)
   ·have z1:=oB (op:=12) (nm:=nm) (v:=v) (ty:=ty) (ln:=ln) (ix:=ix) (gs:=[x]) x aoY;rw[iz];exact aB (v:=bs []) rfl (bE rfl (aY rfl (aY rfl (aY rfl (aY rfl (aY rfl (aY rfl (aY rfl (aY rfl (aB (J5 (by omega) ty) (aV (by(first|omega|(simp only[ByteArray.size_append,aA,aoV,ao4]at*;omega))) (aV (by(first|omega|(simp only[ByteArray.size_append,aA,aoV,ao4]at*;omega))) (aB rfl (aB (k1.ref d (by omega)) (aV (by(first|omega|(simp only[ByteArray.size_append,aA,aoV,ao4]at*;omega))) (aV (by(first|omega|(simp only[ByteArray.size_append,aA,aoV,ao4]at*;omega))) rfl))))))))))))))))
   ·rw[iF];exact aB (v:=8) rfl (aY rfl (aY rfl (aY rfl (aY rfl (aY rfl (aY rfl (aY rfl (aY rfl (bE rfl (aB (JT N ty) (aB h rfl)))))))))))
  ·obtain⟨x,y,rfl⟩:=o9 (l:=gs) (beq_iff_eq.1 jb);obtain⟨t1,k1⟩:=ch x aoY;obtain⟨t2,k2⟩:=ch y (ao1 _ aoY);exact th (bs [32,60,32]) (bs [60]) rfl rfl rfl rfl rfl rfl rfl rfl rfl rfl rfl (by decide) rfl rfl k1 k2 hb
  ·obtain⟨x,y,rfl⟩:=o9 (l:=gs) (beq_iff_eq.1 jb);obtain⟨t1,k1⟩:=ch x aoY;obtain⟨t2,k2⟩:=ch y (ao1 _ aoY);exact th (bs [32,60,61,32]) (bs [60,61]) rfl rfl rfl rfl rfl rfl rfl rfl rfl rfl rfl (by decide) rfl rfl k1 k2 hb
  ·obtain⟨x,y,rfl⟩:=o9 (l:=gs) (beq_iff_eq.1 jb);obtain⟨t1,k1⟩:=ch x aoY;obtain⟨t2,k2⟩:=ch y (ao1 _ aoY);exact th (bs [32,61,61,32]) (bs [61,61]) rfl rfl rfl rfl rfl rfl rfl rfl rfl rfl rfl (by decide) rfl rfl k1 k2 hb
  ·obtain⟨x,y,rfl⟩:=o9 (l:=gs) (beq_iff_eq.1 jb);obtain⟨t1,k1⟩:=ch x aoY;obtain⟨t2,k2⟩:=ch y (ao1 _ aoY);exact th (bs [32,38,32]) (bs [38]) rfl rfl rfl rfl rfl rfl rfl rfl rfl rfl rfl (by decide) rfl rfl k1 k2 hb
  ·obtain⟨x,y,rfl⟩:=o9 (l:=gs) (beq_iff_eq.1 jb);obtain⟨t1,k1⟩:=ch x aoY;obtain⟨t2,k2⟩:=ch y (ao1 _ aoY);exact th (bs [32,124,32]) (bs [124]) rfl rfl rfl rfl rfl rfl rfl rfl rfl rfl rfl (by decide) rfl rfl k1 k2 hb
  ·obtain⟨x,rfl⟩:=K7 (l:=gs) (beq_iff_eq.1 jb);obtain⟨t1,k1⟩:=ch x aoY;refine YO 3 (bs [33]) rfl k1 hb (λd=> ?_) (λd a=> ?_)
   ·rw[iz];exact aB (v:=bs []) rfl rfl
   ·rw[iF];exact aB (v:=3) rfl rfl
structure s8(N:Nat)(d:aX):Prop where
 name:cE d.ao=true
 type:eO d.aM=true
 ou:d.aO.length<=12
 red:d.aU.length<=12
 nK:∀x∈d.aO++d.aU,x.cg.xL.length<=20/\cE x.ao=true/\dq x.cg=true
 f0:0<=d.cr
 f5:d.cr<=5
 fr:d.cr=0\/d.cr=5->d.aU.length=0
 E:vn d.bR
 nd:(cy d.bR).length<=2000
 v1:wu N d.bR=some 0
 v2:rZ N d.bR=some 0
 sz:3*SizeOf.sizeOf d.bR<=N
def CL(f:Int):apI:=bif f==1 then bs [115,117,109]else bif f==2 then bs [112,114,111,100]else bif f==3 then bs [109,105,110]else bif f==4 then bs [109,97,120]else bs [115,99,97,110]
def By(d:aX):apI:=bif d.cr==0 then bs []else CL d.cr++(bif d.aU.length==0 then bs []else bs [32]++da false (d.aU.map mq))++bs [58,32]
theorem anl{x:bV}(h1:x.cg.xL.length<=20)(h2:cE x.ao=true):(mq x).size<=843:=by
 have a:=rB h1;have b:=(qt h2).1;unfold mq;(first|omega|(simp only[ByteArray.size_append,aA,aoV,ao4]at*;omega))
theorem Oa{l:apH bV}(h:l.length<=12)(hx:∀x∈l,x.cg.xL.length<=20/\cE x.ao=true/\dq x.cg=true):(da false (l.map mq)).size<=10140:=by
 have h1:=Ac (B:=843) (l.map mq) false λt ht=>by
  obtain⟨y,hy,rfl⟩:=List.mem_map.1 ht;exact anl (hx y hy).1 (hx y hy).2.1
 rw[aoX]at h1;have:l.length*(843+2)<=12*(843+2):=Nat.mul_le_mul_right _ h;omega
theorem VF(f:Int):(CL f).size<=4:=by unfold CL;cases f==1<;>cases f==2<;>cases f==3<;>cases f==4<;>decide
theorem ahd(N:Nat)(f:Int):Om N f=some (CL f):=by unfold Om CL;cases f==1<;>cases f==2<;>cases f==3<;>cases f==4<;>rfl
theorem s8.agX{N:Nat}{d:aX}(h:s8 N d):(da false (d.aO.map mq)).size<=10140:=Oa h.ou λx hx=>h.nK x (List.mem_append_left _ hx)
theorem s8.Rz{N:Nat}{d:aX}(h:s8 N d):(da false (d.aU.map mq)).size<=10140:=Oa h.red λx hx=>h.nK x (List.mem_append_right _ hx)
theorem akM{N:Nat}{d:aX}(h:s8 N d):(By d).size<=10147:=by
 have a:=h.Rz;have b:=VF d.cr;unfold By;cases d.cr==0<;>cases d.aU.length==0<;>simp only[cond_true,cond_false]<;>(first|omega|(simp only[ByteArray.size_append,aA,aoV,ao4]at*;omega))
theorem zx{l:apH bV}(hx:∀x∈l,x.cg.xL.length<=20/\cE x.ao=true/\dq x.cg=true):∀x∈l,x.cg.xL.length<=300/\cE x.ao=true/\dq x.cg=true:=λx h=>⟨apa (hx x h).1 (by decide),(hx x h).2⟩
theorem Z6{N:Nat}(hN:2147483648<N){l:apH bV}(h:l.length<=12)(hx:∀x∈l,x.cg.xL.length<=20/\cE x.ao=true/\dq x.cg=true):sb N (l.length:Int) l=some (da false (l.map mq)):=
 ale (by omega) l (by omega) (by omega) (λx hh=>⟨(zx hx x hh).1,(qt (hx x hh).2.1).1⟩) (by have:=Oa h hx;omega)
theorem ahV{N:Nat}(hN:2147483648<N){d:aX}(h:s8 N d):Jo N d=some (By d):=by
 have hl:=Z6 hN h.red λx hx=>h.nK x (List.mem_append_right _ hx);have hs:=h.Rz;have h0:=h.f0;have h5:=h.f5;unfold Jo By L5 H6 Hk Ka LD;obtain⟨nm,ty,dm,rd,fo,bo⟩:=d;simp only at hl hs h0 h5 ⊢;rw[j5];have h6:fo=0\/fo=1\/fo=2\/fo=3\/fo=4\/fo=5:=by omega
 rcases h6 with rfl|rfl|rfl|rfl|rfl|rfl
 ·rfl
 ·refine aY rfl (bE rfl ?_);cases rd.length==0 with
  |true=>exact aY rfl (aV (by(first|omega|(simp only[ByteArray.size_append,aA,aoV,ao4]at*;omega))) rfl)
  |false=>exact bE rfl (aB hl (aV (by(first|omega|(simp only[ByteArray.size_append,aA,aoV,ao4]at*;omega))) (aV (by(first|omega|(simp only[ByteArray.size_append,aA,aoV,ao4]at*;omega))) (aV (by(first|omega|(simp only[ByteArray.size_append,aA,aoV,ao4]at*;omega))) rfl))))
 ·refine aY rfl (aY rfl (bE rfl ?_));cases rd.length==0 with
  |true=>exact aY rfl (aV (by(first|omega|(simp only[ByteArray.size_append,aA,aoV,ao4]at*;omega))) rfl)
  |false=>exact bE rfl (aB hl (aV (by(first|omega|(simp only[ByteArray.size_append,aA,aoV,ao4]at*;omega))) (aV (by(first|omega|(simp only[ByteArray.size_append,aA,aoV,ao4]at*;omega))) (aV (by(first|omega|(simp only[ByteArray.size_append,aA,aoV,ao4]at*;omega))) rfl))))
 ·refine aY rfl (aY rfl (aY rfl (bE rfl ?_)));cases rd.length==0 with
  |true=>exact aY rfl (aV (by(first|omega|(simp only[ByteArray.size_append,aA,aoV,ao4]at*;omega))) rfl)
  |false=>exact bE rfl (aB hl (aV (by(first|omega|(simp only[ByteArray.size_append,aA,aoV,ao4]at*;omega))) (aV (by(first|omega|(simp only[ByteArray.size_append,aA,aoV,ao4]at*;omega))) (aV (by(first|omega|(simp only[ByteArray.size_append,aA,aoV,ao4]at*;omega))) rfl))))
 ·refine aY rfl (aY rfl (aY rfl (aY rfl (bE rfl ?_))));cases rd.length==0 with
  |true=>exact aY rfl (aV (by(first|omega|(simp only[ByteArray.size_append,aA,aoV,ao4]at*;omega))) rfl)
  |false=>exact bE rfl (aB hl (aV (by(first|omega|(simp only[ByteArray.size_append,aA,aoV,ao4]at*;omega))) (aV (by(first|omega|(simp only[ByteArray.size_append,aA,aoV,ao4]at*;omega))) (aV (by(first|omega|(simp only[ByteArray.size_append,aA,aoV,ao4]at*;omega))) rfl))))
 ·refine aY rfl (aY rfl (aY rfl (aY rfl (aY rfl (bE rfl ?_)))));cases rd.length==0 with
  |true=>exact aY rfl (aV (by(first|omega|(simp only[ByteArray.size_append,aA,aoV,ao4]at*;omega))) rfl)
  |false=>exact bE rfl (aB hl (aV (by(first|omega|(simp only[ByteArray.size_append,aA,aoV,ao4]at*;omega))) (aV (by(first|omega|(simp only[ByteArray.size_append,aA,aoV,ao4]at*;omega))) (aV (by(first|omega|(simp only[ByteArray.size_append,aA,aoV,ao4]at*;omega))) rfl))))
def KU(d:aX)(b:apI):apI:=((((((((bs [100,101,102,32])++d.ao)++(bs [58,32]))++np d.aM)++(bs [91]))++da false (d.aO.map mq))++(bs [93,32,61,32]))++By d)++b++bs [59]
theorem agh{N:Nat}(hN:2147483648<N){d:aX}(h:s8 N d):∃t:apI,t.size<=1300000000/\0<t.size/\I4 N d=some t/\SP N d=some t:=by
 obtain⟨b,hb⟩:=UW hN _ d.bR (ao3 _) h.E h.nd;have Yy:=hb.size;have hbp:=hb.pos;have fW:=h.nd;have hb9:b.size<=1200000000:=by omega
 have s1:=(qt h.name).1;have s2:=Lw d.aM;have s3:=h.agX;have s4:=akM h;have s5:=h.Rz;have s6:=VF d.cr;have DT:=λx hx=>zx h.nK x hx;have e1:S7 N d.bR=some b:=by
  have:=hb.real N h.sz (bs []) (by rw[aA,ao4];omega);rw[kD]at this;exact aB h.v1 (aY rfl (aB (show SV N d.bR (bs [])=some b from this) rfl))
 have e2:Xz N d.bR=some b:=aB h.v2 (aY rfl (aB (show Y8 N d.bR=some b from hb.ref N h.sz) rfl));have d1:∀x∈d.aO,x.cg.xL.length<=20/\cE x.ao=true/\dq x.cg=true:=λx hx=>h.nK x (List.mem_append_left _ hx);have d2:∀x∈d.aU,x.cg.xL.length<=20/\cE x.ao=true/\dq x.cg=true:=λx hx=>h.nK x (List.mem_append_right _ hx);refine⟨KU d b,by unfold KU;(first|omega|(simp only[ByteArray.size_append,aA,aoV,ao4]at*;omega)),by unfold KU;(first|omega|(simp only[ByteArray.size_append,aA,aoV,ao4]at*;omega)),?_,?_⟩
 ·unfold I4;refine aB (uy N _ (by omega)) (aB (v:=false) (bE h.name (aB (SL (by omega) d.aO 0 (zx d1)) (bE rfl (aB (SL (by omega) d.aU 0 (zx d2)) (bE rfl (aB (rP N _) (by rw[h.type];rfl))))))) (aY rfl ?_));refine aB (v:=false) ?_ (aY rfl ?_)
  ·refine aY (apB (by have:=h.f0;omega)) (aY (apB (by have:=h.f5;omega)) ?_);rw[j5];cases z0:d.cr==0 with
   |true=>refine bE rfl ?_;rw[h.fr (.inl (beq_iff_eq.1 z0))];rfl
   |false=>
    cases z5:d.cr==5 with
    |true=>refine aY rfl (bE rfl ?_);rw[h.fr (.inr (beq_iff_eq.1 z5))];rfl
    |false=>rfl
  ·refine aB h.v1 (aY rfl (aV (by(first|omega|(simp only[ByteArray.size_append,aA,aoV,ao4]at*;omega))) (aV (by(first|omega|(simp only[ByteArray.size_append,aA,aoV,ao4]at*;omega))) (aB (JT N _) (aV (by(first|omega|(simp only[ByteArray.size_append,aA,aoV,ao4]at*;omega))) (aV (by(first|omega|(simp only[ByteArray.size_append,aA,aoV,ao4]at*;omega))) (aB (Z6 hN h.ou d1) (aV (by(first|omega|(simp only[ByteArray.size_append,aA,aoV,ao4]at*;omega))) (aV (by(first|omega|(simp only[ByteArray.size_append,aA,aoV,ao4]at*;omega))) (aB (ahV hN h) (aV (by(first|omega|(simp only[ByteArray.size_append,aA,aoV,ao4]at*;omega))) (aB e1 (aV (by(first|omega|(simp only[ByteArray.size_append,aA,aoV,ao4]at*;omega))) (aV (by(first|omega|(simp only[ByteArray.size_append,aA,aoV,ao4]at*;omega))) rfl))))))))))))))
 ·have a1:=SE (N:=N) (by omega) d.aO 0 (bs []) (zx d1) (by rw[aA,ao4,show(!(0==0))=false from rfl];omega);have a2:=SE (N:=N) (by omega) d.aU 0 (bs []) (zx d2) (by rw[aA,ao4,show(!(0==0))=false from rfl];omega);rw[kD,show(!(0==0))=false from rfl]at a1 a2;unfold SP;refine aB (show Kd N d.aO=_ from a1) (aB (show Kd N d.aU=_ from a2) (aB e2 ?_));refine aB (v:=false) (bE rfl (bE rfl (aY (by rw[FD,beq_eq_false_iff_ne];omega) (aB (uh N _ (by omega)) (bE h.name (aB (sk N _) (bE h.type (aY (apB (by have:=h.f0;omega)) (congrArg some (apB (by have:=h.f5;omega))))))))))) (aY rfl ?_);refine aB (v:=false) ?_ (aY rfl ?_)
  ·rw[j5];cases zr:d.aU.length==0 with
   |true=>rfl
   |false=>
    refine bE rfl ?_;have hr:d.aU.length≠0:=by rw[beq_eq_false_iff_ne]at zr;exact zr
    refine aY (beq_eq_false_iff_ne.2 λhf=>hr (h.fr (.inl hf))) (congrArg some (beq_eq_false_iff_ne.2 λhf=>hr (h.fr (.inr hf))))
  ·refine aV (by(first|omega|(simp only[ByteArray.size_append,aA,aoV,ao4]at*;omega))) (aV (by(first|omega|(simp only[ByteArray.size_append,aA,aoV,ao4]at*;omega))) (aB (J5 (by omega) _) (aV (by(first|omega|(simp only[ByteArray.size_append,aA,aoV,ao4]at*;omega))) (aV (by(first|omega|(simp only[ByteArray.size_append,aA,aoV,ao4]at*;omega))) (aV (by(first|omega|(simp only[ByteArray.size_append,aA,aoV,ao4]at*;omega))) (aV (by(first|omega|(simp only[ByteArray.size_append,aA,aoV,ao4]at*;omega))) ?_))))));unfold KU By Sb Ql;rw[rj,j5];cases d.cr==0 with
   |true=>exact aY rfl (aV (by(first|omega|(simp only[ByteArray.size_append,aA,aoV,ao4]at*;omega))) (aV (by(first|omega|(simp only[ByteArray.size_append,aA,aoV,ao4]at*;omega))) (by rw[cond_true,pk])))
   |false=>
    refine bE rfl (aB (ahd N _) (aV (by(first|omega|(simp only[ByteArray.size_append,aA,aoV,ao4]at*;omega))) ?_));cases d.aU.length==0 with
    |true=>exact aY rfl (aV (by(first|omega|(simp only[ByteArray.size_append,aA,aoV,ao4]at*;omega))) (aV (by(first|omega|(simp only[ByteArray.size_append,aA,aoV,ao4]at*;omega))) (aV (by(first|omega|(simp only[ByteArray.size_append,aA,aoV,ao4]at*;omega))) (by simp only[cond_true,cond_false,pk,ByteArray.append_assoc]))))
    |false=>exact bE rfl (aV (by(first|omega|(simp only[ByteArray.size_append,aA,aoV,ao4]at*;omega))) (aV (by(first|omega|(simp only[ByteArray.size_append,aA,aoV,ao4]at*;omega))) (aV (by(first|omega|(simp only[ByteArray.size_append,aA,aoV,ao4]at*;omega))) (aV (by(first|omega|(simp only[ByteArray.size_append,aA,aoV,ao4]at*;omega))) (aV (by(first|omega|(simp only[ByteArray.size_append,aA,aoV,ao4]at*;omega))) (by simp only[cond_true,cond_false,ByteArray.append_assoc]))))))
structure Eu(N:Nat)(q:aG):Prop where
 s:q.az.length<=12
 o:q.bW.length<=12
 w:q.cd.length<=12
 p:q.aE.length<=12
 d:q.aw.length<=12
 S:∀s∈q.az,cE s=true
 O:∀s∈q.bW,cE s=true
 W:∀c∈q.cd,dq c.aQ=true/\c.aQ.xL.length<=20
 P:∀x∈q.aE,cE x.ao=true/\eO x.aM=true/\x.aO.length<=12/\∀l∈x.aO,dq l=true/\l.xL.length<=20
 D:∀x∈q.aw,s8 N x
def Km(r f:apJ apI):Prop:=∃t:apI,r=some t/\f=some t/\t.size<=200000000000
theorem IU{l:apH apI}(h:l.length<=12)(hn:∀s∈l,cE s=true):(da false l).size<=216:=by
 have h1:=Ac (B:=16) l false λt ht=>(qt (hn t ht)).1;have:l.length*(16+2)<=12*(16+2):=Nat.mul_le_mul_right _ h;omega
def rJ(w:apI)(l:apH apI):apI:=bif l.length==0 then bs []else(w++bs [32])++da false l++bs [59,10]
theorem TN{N:Nat}(hN:2147483648<N){w:apI}{l:apH apI}(hw:w.size<=4)(h:l.length<=12)(hn:∀s∈l,cE s=true)(a:apI)(ha:a.size<=100000000000000):DI N w l a=some (a++rJ w l):=by
 have hs:=IU h hn;unfold DI rJ;rw[j5];cases l.length==0 with
 |true=>rw[cond_true,pk];rfl
 |false=>exact bE rfl (aV (by(first|omega|(simp only[ByteArray.size_append,aA,aoV,ao4]at*;omega))) (aB (ai5 l (by omega) (by omega) (by omega)) (aV (by(first|omega|(simp only[ByteArray.size_append,aA,aoV,ao4]at*;omega))) (aV (by(first|omega|(simp only[ByteArray.size_append,aA,aoV,ao4]at*;omega))) (aB (mJ (by(first|omega|(simp only[ByteArray.size_append,aA,aoV,ao4]at*;omega)))) rfl)))))
theorem TE{N:Nat}(hN:2147483648<N)(q:aG)(h:Eu N q):∀(l:apH aX)(k:Nat)(a:apI),(∀d∈l,s8 N d)->a.size+1300000001*l.length<=100000000000->Km (F9 N q l k a) (Ca N q (da false q.bW,true) l k a)
 |[],k,a,_,ha=>by
  have hs:=IU h.o h.O;have hz:(rJ (bs [111,117,116]) q.bW).size<=300:=by unfold rJ;cases q.bW.length==0<;>simp only[cond_true,cond_false]<;>(first|omega|(simp only[ByteArray.size_append,aA,aoV,ao4]at*;omega))
  refine⟨a++rJ (bs [111,117,116]) q.bW,?_,?_,by rw[ao4]at ha;(first|omega|(simp only[ByteArray.size_append,aA,aoV,ao4]at*;omega))⟩
  ·rw[F9];exact aB (TN hN (by decide) h.o h.O a (by omega)) rfl
  ·rw[Ca,j5];unfold rJ;cases q.bW.length==0 with
   |true=>rw[cond_true,pk];rfl
   |false=>exact bE rfl (aV (by(first|omega|(simp only[ByteArray.size_append,aA,aoV,ao4]at*;omega))) (aV (by(first|omega|(simp only[ByteArray.size_append,aA,aoV,ao4]at*;omega))) (aV (by(first|omega|(simp only[ByteArray.size_append,aA,aoV,ao4]at*;omega))) (congrArg some (by
    rw[cond_false,show bs [111,117,116]++bs [32]=bs [111,117,116,32]from rfl];simp only[ByteArray.append_assoc])))))
 |x::l,k,a,hl,ha=>by
  obtain⟨t,t1,t2,t3,t4⟩:=agh hN (hl x aoY);rw[aoV]at ha;obtain⟨r,r1,r2,r3⟩:=TE hN q h l (k+1) (a++(t++bs [10])) (λd hd=>hl d (ao1 _ hd)) (by(first|omega|(simp only[ByteArray.size_append,aA,aoV,ao4]at*;omega)));have tn:(bL t==bL (bs []))=false:=by rw[FD,beq_eq_false_iff_ne];omega
  refine⟨r,?_,?_,r3⟩
  ·rw[F9];exact aB t3 (aY tn (aV (by(first|omega|(simp only[ByteArray.size_append,aA,aoV,ao4]at*;omega))) (aB (mJ (by(first|omega|(simp only[ByteArray.size_append,aA,aoV,ao4]at*;omega)))) r1)))
  ·rw[Ca];refine aB t4 (aY tn (aV (by(first|omega|(simp only[ByteArray.size_append,aA,aoV,ao4]at*;omega))) (aV (by(first|omega|(simp only[ByteArray.size_append,aA,aoV,ao4]at*;omega))) ?_)));rw[ByteArray.append_assoc];exact r2
theorem VW{N:Nat}(hN:2147483648<N)(q:aG)(h:Eu N q):∀(l:apH cf)(k:Nat)(a:apI),(∀x∈l,cE x.ao=true/\eO x.aM=true/\x.aO.length<=12/\∀l∈x.aO,dq l=true/\l.xL.length<=20)->a.size+100000*l.length<=10000000->
 Km (D4 N q l k a) (F6 N q (da false q.bW,true) l k a)
 |[],k,a,_,ha=>by
  have:=h.d;obtain⟨t,t1,t2,t3⟩:=TE hN q h q.aw 0 a h.D (by rw[ao4]at ha;omega);exact⟨t,by rw[D4];exact t1,by rw[F6];exact t2,t3⟩
 |x::l,k,a,hl,ha=>by
  obtain⟨h1,h2,h3,h4⟩:=hl x aoY;have s1:=(qt h1).1;have s2:=Lw x.aM;have s3:(da false (x.aO.map jd)).size<=10000:=by
   have a1:=Ac (B:=824) (x.aO.map jd) false λt ht=>by
    obtain⟨y,hy,rfl⟩:=List.mem_map.1 ht;exact rB (h4 y hy).2
   rw[aoX]at a1;have:x.aO.length*(824+2)<=12*(824+2):=Nat.mul_le_mul_right _ h3;omega
  have IY:∀y∈x.aO,y.xL.length<=300:=λy hy=>apa (h4 y hy).2 (by decide);have eW:∀y∈x.aO,dq y=true:=λy hy=>(h4 y hy).1;rw[aoV]at ha;obtain⟨r,r1,r2,r3⟩:=VW hN q h l (k+1) (a++(((((((bs [105,110,32])++x.ao)++(bs [58,32]))++np x.aM)++(bs [91]))++da false (x.aO.map jd))++(bs [93,59,10]))) (λd hd=>hl d (ao1 _ hd)) (by(first|omega|(simp only[ByteArray.size_append,aA,aoV,ao4]at*;omega)));refine⟨r,?_,?_,r3⟩
  ·rw[D4];refine aB (uy N _ (by omega)) (aB (v:=false) (bE h1 (aB (rP N _) (by rw[h2];exact aY rfl (aB (PM (by omega) x.aO 0 IY eW) rfl)))) (aY rfl ?_));exact aV (by(first|omega|(simp only[ByteArray.size_append,aA,aoV,ao4]at*;omega))) (aV (by(first|omega|(simp only[ByteArray.size_append,aA,aoV,ao4]at*;omega))) (aB (JT N _) (aV (by(first|omega|(simp only[ByteArray.size_append,aA,aoV,ao4]at*;omega))) (aV (by(first|omega|(simp only[ByteArray.size_append,aA,aoV,ao4]at*;omega))) (aB (abE (by omega) x.aO (by omega) (by omega) IY (by omega)) (aV (by(first|omega|(simp only[ByteArray.size_append,aA,aoV,ao4]at*;omega))) (aV (by(first|omega|(simp only[ByteArray.size_append,aA,aoV,ao4]at*;omega))) (aB (mJ (by(first|omega|(simp only[ByteArray.size_append,aA,aoV,ao4]at*;omega)))) r1))))))))
  ·have rf:=OC (N:=N) (by omega) x.aO 0 (bs []) IY (by rw[aA,ao4,show(!(0==0))=false from rfl];omega);rw[kD,show(!(0==0))=false from rfl]at rf;rw[F6];refine aB (uh N _ (by omega)) (aB (v:=false) (bE h1 (aB (sk N _) (bE h2 (aB (Pc (by omega) x.aO 0 IY eW) rfl)))) (aY rfl ?_));refine aV (by(first|omega|(simp only[ByteArray.size_append,aA,aoV,ao4]at*;omega))) (aV (by(first|omega|(simp only[ByteArray.size_append,aA,aoV,ao4]at*;omega))) (aV (by(first|omega|(simp only[ByteArray.size_append,aA,aoV,ao4]at*;omega))) (aB (J5 (by omega) _) (aV (by(first|omega|(simp only[ByteArray.size_append,aA,aoV,ao4]at*;omega))) (aV (by(first|omega|(simp only[ByteArray.size_append,aA,aoV,ao4]at*;omega))) (aB (show Ha N x.aO=_ from rf) (aV (by(first|omega|(simp only[ByteArray.size_append,aA,aoV,ao4]at*;omega))) (aV (by(first|omega|(simp only[ByteArray.size_append,aA,aoV,ao4]at*;omega))) ?_))))))));simp only[ByteArray.append_assoc]at r2 ⊢;exact r2
theorem TS{N:Nat}(hN:2147483648<N)(q:aG)(h:Eu N q):∀(l:apH cz)(k:Nat)(a:apI),(∀c∈l,dq c.aQ=true/\c.aQ.xL.length<=20)->a.size+1000*l.length<=1000000->
 Km (Ge N q l k a) (Fi N q (da false q.bW,true) l k a)
 |[],k,a,_,ha=>by
  have:=h.p;obtain⟨t,t1,t2,t3⟩:=VW hN q h q.aE 0 a h.P (by rw[ao4]at ha;omega);exact⟨t,by rw[Ge];exact t1,by rw[Fi];exact t2,t3⟩
 |x::l,k,a,hl,ha=>by
  obtain⟨h1,h2⟩:=hl x aoY;have h3:x.aQ.xL.length<=300:=apa h2 (by decide);have s:=agr h2;rw[aoV]at ha;obtain⟨r,r1,r2,r3⟩:=TS hN q h l (k+1) (a++(((bs [119,104,101,114,101,32])++yX x)++(bs [59,10]))) (λd hd=>hl d (ao1 _ hd)) (by(first|omega|(simp only[ByteArray.size_append,aA,aoV,ao4]at*;omega)));have hv:tM N x=some 0:=by
   unfold tM;rw[tB N (by omega) x.aQ (apa h3 (by decide)),h1];rfl
  have Mw:CS N x=some 0:=by
   unfold CS;rw[rF N (by omega) x.aQ (apa h3 (by decide)),h1];rfl
  refine⟨r,?_,?_,r3⟩
  ·rw[Ge];exact aB hv (aY rfl (aB (amy (by omega) h3) (aV (by(first|omega|(simp only[ByteArray.size_append,aA,aoV,ao4]at*;omega))) (aV (by(first|omega|(simp only[ByteArray.size_append,aA,aoV,ao4]at*;omega))) (aB (mJ (by(first|omega|(simp only[ByteArray.size_append,aA,aoV,ao4]at*;omega)))) r1)))))
  ·rw[Fi];refine aB Mw (aY rfl (aV (by(first|omega|(simp only[ByteArray.size_append,aA,aoV,ao4]at*;omega))) (aB (ajG (by omega) h3) (aV (by(first|omega|(simp only[ByteArray.size_append,aA,aoV,ao4]at*;omega))) (aV (by(first|omega|(simp only[ByteArray.size_append,aA,aoV,ao4]at*;omega))) ?_)))));simp only[ByteArray.append_assoc]at r2 ⊢;exact r2
theorem aoe{N:Nat}(hN:2147483648<N)(q:aG)(h:Eu N q):Km (AL N q) (S1 N q):=by
 have s1:=IU h.s h.S;have hw:=h.w;have hr:(rJ (bs [115,105,122,101]) q.az).size<=300:=by unfold rJ;cases q.az.length==0<;>simp only[cond_true,cond_false]<;>(first|omega|(simp only[ByteArray.size_append,aA,aoV,ao4]at*;omega))
 obtain⟨t,t1,t2,t3⟩:=TS hN q h q.cd 0 (rJ (bs [115,105,122,101]) q.az) h.W (by omega);have n1:=ND (N:=N) (by omega) q.az 0 (bs []) h.S (by rw[aA,ao4,show(!(0==0))=false from rfl];omega);have s2:=IU h.o h.O;have n2:=ND (N:=N) (by omega) q.bW 0 (bs []) h.O (by rw[aA,ao4,show(!(0==0))=false from rfl];omega);rw[kD,show(!(0==0))=false from rfl]at n1 n2;refine⟨t,?_,?_,t3⟩
 ·unfold AL;have mf:=TN (N:=N) hN (w:=bs [115,105,122,101]) (by decide) h.s h.S (bs []) (by decide);rw[kD]at mf;exact aB (RG (by omega) q.az 0 h.S) (aB (v:=false) (bE rfl (aB (RG (by omega) q.bW 0 h.O) rfl)) (aY rfl (aB mf t1)))
 ·unfold S1 Nb;refine aB (show I2 N q.az=_ from n1) (aB (show I2 N q.bW=_ from n2) (aB (v:=false) (bE rfl rfl) (aY rfl ?_)));rw[j5];unfold rJ at t2;revert t2;cases q.az.length==0 with
  |true=>exact λt2=>aY rfl t2
  |false=>exact λt2=>bE rfl (aV (by(first|omega|(simp only[ByteArray.size_append,aA,aoV,ao4]at*;omega))) (aV (by(first|omega|(simp only[ByteArray.size_append,aA,aoV,ao4]at*;omega))) t2))
structure pc(a b c d:ByteArray):Prop where
 na:∀k:Fin 12,cE (gD a k.val)=true
 nb:∀k:Fin 12,cE (gD b k.val)=true
 nc:∀k:Fin 12,cE (gD c k.val)=true
 nd:∀k:Fin 12,cE (gD d k.val)=true
 ad:rE a d
 bc:rE b c
 ab:∀k j:Fin 12,bL (gD a k.val)≠bL (gD b j.val)
 ac:∀k j:Fin 12,bL (gD a k.val)≠bL (gD c j.val)
theorem alR{m m':Nm}{s:apI}:s ∉ m.map (·.1)->aF (m++m') s=aF m' s:=by
 induction m with
 |nil=>intro _;rfl
 |cons x m ih=>
  intro h;obtain⟨k,w⟩:=x;rw[aph,apm]at h;rw[List.cons_append,aF,show(bL k==bL s)=false from by
   rw[beq_eq_false_iff_ne];exact λe=>h (.inl (iJ e).symm)]
  exact ih λhm=>h (.inr hm)
section
variable {N:Nat} {p:aG} {a b c d:apI}
theorem EX{x y:apI}{l:apH apI}(h:(x,y)∈dR a 0 l)(hl:l.length<=12):∃k:Fin 12,y=gD a k.val:=by
 have:y∈(dR a 0 l).map (·.2):=List.mem_map.2 ⟨_,h,rfl⟩;rw[AY]at this;obtain⟨j,_,h2,h3⟩:=ES this;exact⟨⟨j,by omega⟩,h3⟩
theorem Wa(h:p.az.length<=12){s:apI}(hs:s∈p.az):∃k:Fin 12,aF (mS a p) s=gD a k.val:=by
 obtain⟨⟨x,y⟩,h1,h2,h3⟩:=Aj (mS a p) s (by rw[yI];exact hs);rw[h3];exact EX h1 h
theorem ZX(h1:p.aE.length<=12)(h2:p.aw.length<=12){s:apI}(hs:s∈lK p):(∃k:Fin 12,aF (mT b c p) s=gD b k.val)\/∃k:Fin 12,aF (mT b c p) s=gD c k.val:=by
 obtain⟨⟨x,y⟩,k1,k2,k3⟩:=Aj (mT b c p) s (by rw[xA];exact hs);rw[k3];unfold mT at k1;rcases apv.1 k1 with k1|k1
 ·exact .inl (EX k1 (by rw[aoX];exact h1))
 ·exact .inr (EX k1 (by rw[aoX];exact h2))
theorem ake{f:aX}(h1:p.az.length<=12)(h2:(dM f).length<=12){s:apI}(hs:s∈dM f++p.az):(∃k:Fin 12,aF (mV a d p f) s=gD d k.val)\/∃k:Fin 12,aF (mV a d p f) s=gD a k.val:=by
 obtain⟨⟨x,y⟩,k1,k2,k3⟩:=Aj (mV a d p f) s (by rw[Ba];exact hs);rw[k3];unfold mV at k1;rcases apv.1 k1 with k1|k1
 ·exact .inl (EX k1 h2)
 ·exact .inr (EX k1 h1)
theorem Qm(F:iO N p){f:aX}(hf:f∈p.aw):(dM f).length<=12/\∀s∈p.az,s ∉ dM f:=by
 obtain⟨i,hi⟩:=List.mem_iff_getElem?.1 hf;have g:=F.G i f hi;have hl:=g.len;refine⟨by unfold dM;rw[aoX,aoT];omega,λs hs hv=> ?_⟩;unfold dM at hv;obtain⟨x,hx,rfl⟩:=List.mem_map.1 hv;exact((BM _ _ g.nK).1 x hx).2.1 (List.mem_append_left _ hs)
theorem ED(F:iO N p)(S:pc a b c d):Ow p (aF (mS a p)) (aF (mT b c p)) (λf=>aF (mV a d p f)):=by
 have hs:=F.Sh.s;refine⟨⟨Ea hs,λx hx=> ?_⟩,⟨λx hx y hy e=> ?_,λx hx=> ?_⟩,λx hx y hy e=> ?_,λf hf=>⟨ZS S.ad hs (Qm F hf).1,λx hx=> ?_⟩,λf hf s h=> ?_,Dl F.V⟩
 ·obtain⟨k,e⟩:=Wa (a:=a) hs hx;rw[e];exact S.na k
 ·refine RJ (m:=mT b c p) ?_ (by rw[xA];exact hx) (by rw[xA];exact hy) e;unfold mT;rw[List.map_append,AY,AY];exact Vi S.bc _ _ (by rw[aoX];exact F.Sh.q) (by rw[aoX];exact F.Sh.d)
 ·rcases ZX (b:=b) (c:=c) F.Sh.q F.Sh.d hx with⟨k,e⟩|⟨k,e⟩
  ·rw[e];exact S.nb k
  ·rw[e];exact S.nc k
 ·obtain⟨k,e1⟩:=Wa (a:=a) hs hx;rw[e1]at e;rcases ZX (b:=b) (c:=c) F.Sh.q F.Sh.d hy with⟨j,e2⟩|⟨j,e2⟩
  ·rw[e2]at e;exact S.ab k j (congrArg bL e)
  ·rw[e2]at e;exact S.ac k j (congrArg bL e)
 ·rcases ake (a:=a) (d:=d) hs (Qm F hf).1 hx with⟨k,e⟩|⟨k,e⟩
  ·rw[e];exact S.nd k
  ·rw[e];exact S.na k
 ·show aF (mV a d p f) s=aF (mS a p) s;unfold mV;exact alR (by rw[z8];exact(Qm F hf).2 s h)
theorem ajx(h:nX p):qQ p=true:=by
 have h1:=h.s;have h2:=h.w;have h3:=h.q;have h4:=h.d;have h5:=h.o;unfold qQ;rw[apA (show p.az.length<=64 by omega),apA (show p.aE.length<=64 by omega),apA (show p.aw.length<=64 by omega),apA (show p.bW.length<=64 by omega),apA (show p.cd.length<=256 by omega)];rfl
theorem ak7(hN:9223372036854775808<N)(hS:nX p)(hs:∀f∈p.aw,SizeOf.sizeOf f.bR<N)(Q:VQ N p):iO N p/\∃k,pg N p=some (k,0)/\pY N p=some (k,0):=by
 have B:=SA (N:=N) hS hs;have b9:16<N:=by omega
 obtain⟨k,hk⟩:=anw b9 B (ajx hS) Q;obtain⟨a,x,v1,v2,v3⟩:=abh (by omega) B;rw[hk]at v2;obtain⟨rfl,rfl⟩:=Prod.mk.inj (apb v2);exact⟨⟨hN,Rl b9 B hk,hS,v3 rfl,hs⟩,k,v1,hk⟩
theorem iO.vq(F:iO N p){k:Int}(h:pY N p=some (k,0)):VQ N p:=ajY (by have:=F.hN;omega) (SA F.Sh F.size) h
theorem Oj(F:iO N p)(Q:VQ N p)(S:pc a b c d)(hs:∀f∈(cv a b c d p).aw,SizeOf.sizeOf f.bR<N):VQ N (cv a b c d p)/\iO N (cv a b c d p)/\∃k,pg N (cv a b c d p)=some (k,0)/\pY N (cv a b c d p)=some (k,0):=by
 have hN:=F.hN;have q:=al0 (by omega) F.V F.Sh (ED F S) F.size hs Q;obtain⟨f1,f2⟩:=ak7 hN (W8 F.Sh) hs q;exact⟨q,f1,f2⟩
theorem aiU{d:aX}(h:qm d=0):0<=d.cr/\d.cr<=5/\(d.cr=0\/d.cr=5->d.aU.length=0):=by
 unfold qm at h;cases z0:d.cr==0 with
 |true=>
  rw[z0,cond_true]at h;have e:=beq_iff_eq.1 z0;refine⟨by omega,by omega,λ_=> ?_⟩;cases zr:d.aU.length==0 with
  |true=>exact beq_iff_eq.1 zr
  |false=>rw[zr]at h;cases h
 |false=>
  rw[z0,cond_false]at h;have n0:=beq_eq_false_iff_ne.1 z0;cases z1:decide (1<=d.cr)&&decide (d.cr<=4)with
  |true=>
   rw[aoU,decide_eq_true_eq,decide_eq_true_eq]at z1;exact⟨by omega,by omega,λe=>by omega⟩
  |false=>
   rw[z1,cond_false]at h;cases z5:d.cr==5 with
   |false=>rw[z5]at h;cases h
   |true=>
    rw[z5,cond_true]at h;have e:=beq_iff_eq.1 z5;refine⟨by omega,by omega,λ_=> ?_⟩;cases zr:d.aU.length==0 with
    |true=>exact beq_iff_eq.1 zr
    |false=>rw[zr]at h;cases h
theorem V9{S:apH apI}:∀(l:apH cf)(T:apH apI),uc S T l->∀x∈l,eO x.aM=true
 |[],_,_,x,hx=>by cases hx
 |y::l,T,⟨h,hl⟩,x,hx=>by
  rcases apm.1 hx with rfl|hx
  ·unfold pM at h;cases e:fi (S++T) x.ao !=0 with
   |true=>rw[e]at h;simp only[cond_true]at h;rw[h]at e;cases e
   |false=>
    rw[e]at h;simp only[cond_false]at h;cases e1:eO x.aM with
    |false=>rw[e1]at h;cases h
    |true=>rfl
  ·exact V9 l _ hl x hx
theorem afY(F:iO N p)(Q:VQ N p)(hs:∀f∈p.aw,3*SizeOf.sizeOf f.bR<=N):Eu N p:=by
 have hN:=F.hN;have V:=F.V;refine⟨F.Sh.s,F.Sh.o,F.Sh.w,F.Sh.q,F.Sh.d,λs h=>((Mh _ _ V.names).1 s h).1,λs h=>V.lK s (V.outs s h),λc h=>⟨(rN (V.wh c h)).1,F.Sh.W c h⟩,λx h=> ?_,λf h=> ?_⟩
 ·obtain⟨a,b,c⟩:=(A2 _ _ V.qH).1 x h;exact⟨a,V9 _ _ V.qH x h,(F.Sh.P x h).1,λl hl=>⟨(rN (sZ c l hl)).1,(F.Sh.P x h).2 l hl⟩⟩
 ·obtain⟨i,hi⟩:=List.mem_iff_getElem?.1 h;have q:=Q.defs i f hi;have g:=F.G i f hi;have sh:=F.Sh.D f h;obtain⟨f0,f5,fr⟩:=aiU q.fold;refine⟨(tV q.name).1,q.type,sh.ou,sh.red,λx hx=> ?_,f0,f5,fr,vn.of g.body sh.body,ahQ g.body,?_,?_,hs f h⟩
  ·obtain⟨a,b,c⟩:=(BM _ _ q.nK).1 x hx;exact⟨sh.Fo x hx,a,(rN c).1⟩
  ·rw[YV N (by omega) _ sh.body.ok,g.body]
  ·rw[HR N (by omega) _ (F.size f h) sh.body.ok,g.body]
end
theorem CW:pc (bs [115]) (bs [112]) (bs [100]) (bs [105]):=⟨by decide,by decide,by decide,by decide,⟨115,105,rfl,rfl,by decide⟩,⟨112,100,rfl,rfl,by decide⟩,by decide,by decide⟩
def vh(s:apI)(x:dV):Bool:=bL x.ao==bL s
def oy(b:apH dV):apH apI->apI->apI×Int
 |[],a=>(a,0)
 |s::l,a=>match b.find? (vh s)with
  |none=>(bs [],9)
  |some x=>oy b l (a++bs [32]++kY x.dK.toInt)
section
variable {N:Nat} {p:aG}
theorem Xk(s:apI):∀(l:apH dV)(k:Nat),(l.find? (vh s)=none/\AE N s l k=some (-1))\/∃i x,l.find? (vh s)=some x/\l[i]?=some x/\AE N s l k=some ((k+i:Nat):Int)
 |[],k=> .inl ⟨rfl,rfl⟩
 |x::l,k=>by
  have e0:AE N s (x::l) k=bif vh s x then some (k:Int)else AE N s l (k+1):=rfl;rw[e0,List.find?_cons];cases e:vh s x with
  |true=>exact .inr ⟨0,x,rfl,rfl,rfl⟩
  |false=>
   rcases Xk s l (k+1)with⟨a,b⟩|⟨i,y,a,b,c⟩
   ·exact .inl ⟨a,b⟩
   ·exact .inr ⟨i+1,y,a,b,by rw[cond_false,c];exact congrArg some (by omega)⟩
theorem abu(b:apH dV):∀(l:apH apI)(k:Nat)(a:apI),a.size+22*l.length<=1000000000000->Cx N b l k a=some (oy b l a)
 |[],k,a,_=>by rw[Cx,oy]
 |s::l,k,a,h=>by
  rw[aoV]at h;rw[Cx,oy];unfold PF;rcases Xk (N:=N) s b 0 with⟨e1,e2⟩|⟨i,x,e1,e2,e3⟩
  ·rw[e1];exact aB e2 (bE rfl rfl)
  ·have hs:=og x.dK.toInt;rw[e1];rw[apc]at e3;refine aB e3 (aY (apB (by omega)) (bE (apA (by omega)) ?_));rw[apj,e2];refine aB rfl (aB (Sc N _) (aV (by(first|omega|(simp only[ByteArray.size_append,aA,aoV,ao4]at*;omega))) (aV (by(first|omega|(simp only[ByteArray.size_append,aA,aoV,ao4]at*;omega))) ?_)));refine(abu b l (k+1) _ (by(first|omega|(simp only[ByteArray.size_append,aA,aoV,ao4]at*;omega)))).trans ?_;exact congrArg (λy=>some (oy b l y)) ByteArray.append_assoc.symm
theorem akS(F:iO N p)(Q:VQ N p)(hs:∀f∈(cv (bs [115]) (bs [112]) (bs [100]) (bs [105]) p).aw,3*SizeOf.sizeOf f.bR<N):∃t:apI,t.size<=200000000000/\
 AL N (cv (bs [115]) (bs [112]) (bs [100]) (bs [105]) p)=some t/\S1 N (cv (bs [115]) (bs [112]) (bs [100]) (bs [105]) p)=some t:=by
 have hN:=F.hN;obtain⟨q1,q2,_⟩:=Oj F Q CW λf hf=>by have:=hs f hf;omega
 obtain⟨t,t1,t2,t3⟩:=aoe (by omega) _ (afY q2 q1 λf hf=>by have:=hs f hf;omega);exact⟨t,t3,t1,t2⟩
end
section
variable {V T:apH apI} {f f2 f3 g g2 g3:apI->apI} {l:aN}
theorem AU(hi:lu V f3)(hc:∀x∈V,f2 (f x)=f3 x)(h1:dq l=true)(h2:fI V l=true):dc f2 (dc f l)=dc f3 l:=by
 have hm:=FT h2;have e1:(l.xL.map (λx=>(⟨f x.ao,x.ck⟩:bf))).map (λx=>(⟨f2 x.ao,x.ck⟩:bf))=l.xL.map (λx=>(⟨f3 x.ao,x.ck⟩:bf)):=by
  rw[List.map_map];exact apn λx hx=>by show(⟨f2 (f x.ao),x.ck⟩:bf)=_;rw[hc _ (hm x hx)]
 have d3:=TV hi h1 h2;have p1:((ib (l.xL.map (λx=>(⟨f x.ao,x.ck⟩:bf)))).map (λx=>(⟨f2 x.ao,x.ck⟩:bf))).Perm (l.xL.map (λx=>(⟨f3 x.ao,x.ck⟩:bf))):=by
  rw[<-e1];exact(oD _).map _
 have d2:=(p1.pairwise_iff (R:=λa b:bf=>bL a.ao≠bL b.ao) λh e=>h e.symm).2 d3;show(⟨l.xK,ib ((ib (l.xL.map (λx=>(⟨f x.ao,x.ck⟩:bf)))).map (λx=>(⟨f2 x.ao,x.ck⟩:bf)))⟩:aN)=⟨l.xK,ib (l.xL.map (λx=>(⟨f3 x.ao,x.ck⟩:bf)))⟩;rw[Kj (λa b h1 h2=>List.lt_irrefl _ (List.lt_trans h1 h2)) _ _ (((oD _).trans p1).trans (oD _).symm) (zc _ d2) (zc _ d3)]
theorem akV(hi:lu V f3)(hc:∀x∈V,f2 (f x)=f3 x)(hg:∀x∈T,g2 (g x)=g3 x)(n1:g (bs [])=bs [])(n2:g2 (bs [])=bs [])(n3:g3 (bs [])=bs []){i:bu}(k:fI V i.aQ=true/\(i.bH=bs []\/i.bH∈T)/\∀l∈i.bG,fI V l=true)(h:dq i.aQ=true/\∀l∈i.bG,dq l=true):lq f2 g2 (lq f g i)=lq f3 g3 i:=by
 have e1:dc f2 (dc f i.aQ)=dc f3 i.aQ:=AU hi hc h.1 k.1;have e2:g2 (g i.bH)=g3 i.bH:=by
  rcases k.2.1 with e|e
  ·rw[e,n1,n2,n3]
  ·exact hg _ e
 have e3:(i.bG.map (dc f)).map (dc f2)=i.bG.map (dc f3):=by
  rw[List.map_map];exact apn λx hx=>AU hi hc (h.2 x hx) (k.2.2 x hx)
 show(⟨dc f2 (dc f i.aQ),g2 (g i.bH),(i.bG.map (dc f)).map (dc f2)⟩:bu)=⟨dc f3 i.aQ,g3 i.bH,i.bG.map (dc f3)⟩;rw[e1,e2,e3]
theorem UF(hi:lu V f3)(hc:∀x∈V,f2 (f x)=f3 x)(hg:∀x∈T,g2 (g x)=g3 x)(n1:g (bs [])=bs [])(n2:g2 (bs [])=bs [])(n3:g3 (bs [])=bs []):∀(n:Nat)(e:ar),SizeOf.sizeOf e<=n->(∀y∈cy e,vz V T y/\lr y=true)->du f2 g2 (du f g e)=du f3 g3 e
 |0,e,h,_=>by cases e;rw[ar.mk.sizeOf_spec]at h;omega
 |n+1,e,h,k=>by
  obtain⟨k1,k2⟩:=k e aoY;obtain⟨f1,f2'⟩:=L6 k2;rw[kx f g e,kx f3 g3 e,kx];dsimp only;have e1:dc f2 (dc f e.aQ)=dc f3 e.aQ:=AU hi hc f1 k1.eW;have e2:g2 (g e.ao)=g3 e.ao:=by
   rcases k1.nm with⟨_,e⟩|⟨_,e,_⟩
   ·exact hg _ e
   ·rw[e,n1,n2,n3]
  have e3:(e.xIdx.map (lq f g)).map (lq f2 g2)=e.xIdx.map (lq f3 g3):=by
   rw[List.map_map];exact apn λx hx=>akV hi hc hg n1 n2 n3 (k1.ix x hx) (f2' x hx)
  have e4:(e.bk.map (du f g)).map (du f2 g2)=e.bk.map (du f3 g3):=by
   rw[List.map_map];exact apn λx hx=>UF hi hc hg n1 n2 n3 n x (by have:=qc hx;omega) λy hy=>k y (zl hx hy)
  rw[e1,e2,e3,e4]
theorem Js(hi:lu V f):∀(m:Nm)(x:apI),(∀k∈m.map (·.1),k∈V)->x∈V->x∈m.map (·.1)->aF (m.map λr=>(f r.1,r.2)) (f x)=aF m x
 |(k,w)::m,x,hm,hx,h=>by
  have hk:k∈V:=hm k (by rw[aph];exact aoY);rw[aph,aF,aF,KS hi hk hx];cases e:bL k==bL x with
  |true=>rfl
  |false=>
   rw[aph]at h;rcases apm.1 h with h|h
   ·rw[h]at e;simp at e
   ·exact Js hi m x (λy hy=>hm y (by rw[aph];exact ao1 _ hy)) hx h
theorem Dh(b:apI)(l:apH apI):dR b 0 (l.map f)=(dR b 0 l).map λr=>(f r.1,r.2):=by
 unfold dR;rw[aoX,List.zip_map_left];rfl
end
section
variable {N:Nat} {p:aG} {a b c d a2 b2 c2 d2:apI}
theorem af1(F:iO N p){f:aX}(hf:f∈p.aw):∀y∈cy f.bR,vz (dM f++p.az) (lK p) y/\lr y=true:=λy hy=>by
 obtain⟨i,hi⟩:=List.mem_iff_getElem?.1 hf;have g:=F.G i f hi;obtain⟨e1,e2,e3,e4,e5⟩:=y4 (yn g.body y hy);have nv:=aal e1 (g.reads y hy) (g.qB y hy);have sub:∀x∈p.aE.map (·.ao)++(p.aw.take i).map (·.ao),x∈lK p:=λx hx=>by
  rcases apv.1 hx with hx|hx
  ·exact List.mem_append_left _ hx
  ·obtain⟨z,hz,rfl⟩:=List.mem_map.1 hx;exact List.mem_append_right _ (List.mem_map.2 ⟨z,List.mem_of_mem_take hz,rfl⟩)
 exact⟨⟨nv.eW,nv.nm.imp_left (fun⟨a,b⟩=>⟨a,sub _ b⟩),λi hi=>⟨(nv.ix i hi).1,(nv.ix i hi).2.1.imp_right (sub _),(nv.ix i hi).2.2⟩⟩,e5⟩
theorem ah9(F:iO N p){f:aX}(hf:f∈p.aw):∀x∈f.aO++f.aU,x.ao∈dM f/\dq x.cg=true/\fI p.az x.cg=true:=λx hx=>by
 obtain⟨i,hi⟩:=List.mem_iff_getElem?.1 hf;have g:=F.G i f hi;obtain⟨h1,h2⟩:=rN ((BM _ _ g.nK).1 x hx).2.2;exact⟨List.mem_map.2 ⟨x,hx,rfl⟩,h1,h2⟩
theorem aeU{V W:apH apI}{l:aN}(h:∀x∈V,x∈W)(k:fI V l=true):fI W l=true:=by
 unfold fI at k ⊢;rw[api]at k ⊢;exact λx hx=>ox.2 (h _ (ox.1 (k x hx)))
theorem cS(F:iO N p)(S:pc a b c d):∀x∈p.az,aF (mS a2 (cv a b c d p)) (aF (mS a p) x)=aF (mS a2 p) x:=λx hx=>by
 have e:mS a2 (cv a b c d p)=(mS a2 p).map λr=>(aF (mS a p) r.1,r.2):=Dh a2 p.az;rw[e];exact Js (Ea F.Sh.s) (mS a2 p) x (λk hk=>by rw[yI]at hk;exact hk) hx (by rw[yI];exact hx)
theorem cT(F:iO N p)(S:pc a b c d):∀x∈lK p,aF (mT b2 c2 (cv a b c d p)) (aF (mT b c p) x)=aF (mT b2 c2 p) x:=λx hx=>by
 have e:mT b2 c2 (cv a b c d p)=(mT b2 c2 p).map λr=>(aF (mT b c p) r.1,r.2):=by
  have eP:(cv a b c d p).aE.map (·.ao)=(p.aE.map (·.ao)).map (aF (mT b c p)):=by
   show(p.aE.map (mF _ (aF (mT b c p)))).map (·.ao)=_;rw[List.map_map,List.map_map];rfl
  have eD:(cv a b c d p).aw.map (·.ao)=(p.aw.map (·.ao)).map (aF (mT b c p)):=by
   show(p.aw.map (λe=>fU (aF (mV a d p e)) (aF (mT b c p)) e)).map (·.ao)=_;rw[List.map_map,List.map_map];rfl
  unfold mT at eP eD ⊢;rw[eP,eD,Dh,Dh,List.map_append]
 rw[e];exact Js (ED F S).T.inj (mT b2 c2 p) x (λk hk=>by rw[xA]at hk;exact hk) hx (by rw[xA];exact hx)
theorem cV(F:iO N p)(S:pc a b c d){f:aX}(hf:f∈p.aw):∀x∈dM f++p.az,aF (mV a2 d2 (cv a b c d p) (fU (aF (mV a d p f)) (aF (mT b c p)) f)) (aF (mV a d p f) x)=aF (mV a2 d2 p f) x:=λx hx=>by
 have R:=ED F S;have e:mV a2 d2 (cv a b c d p) (fU (aF (mV a d p f)) (aF (mT b c p)) f)=(mV a2 d2 p f).map λr=>(aF (mV a d p f) r.1,r.2):=by
  have eS:(cv a b c d p).az=p.az.map (aF (mV a d p f)):=by
   show p.az.map (aF (mS a p))=_;exact apn λs hs=>(R.agree f hf s hs).symm
  show dR d2 0 (dM _)++dR a2 0 (cv a b c d p).az=_;rw[TH,eS,Dh,Dh,<-List.map_append];rfl
 rw[e];exact Js (R.V f hf).inj (mV a2 d2 p f) x (λk hk=>by rw[Ba]at hk;exact hk) hx (by rw[Ba];exact hx)
theorem aaL(F:iO N p)(S:pc a b c d)(S2:pc a2 b2 c2 d2)(n2:aF (mT b2 c2 (cv a b c d p)) (bs [])=bs []):cv a2 b2 c2 d2 (cv a b c d p)=cv a2 b2 c2 d2 p:=by
 have R:=ED F S;have R2:=ED F S2;have hS:=cS (a2:=a2) F S;have hT:=cT (b2:=b2) (c2:=c2) F S;have tin:∀{s:apI},s∈p.aE.map (·.ao)++p.aw.map (·.ao)->s∈lK p:=λh=>h;have V:=F.V;have e1:(p.az.map (aF (mS a p))).map (aF (mS a2 (cv a b c d p)))=p.az.map (aF (mS a2 p)):=by
  rw[List.map_map];exact apn λx hx=>hS x hx
 have e2:(cv a b c d p).cd.map (λw:cz=>(⟨dc (aF (mS a2 (cv a b c d p))) w.aQ,w.hY⟩:cz))=p.cd.map (λw:cz=>(⟨dc (aF (mS a2 p)) w.aQ,w.hY⟩:cz)):=by
  show(p.cd.map (λw:cz=>(⟨dc (aF (mS a p)) w.aQ,w.hY⟩:cz))).map _=_;rw[List.map_map];exact apn λx hx=>by
   obtain⟨h1,h2⟩:=rN (V.wh x hx);show(⟨dc _ (dc _ x.aQ),x.hY⟩:cz)=_;rw[AU R2.S.inj hS h1 h2]
 have e3:(cv a b c d p).aE.map (mF (aF (mS a2 (cv a b c d p))) (aF (mT b2 c2 (cv a b c d p))))=p.aE.map (mF (aF (mS a2 p)) (aF (mT b2 c2 p))):=by
  show(p.aE.map (mF (aF (mS a p)) (aF (mT b c p)))).map _=_;rw[List.map_map];exact apn λx hx=>by
   have qG:=((A2 _ _ V.qH).1 x hx).2.2;have e:(x.aO.map (dc (aF (mS a p)))).map (dc (aF (mS a2 (cv a b c d p))))=x.aO.map (dc (aF (mS a2 p))):=by
    rw[List.map_map];exact apn λy hy=>by
      obtain⟨h1,h2⟩:=rN (sZ qG y hy);exact AU R2.S.inj hS h1 h2
   show(⟨aF (mT b2 c2 (cv a b c d p)) (aF (mT b c p) x.ao),x.aM,(x.aO.map (dc (aF (mS a p)))).map (dc (aF (mS a2 (cv a b c d p))))⟩:cf)=_;rw[e,hT _ (List.mem_append_left _ (List.mem_map.2 ⟨x,hx,rfl⟩))];rfl
 have e4:(cv a b c d p).aw.map (λe=>fU (aF (mV a2 d2 (cv a b c d p) e)) (aF (mT b2 c2 (cv a b c d p))) e)=p.aw.map (λe=>fU (aF (mV a2 d2 p e)) (aF (mT b2 c2 p)) e):=by
  show(p.aw.map (λe=>fU (aF (mV a d p e)) (aF (mT b c p)) e)).map _=_;rw[List.map_map];exact apn λf hf=>by
   have hV:=cV (a2:=a2) (d2:=d2) F S hf;have hi:=(R2.V f hf).inj;have DT:=ah9 F hf;have ax:∀x∈f.aO++f.aU,iD (aF (mV a2 d2 (cv a b c d p) (fU (aF (mV a d p f)) (aF (mT b c p)) f))) (iD (aF (mV a d p f)) x)=iD (aF (mV a2 d2 p f)) x:=λx hx=>by
    obtain⟨h0,h1,h2⟩:=DT x hx;show(⟨aF _ (aF _ x.ao),dc _ (dc _ x.cg)⟩:bV)=⟨_,_⟩;rw[hV _ (List.mem_append_left _ h0),AU hi hV h1 (aeU (λy hy=>List.mem_append_right _ hy) h2)]
   have d1:(f.aO.map (iD (aF (mV a d p f)))).map (iD (aF (mV a2 d2 (cv a b c d p) (fU (aF (mV a d p f)) (aF (mT b c p)) f))))=f.aO.map (iD (aF (mV a2 d2 p f))):=by
    rw[List.map_map];exact apn λx hx=>ax x (List.mem_append_left _ hx)
   have d2':(f.aU.map (iD (aF (mV a d p f)))).map (iD (aF (mV a2 d2 (cv a b c d p) (fU (aF (mV a d p f)) (aF (mT b c p)) f))))=f.aU.map (iD (aF (mV a2 d2 p f))):=by
    rw[List.map_map];exact apn λx hx=>ax x (List.mem_append_right _ hx)
   have d3:=UF hi hV hT R.nil n2 R2.nil _ f.bR (ao3 _) (af1 F hf);have d4:=hT f.ao (List.mem_append_right _ (List.mem_map.2 ⟨f,hf,rfl⟩));show(⟨aF (mT b2 c2 (cv a b c d p)) (aF (mT b c p) f.ao),f.aM,(f.aO.map (iD (aF (mV a d p f)))).map (iD (aF (mV a2 d2 (cv a b c d p) (fU (aF (mV a d p f)) (aF (mT b c p)) f)))),(f.aU.map (iD (aF (mV a d p f)))).map (iD (aF (mV a2 d2 (cv a b c d p) (fU (aF (mV a d p f)) (aF (mT b c p)) f)))),f.cr,du (aF (mV a2 d2 (cv a b c d p) (fU (aF (mV a d p f)) (aF (mT b c p)) f))) (aF (mT b2 c2 (cv a b c d p))) (du (aF (mV a d p f)) (aF (mT b c p)) f.bR)⟩:aX)=_;rw[d1,d2',d3,d4];rfl
 have e5:(p.bW.map (aF (mT b c p))).map (aF (mT b2 c2 (cv a b c d p)))=p.bW.map (aF (mT b2 c2 p)):=by
  rw[List.map_map];exact apn λx hx=>hT x (V.outs x hx)
 show(⟨(p.az.map (aF (mS a p))).map (aF (mS a2 (cv a b c d p))),(cv a b c d p).cd.map (λw:cz=>(⟨dc (aF (mS a2 (cv a b c d p))) w.aQ,w.hY⟩:cz)),(cv a b c d p).aE.map (mF (aF (mS a2 (cv a b c d p))) (aF (mT b2 c2 (cv a b c d p)))),(cv a b c d p).aw.map (λe=>fU (aF (mV a2 d2 (cv a b c d p) e)) (aF (mT b2 c2 (cv a b c d p))) e),(p.bW.map (aF (mT b c p))).map (aF (mT b2 c2 (cv a b c d p)))⟩:aG)=_;rw[e1,e2,e3,e4,e5];rfl
end
theorem adh:pc (bs [122,122]) (bs [121]) (bs [120]) (bs [119]):=⟨by decide,by decide,by decide,by decide,⟨122,119,rfl,rfl,by decide⟩,⟨121,120,rfl,rfl,by decide⟩,by decide,by decide⟩
theorem ajM:pc (bs [105]) (bs [100]) (bs [112]) (bs [115]):=⟨by decide,by decide,by decide,by decide,⟨105,115,rfl,rfl,by decide⟩,⟨100,112,rfl,rfl,by decide⟩,by decide,by decide⟩
theorem amr:pc (bs [97,57,95]) (bs [98]) (bs [97]) (bs [110]):=⟨by decide,by decide,by decide,by decide,⟨97,110,rfl,rfl,by decide⟩,⟨98,97,rfl,rfl,by decide⟩,by decide,by decide⟩
def xg(f:apI->apI)(x:dV):dV:=⟨f x.ao,x.dK⟩
section
variable {N:Nat} {p:aG} {a b c d:apI}
theorem Y2(F T:apH apI)(h:T.length=F.length):∀(l:apH dV)(k:Nat)(acc:apH dV),acc.length+l.length<=1000->Em N ⟨F,T⟩ l k acc=some (acc++l.map (xg (aF (F.zip T))))
 |[],k,acc,_=>by rw[Em,List.map_nil,apd]
 |x::l,k,acc,hl=>by
  rw[aoV]at hl;rw[Em,tL N _ F T h,aoR,Nat.ble_eq_true_of_le (show(acc.length+1)*24<=140737488355328 by omega),cond_true];refine(Y2 F T h l (k+1) (acc++[xg (aF (F.zip T)) x]) (by rw[aoT,List.length_singleton];omega)).trans ?_;rw[ao9];rfl
theorem aoC(hN:10<N)(ha:a.size<=100)(hs:p.az.length<=12)(bd:apH dV)(hb:bd.length<=40):LI N p bd a=some (bd.map (xg (aF (mS a p)))):=by
 unfold LI;have e:ry N Eb p.az a=some ⟨p.az++[],nums a 0 p.az.length++[]⟩:=EC hN [] [] ha p.az hs (by decide) (by decide);rw[e,aoR,apd,apd];exact(Y2 p.az (nums a 0 p.az.length) (sa a p.az.length 0) bd 0 [] (by rw[ao4];omega)).trans (by rw[List.nil_append];rfl)
theorem aaU{f:apI->apI}{V:apH apI}(hi:lu V f)(bd:apH dV)(hb:∀x∈bd,x.ao∈V):∀(l:apH apI)(t:apI),(∀s∈l,s∈V)->oy (bd.map (xg f)) (l.map f) t=oy bd l t
 |[],t,_=>rfl
 |s::l,t,h=>by
  rw[aph,oy,oy,HC (xg f) (vh s) (vh (f s)) bd λx hx=>KS hi (hb x hx) (h s aoY)];cases bd.find? (vh s)with
  |none=>rfl
  |some x=>exact aaU hi bd hb l _ λy hy=>h y (ao1 _ hy)
theorem Lb(F:iO N p){k:Int}(h:pg N p=some (k,0)):pE N p=some (cv (bs [115]) (bs [112]) (bs [100]) (bs [105]) p,0):=by
 unfold pE;rw[h,aoR];exact F.real
theorem UH(F:iO N p){k:Int}(h:pg N p=some (k,0)){t:apI}(ht:AL N (cv (bs [115]) (bs [112]) (bs [100]) (bs [105]) p)=some t)(hs:t.size<=200000000000)(bd:apH dV):BI N p bd=some (oy bd p.az t):=by
 have bU:=F.Sh.s;unfold BI;rw[Lb F h,aoR];refine aY rfl (aB ht ?_);exact abu bd p.az 0 t (by omega)
theorem WH(bd:apH dV)(v9:ij)(q:aG)(v:apI×Int)(ex:tu N=some true)(hn:(∀x∈bd,x.ao∈p.az)->∀k,yM N p bd v9 q v [] k=some true):∀(l pre:apH dV)(k:Nat),bd=pre++l->(∀x∈pre,x.ao∈p.az)->yM N p bd v9 q v l k=some true
 |[],pre,k,hb,hp=>hn (by rw[hb,apd];exact hp) k
 |x::l,pre,k,hb,hp=>by
  rw[yM,vc,aoR];cases e:cq p.az x.ao with
  |false=>exact aB ex rfl
  |true=>
   refine bE rfl (WH bd v9 q v ex hn l (pre++[x]) (k+1) (by rw[hb,ao9];rfl) λy hy=> ?_);rcases apv.1 hy with hy|hy
   ·exact hp y hy
   ·rw[List.mem_singleton.1 hy];exact ox.1 e
theorem RR(F:iO N p)(Q:VQ N p){k:Int}(hv:pg N p=some (k,0))(ex:tu N=some true)(S:pc a b c d)(h1:a.size<=100)(h2:b.size<=100)(h3:c.size<=100)(h4:d.size<=100)(bd:apH dV)(hb:bd.length<=40)
 (hs:∀f∈(cv a b c d p).aw,SizeOf.sizeOf f.bR<N) (hr:∀f∈(cv (bs [115]) (bs [112]) (bs [100]) (bs [105]) p).aw,3*SizeOf.sizeOf f.bR+2<N):
 (Option.bind (Bm N p ⟨a,b,c,d⟩) λv10=>
  (pE N p).bind λv11=>
  (pE N v10).bind λv12=>
  (pE N v11.1).bind λba=>
  (pg N v11.1).bind λbX=>
  Option.bind (bif (v11.2 !=0)then some true else(bif (v12.2 !=0)then some true else(bif (ba.2 !=0)then some true else(bif (bX.2 !=0)then some true else (tc N v11.1 v12.1).bind λbC=>
  (bif bC then (tc N v11.1 ba.1).bind λct=>
  some (!ct)else some true))))) λv17=>
  bif v17 then
   some false
  else
   (BI N p bd).bind λcB=>
   yM N p bd ⟨a,b,c,d⟩ v10 cB bd 0)=some true:=by
 have hN:=F.hN;obtain⟨q1,q2,k1,k2,k3⟩:=Oj F Q S hs;obtain⟨n1,n2,m1,m2,m3⟩:=Oj F Q CW λf hf=>by have:=hr f hf;omega
 have r1:Bm N p ⟨a,b,c,d⟩=some (cv a b c d p):=aeQ (sc:=⟨a,b,c,d⟩) (by omega) h1 h2 h3 h4 (F.td S.ad);have t1:cv (bs [115]) (bs [112]) (bs [100]) (bs [105]) (cv a b c d p)=cv (bs [115]) (bs [112]) (bs [100]) (bs [105]) p:=aaL F S CW (Dl q2.V);have t2:cv (bs [115]) (bs [112]) (bs [100]) (bs [105]) (cv (bs [115]) (bs [112]) (bs [100]) (bs [105]) p)=cv (bs [115]) (bs [112]) (bs [100]) (bs [105]) p:=aaL F CW CW (Dl n2.V);have w1:=Lb F hv;have w2:=Lb q2 k2;have w3:=Lb n2 m2;rw[t1]at w2;rw[t2]at w3;have pr:tc N (cv (bs [115]) (bs [112]) (bs [100]) (bs [105]) p) (cv (bs [115]) (bs [112]) (bs [100]) (bs [105]) p)=some true:=akv N _ λf hf=>by have:=hr f hf;omega
 obtain⟨t,z1,z2,z3⟩:=akS F Q λf hf=>by have:=hr f hf;omega
 have y1:=UH F hv z2 z1 bd;refine aB r1 (aB w1 (aB w2 (aB w3 (aB m2 (aB (v:=false) (aY rfl (aY rfl (aY rfl (aY rfl (aB pr (bE rfl (aB pr rfl))))))) (aY rfl (aB y1 ?_)))))));refine WH bd _ _ _ ex (λHF j=> ?_) bd [] 0 rfl λx hx=>by cases hx
 rw[yM];have y2:=UH q2 k2 (t:=t) (by rw[t1];exact z2) z1 (bd.map (xg (aF (mS a p))));have y3:oy (bd.map (xg (aF (mS a p)))) (cv a b c d p).az t=oy bd p.az t:=aaU (Ea F.Sh.s) bd HF p.az t λs h=>h;rw[y3]at y2;refine aB (aoC (by omega) h1 F.Sh.s bd hb) (aB y2 (aB (v:=true) (bE (apC _) (bE (apC _) (aB ex rfl))) rfl))
theorem anB{v:Int}(h:0<=v):v.tmod 3=0\/v.tmod 3=1\/v.tmod 3=2:=by
 rw[Int.tmod_eq_emod_of_nonneg h];omega
theorem afm(N:Nat)(p:aG)(bd:apH dV)(v3:Int)(h3:0<=v3)(hN:9223372036854775808<N)(hd:∀f∈p.aw,iy qR f.bR/\SizeOf.sizeOf f.bR<N)
 (hr:∀f∈(cv (bs [115]) (bs [112]) (bs [100]) (bs [105]) p).aw,3*SizeOf.sizeOf f.bR+2<N)
 (q1:∀f∈(cv (bs [122,122]) (bs [121]) (bs [120]) (bs [119]) p).aw,SizeOf.sizeOf f.bR<N)
 (q2:∀f∈(cv (bs [105]) (bs [100]) (bs [112]) (bs [115]) p).aw,SizeOf.sizeOf f.bR<N)
 (q3:∀f∈(cv (bs [97,57,95]) (bs [98]) (bs [97]) (bs [110]) p).aw,SizeOf.sizeOf f.bR<N):QI N p bd v3=some true:=by
 have ex:tu N=some true:=by
  obtain⟨n,rfl⟩:∃n,N=n+3000:=⟨N-3000,by omega⟩;exact ah6 n
 obtain⟨x,l1,l2⟩:=adM N 300 (by decide) (by omega) p hd;unfold QI;have l1:Dc N p 300=some x:=l1;rw[l1,aoR,js,aoR];cases e:x||decide ((bd.length:Int)>40)with
 |true=>exact bE rfl (aB ex rfl)
 |false=>
  rw[apG]at e;have hS:=l2 e.1;have hb:bd.length<=40:=by have:=of_decide_eq_false e.2;omega
  have eN:∀d∈p.aw,SizeOf.sizeOf d.bR<N:=λd h=>(hd d h).2;have B:=SA (N:=N) hS eN;obtain⟨k,z,v1,v2,v3'⟩:=abh (Nat.lt_trans (by decide) hN) B;refine aY rfl (aB v1 ?_);cases hx:z !=0 with
  |true=>exact bE rfl (aB ex rfl)
  |false=>
   refine aY rfl ?_;have hx0:=fD hx;subst hx0;have F:iO N p:=⟨hN,Rl (Nat.lt_trans (by decide) hN) B v2,hS,v3' rfl,eN⟩;have Q:=F.vq v2;rcases anB h3 with e0|e0|e0
   ·rw[e0];exact bE rfl (aB rfl (RR F Q v1 ex adh (by decide) (by decide) (by decide) (by decide) bd hb q1 hr))
   ·rw[e0];exact bE rfl (aB rfl (RR F Q v1 ex ajM (by decide) (by decide) (by decide) (by decide) bd hb q2 hr))
   ·rw[e0];exact bE rfl (aB rfl (RR F Q v1 ex amr (by decide) (by decide) (by decide) (by decide) bd hb q3 hr))
end
def u9(k:IntKind)(n:Int):Prop:=k.min<=n/\n<=k.max
theorem Ej{n:Int}(h:u9 .i64 n):∃m:Int64,n=m.toInt:=by
 refine⟨Int64.ofInt n,?_⟩;have h1:bh n=n:=by
  unfold bh;rw[IntKind.wrap_i64];have h2: -9223372036854775808<=n:=h.1;have h3:n<=9223372036854775807:=h.2;omega
 rw[Int64.toInt_ofInt,<-xf];exact h1.symm
theorem XO{p:apH D}:∀{l:apH (apH D)},p∈l->SizeOf.sizeOf p<=SizeOf.sizeOf l.flatten
 |[],h=>by cases h
 |q::l,h=>by
  have app:∀a b:apH D,SizeOf.sizeOf a<=SizeOf.sizeOf (a++b)/\SizeOf.sizeOf b<=SizeOf.sizeOf (a++b):=by
   intro a b
   induction a with
   |nil=>cases b<;>simp only[List.nil_append,List.nil.sizeOf_spec,List.cons.sizeOf_spec]<;>omega
   |cons x a ih=>simp only[List.cons_append,List.cons.sizeOf_spec];omega
  rw[List.flatten_cons];rcases apm.1 h with rfl|h
  ·exact(app _ _).1
  ·exact apa (XO h) (app _ _).2
structure Xn(x:dy):Prop where
 h0:True
 h1:True
theorem aor{xs:apH D}(h:dX Tryz.prog 63 xs):∃x:dy,xs=Mq x/\Xn x:=by
 obtain⟨parts,rfl,hl,hx⟩:=h.oW Tryz.underlying63
 match parts,hl with
 |[a0,a1],_=>
 obtain⟨jy,rfl,iM⟩:=(hx 0 _ _ rfl rfl).oX Tryz.underlying2;obtain⟨OD,rfl⟩:=Ej iM;obtain⟨jL,rfl,jx⟩:=(hx 1 _ _ rfl rfl).oX Tryz.underlying2;obtain⟨CR,rfl⟩:=Ej jx;exact⟨⟨OD,CR⟩,rfl,⟨trivial,trivial⟩⟩
structure LF(x:bq):Prop where
 h0:u9 .i64 x.bS
 h1:u9 .i64 x.cb
 h2:u9 .i64 x.ca
 h3:u9 .i64 x.cJ
 h4:u9 .i64 x.cH
theorem RL{xs:apH D}(h:dX Tryz.prog 56 xs):∃x:bq,xs=GZ x/\LF x:=by
 obtain⟨parts,rfl,hl,hx⟩:=h.oW Tryz.underlying56
 match parts,hl with
 |[a0,a1,a2,a3,a4],_=>
 obtain⟨jy,rfl,iM⟩:=(hx 0 _ _ rfl rfl).oX Tryz.underlying3;obtain⟨jL,rfl,jx⟩:=(hx 1 _ _ rfl rfl).oX Tryz.underlying3;obtain⟨pZ,rfl,qh⟩:=(hx 2 _ _ rfl rfl).oX Tryz.underlying3;obtain⟨yR,rfl,xm⟩:=(hx 3 _ _ rfl rfl).oX Tryz.underlying3;obtain⟨wZ,rfl,yE⟩:=(hx 4 _ _ rfl rfl).oX Tryz.underlying3;exact⟨⟨jy,jL,pZ,yR,wZ⟩,rfl,⟨iM,jx,qh,xm,yE⟩⟩
structure KQ(x:bf):Prop where
 h0:x.ao.size<=maxLen
 h1:True
theorem ahg{xs:apH D}(h:dX Tryz.prog 115 xs):∃x:bf,xs=jk x/\KQ x:=by
 obtain⟨parts,rfl,hl,hx⟩:=h.oW Tryz.underlying115
 match parts,hl with
 |[a0,a1],_=>
 obtain⟨jy,rfl,iM⟩:=(hx 0 _ _ rfl rfl).vC Tryz.underlying9;obtain⟨jL,rfl,jx⟩:=(hx 1 _ _ rfl rfl).oX Tryz.underlying2;obtain⟨CR,rfl⟩:=Ej jx;exact⟨⟨jy,CR⟩,rfl,⟨iM,trivial⟩⟩
theorem amO{xs:apH D}(h:dX Tryz.prog 50 xs):∃l:apH bf,xs=[.sl (c9 l)]/\(l.length<=140737488355328/\∀a∈l,KQ a):=by
 obtain⟨l,rfl,hl,hs⟩:=h.rb Tryz.underlying50;obtain⟨r,rfl,hr⟩:=qy (f:=jk) (Q:=λa=>KQ a) l (λx hx=>ahg (hs x hx));exact⟨r,by rw[nf],by simpa using hl,hr⟩
structure tb(x:aN):Prop where
 h0:True
 h1:x.xL.length<=140737488355328/\∀a∈x.xL,KQ a
theorem Ee{xs:apH D}(h:dX Tryz.prog 52 xs):∃x:aN,xs=Dr x/\tb x:=by
 obtain⟨parts,rfl,hl,hx⟩:=h.oW Tryz.underlying52
 match parts,hl with
 |[a0,a1],_=>
 obtain⟨jy,rfl,iM⟩:=(hx 0 _ _ rfl rfl).oX Tryz.underlying2;obtain⟨OD,rfl⟩:=Ej iM;obtain⟨jL,rfl,jx⟩:=amO (hx 1 _ _ rfl rfl);exact⟨⟨OD,jL⟩,rfl,⟨trivial,jx⟩⟩
theorem Wg{xs:apH D}(h:dX Tryz.prog 57 xs):∃l:apH aN,xs=[.sl (dE l)]/\(l.length<=140737488355328/\∀a∈l,tb a):=by
 obtain⟨l,rfl,hl,hs⟩:=h.rb Tryz.underlying57;obtain⟨r,rfl,hr⟩:=qy (f:=Dr) (Q:=λa=>tb a) l (λx hx=>Ee (hs x hx));exact⟨r,by rw[wX],by simpa using hl,hr⟩
structure Jz(x:bu):Prop where
 h0:tb x.aQ
 h1:x.bH.size<=maxLen
 h2:x.bG.length<=140737488355328/\∀a∈x.bG,tb a
theorem aih{xs:apH D}(h:dX Tryz.prog 111 xs):∃x:bu,xs=C4 x/\Jz x:=by
 obtain⟨parts,rfl,hl,hx⟩:=h.oW Tryz.underlying111
 match parts,hl with
 |[a0,a1,a2],_=>
 obtain⟨jy,rfl,iM⟩:=Ee (hx 0 _ _ rfl rfl);obtain⟨jL,rfl,jx⟩:=(hx 1 _ _ rfl rfl).vC Tryz.underlying9;obtain⟨pZ,rfl,qh⟩:=Wg (hx 2 _ _ rfl rfl);exact⟨⟨jy,jL,pZ⟩,rfl,⟨iM,jx,qh⟩⟩
theorem ajv{xs:apH D}(h:dX Tryz.prog 64 xs):∃l:apH bu,xs=[.sl (cQ l)]/\(l.length<=140737488355328/\∀a∈l,Jz a):=by
 obtain⟨l,rfl,hl,hs⟩:=h.rb Tryz.underlying64;obtain⟨r,rfl,hr⟩:=qy (f:=C4) (Q:=λa=>Jz a) l (λx hx=>aih (hs x hx));exact⟨r,by rw[w5],by simpa using hl,hr⟩
inductive yy:ar->Prop
 |mk (x:ar) (h0:u9 .i64 x.aJ) (h1:x.ao.size<=maxLen) (h2:Xn x.dK) (h3:LF x.aM) (h4:tb x.aQ) (h5:x.xIdx.length<=140737488355328/\∀a∈x.xIdx,Jz a) (h6:x.bk.length<=140737488355328) (g6:∀a∈x.bk,yy a):yy x
theorem Wo:∀(n:Nat)(xs:apH D),SizeOf.sizeOf xs<n->dX Tryz.prog 67 xs->∃x:ar,xs=eI x/\yy x
 |0,_,h,_=>absurd h (apk _)
 |n+1,xs,hn,h=>by
  obtain⟨parts,rfl,hl,hx⟩:=h.oW Tryz.underlying67
  match parts,hl with
  |[a0,a1,a2,a3,a4,a5,a6],_=>
  obtain⟨jy,rfl,iM⟩:=(hx 0 _ _ rfl rfl).oX Tryz.underlying3;obtain⟨jL,rfl,jx⟩:=(hx 1 _ _ rfl rfl).vC Tryz.underlying9;obtain⟨pZ,rfl,qh⟩:=aor (hx 2 _ _ rfl rfl);obtain⟨yR,rfl,xm⟩:=RL (hx 3 _ _ rfl rfl);obtain⟨wZ,rfl,yE⟩:=Ee (hx 4 _ _ rfl rfl);obtain⟨Tb,rfl,MR⟩:=ajv (hx 5 _ _ rfl rfl);obtain⟨l_,rfl,anc,hs_⟩:=(hx 6 _ _ rfl rfl).rb Tryz.underlying65;obtain⟨r_,rfl,hr_⟩:=qy (f:=eI) (Q:=yy) l_ (λx hx=>Wo n x (by have h1:=List.sizeOf_lt_of_mem hx;have h2:SizeOf.sizeOf [D.sl l_]<n+1:=Nat.lt_of_le_of_lt (XO (by simp)) hn;simp only[List.cons.sizeOf_spec,D.sl.sizeOf_spec,List.nil.sizeOf_spec]at h2;omega) (hs_ x hx));refine⟨⟨jy,jL,pZ,yR,wZ,Tb,r_⟩,?_, .mk _ iM jx qh xm yE MR (by simpa using anc) hr_⟩;show _=eI _;unfold eI;rw[rY];rfl
theorem ajj{xs:apH D}(h:dX Tryz.prog 67 xs):∃x:ar,xs=eI x/\yy x:=Wo _ xs (apF _) h
theorem aaY{xs:apH D}(h:dX Tryz.prog 22 xs):∃l:apH apI,xs=[.sl (cw l)]/\(l.length<=140737488355328/\∀a∈l,a.size<=maxLen):=by
 obtain⟨l,rfl,hl,hs⟩:=h.rb Tryz.underlying22;obtain⟨r,rfl,hr⟩:=qy (f:=LZ) (Q:=λa=>a.size<=maxLen) l (λx hx=>by
  obtain⟨n_x,rfl,w_x⟩:=(hs x hx).vC Tryz.underlying9;exact⟨n_x,rfl,w_x⟩)
 exact⟨r,by rw[qF],by simpa using hl,hr⟩
structure Lr(x:cz):Prop where
 h0:tb x.aQ
 h1:True
theorem akN{xs:apH D}(h:dX Tryz.prog 54 xs):∃x:cz,xs=Cb x/\Lr x:=by
 obtain⟨parts,rfl,hl,hx⟩:=h.oW Tryz.underlying54
 match parts,hl with
 |[a0,a1],_=>
 obtain⟨jy,rfl,iM⟩:=Ee (hx 0 _ _ rfl rfl);obtain⟨jL,rfl⟩:=(hx 1 _ _ rfl rfl).afW Tryz.underlying4;exact⟨⟨jy,jL⟩,rfl,⟨iM,trivial⟩⟩
theorem aeE{xs:apH D}(h:dX Tryz.prog 23 xs):∃l:apH cz,xs=[.sl (gU l)]/\(l.length<=140737488355328/\∀a∈l,Lr a):=by
 obtain⟨l,rfl,hl,hs⟩:=h.rb Tryz.underlying23;obtain⟨r,rfl,hr⟩:=qy (f:=Cb) (Q:=λa=>Lr a) l (λx hx=>akN (hs x hx));exact⟨r,by rw[xX],by simpa using hl,hr⟩
structure Ln(x:cf):Prop where
 h0:x.ao.size<=maxLen
 h1:LF x.aM
 h2:x.aO.length<=140737488355328/\∀a∈x.aO,tb a
theorem als{xs:apH D}(h:dX Tryz.prog 59 xs):∃x:cf,xs=D8 x/\Ln x:=by
 obtain⟨parts,rfl,hl,hx⟩:=h.oW Tryz.underlying59
 match parts,hl with
 |[a0,a1,a2],_=>
 obtain⟨jy,rfl,iM⟩:=(hx 0 _ _ rfl rfl).vC Tryz.underlying9;obtain⟨jL,rfl,jx⟩:=RL (hx 1 _ _ rfl rfl);obtain⟨pZ,rfl,qh⟩:=Wg (hx 2 _ _ rfl rfl);exact⟨⟨jy,jL,pZ⟩,rfl,⟨iM,jx,qh⟩⟩
theorem ajA{xs:apH D}(h:dX Tryz.prog 24 xs):∃l:apH cf,xs=[.sl (iR l)]/\(l.length<=140737488355328/\∀a∈l,Ln a):=by
 obtain⟨l,rfl,hl,hs⟩:=h.rb Tryz.underlying24;obtain⟨r,rfl,hr⟩:=qy (f:=D8) (Q:=λa=>Ln a) l (λx hx=>als (hs x hx));exact⟨r,by rw[xq],by simpa using hl,hr⟩
structure Fw(x:bV):Prop where
 h0:x.ao.size<=maxLen
 h1:tb x.cg
theorem alv{xs:apH D}(h:dX Tryz.prog 72 xs):∃x:bV,xs=Ev x/\Fw x:=by
 obtain⟨parts,rfl,hl,hx⟩:=h.oW Tryz.underlying72
 match parts,hl with
 |[a0,a1],_=>
 obtain⟨jy,rfl,iM⟩:=(hx 0 _ _ rfl rfl).vC Tryz.underlying9;obtain⟨jL,rfl,jx⟩:=Ee (hx 1 _ _ rfl rfl);exact⟨⟨jy,jL⟩,rfl,⟨iM,jx⟩⟩
theorem Tp{xs:apH D}(h:dX Tryz.prog 61 xs):∃l:apH bV,xs=[.sl (dL l)]/\(l.length<=140737488355328/\∀a∈l,Fw a):=by
 obtain⟨l,rfl,hl,hs⟩:=h.rb Tryz.underlying61;obtain⟨r,rfl,hr⟩:=qy (f:=Ev) (Q:=λa=>Fw a) l (λx hx=>alv (hs x hx));exact⟨r,by rw[yx],by simpa using hl,hr⟩
structure ID(x:aX):Prop where
 h0:x.ao.size<=maxLen
 h1:LF x.aM
 h2:x.aO.length<=140737488355328/\∀a∈x.aO,Fw a
 h3:x.aU.length<=140737488355328/\∀a∈x.aU,Fw a
 h4:u9 .i64 x.cr
 h5:yy x.bR
theorem ajS{xs:apH D}(h:dX Tryz.prog 69 xs):∃x:aX,xs=E2 x/\ID x:=by
 obtain⟨parts,rfl,hl,hx⟩:=h.oW Tryz.underlying69
 match parts,hl with
 |[a0,a1,a2,a3,a4,a5],_=>
 obtain⟨jy,rfl,iM⟩:=(hx 0 _ _ rfl rfl).vC Tryz.underlying9;obtain⟨jL,rfl,jx⟩:=RL (hx 1 _ _ rfl rfl);obtain⟨pZ,rfl,qh⟩:=Tp (hx 2 _ _ rfl rfl);obtain⟨yR,rfl,xm⟩:=Tp (hx 3 _ _ rfl rfl);obtain⟨wZ,rfl,yE⟩:=(hx 4 _ _ rfl rfl).oX Tryz.underlying3;obtain⟨Tb,rfl,MR⟩:=ajj (hx 5 _ _ rfl rfl);exact⟨⟨jy,jL,pZ,yR,wZ,Tb⟩,rfl,⟨iM,jx,qh,xm,yE,MR⟩⟩
theorem ad1{xs:apH D}(h:dX Tryz.prog 25 xs):∃l:apH aX,xs=[.sl (gK l)]/\(l.length<=140737488355328/\∀a∈l,ID a):=by
 obtain⟨l,rfl,hl,hs⟩:=h.rb Tryz.underlying25;obtain⟨r,rfl,hr⟩:=qy (f:=E2) (Q:=λa=>ID a) l (λx hx=>ajS (hs x hx));exact⟨r,by rw[sP],by simpa using hl,hr⟩
structure VC(x:aG):Prop where
 h0:x.az.length<=140737488355328/\∀a∈x.az,a.size<=maxLen
 h1:x.cd.length<=140737488355328/\∀a∈x.cd,Lr a
 h2:x.aE.length<=140737488355328/\∀a∈x.aE,Ln a
 h3:x.aw.length<=140737488355328/\∀a∈x.aw,ID a
 h4:x.bW.length<=140737488355328/\∀a∈x.bW,a.size<=maxLen
theorem ahx{xs:apH D}(h:dX Tryz.prog 27 xs):∃x:aG,xs=ai1 x/\VC x:=by
 obtain⟨parts,rfl,hl,hx⟩:=h.oW Tryz.underlying27
 match parts,hl with
 |[a0,a1,a2,a3,a4],_=>
 obtain⟨jy,rfl,iM⟩:=aaY (hx 0 _ _ rfl rfl);obtain⟨jL,rfl,jx⟩:=aeE (hx 1 _ _ rfl rfl);obtain⟨pZ,rfl,qh⟩:=ajA (hx 2 _ _ rfl rfl);obtain⟨yR,rfl,xm⟩:=ad1 (hx 3 _ _ rfl rfl);obtain⟨wZ,rfl,yE⟩:=aaY (hx 4 _ _ rfl rfl);exact⟨⟨jy,jL,pZ,yR,wZ⟩,rfl,⟨iM,jx,qh,xm,yE⟩⟩
structure MA(x:dV):Prop where
 h0:x.ao.size<=maxLen
 h1:True
theorem alW{xs:apH D}(h:dX Tryz.prog 47 xs):∃x:dV,xs=Gq x/\MA x:=by
 obtain⟨parts,rfl,hl,hx⟩:=h.oW Tryz.underlying47
 match parts,hl with
 |[a0,a1],_=>
 obtain⟨jy,rfl,iM⟩:=(hx 0 _ _ rfl rfl).vC Tryz.underlying9;obtain⟨jL,rfl,jx⟩:=(hx 1 _ _ rfl rfl).oX Tryz.underlying2;obtain⟨CR,rfl⟩:=Ej jx;exact⟨⟨jy,CR⟩,rfl,⟨iM,trivial⟩⟩
theorem amg{xs:apH D}(h:dX Tryz.prog 35 xs):∃l:apH dV,xs=[.sl (ja l)]/\(l.length<=140737488355328/\∀a∈l,MA a):=by
 obtain⟨l,rfl,hl,hs⟩:=h.rb Tryz.underlying35;obtain⟨r,rfl,hr⟩:=qy (f:=Gq) (Q:=λa=>MA a) l (λx hx=>alW (hs x hx));exact⟨r,by rw[xJ],by simpa using hl,hr⟩
def ahe:apH TypeId:=[2,3,4,9,22,23,24,25,27,35,47,50,52,54,56,57,59,61,63,64,65,67,69,72,111,115]
theorem ZY:Qh Tryz.prog ahe=true:=by kernel_rfl
theorem aeX{e:ar}(h:yy e):iy qR e:=by
 induction h with
 |mk x h0 h1 h2 h3 h4 h5 h6 g6 ih=>
  intro y hy;rcases apm.1 hy with rfl|hy
  ·exact⟨h4.h1.1,h5.1,λz hz=>⟨(h5.2 z hz).h0.h1.1,(h5.2 z hz).h2.1,λl hl=>((h5.2 z hz).h2.2 l hl).h1.1⟩,h6⟩
  ·obtain⟨a,ha,hy⟩:=Kv hy;exact ih a ha y hy
noncomputable def NO(d:aX):Nat:=3*SizeOf.sizeOf d.bR+2
theorem XC:∀{l:apH aX}{d:aX},d∈l->NO d<=(l.map NO).sum
 |x::l,d,h=>by
  rw[aph,List.sum_cons];rcases apm.1 h with rfl|h
  ·omega
  ·have:=XC h;omega
noncomputable def zU(p:aG):Nat:=(p.aw.map NO).sum
theorem C7{p:aG}{f:aX}(h:f∈p.aw):3*SizeOf.sizeOf f.bR+2<=zU p:=XC h
theorem aoA{v:Int}(h:(Lit.int .u8 v).wf=true):0<=v:=by
 unfold Lit.wf at h;simp only[aoU,decide_eq_true_eq]at h;exact h.1
theorem alu(p:aG)(b:apH dV)(v:Int)(h:VC p)(_:b.length<=140737488355328/\∀a∈b,MA a)(hv:(Lit.int .u8 v).wf=true):ic Tryz.prog 5 [eB p, .d (.sl (ja b)), .d (.v (.int .u8 v))] (·= .d (.v (.bool true))):=by
 refine aeL true (afm (9223372036854775900+zU p+zU (cv (bs [115]) (bs [112]) (bs [100]) (bs [105]) p)+zU (cv (bs [122,122]) (bs [121]) (bs [120]) (bs [119]) p)+zU (cv (bs [105]) (bs [100]) (bs [112]) (bs [115]) p)+zU (cv (bs [97,57,95]) (bs [98]) (bs [97]) (bs [110]) p)) p b v (aoA hv) (by omega) (λd hd=>⟨aeX (h.h3.2 d hd).h5,?_⟩) (λd hd=> ?_) (λd hd=> ?_) (λd hd=> ?_) (λd hd=> ?_))
 ·have:=C7 hd;omega
 ·have:=C7 hd;omega
 ·have:=C7 hd;omega
 ·have:=C7 hd;omega
 ·have:=C7 hd;omega
end Go.Proofs.YtmkmibahjanejaaGreatDoor
