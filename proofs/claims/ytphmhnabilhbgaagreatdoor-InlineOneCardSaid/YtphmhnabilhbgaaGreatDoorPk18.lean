/-
  Part 18 of the proof: InLaw1, InLaw2, OpenT, InOneAbs.
-/
import Derived.Test.YtphmhnabilhbgaaGreatDoorPk17
namespace Go.Proofs.YtphmhnabilhbgaaGreatDoor
open Go.RowKit
set_option maxRecDepth 100000
set_option linter.unusedSimpArgs false
set_option linter.unusedVariables false
theorem rj(n:Nat):((n:Int) !=(n:Int))=false:=by rw[C3,ahc];rfl
theorem M3(N:Nat)(L:List ByteArray):zV N L L=some true:=by
 have go:∀(l:List ByteArray)(k:Nat),L.drop k=l→xl N L l k=some true:=by
  intro l
  induction l with
  |nil=>intro k _;rfl
  |cons x l ih=>intro k h;rw[xl,agU,bj h,ags,ahc,cond_true];exact ih (k+1) (kL h)
 unfold zV;rw[rj,cond_false];exact go L 0 rfl
theorem Dz(N:Nat)(x:aw):qR N x x=some true:=by
 have go:∀(l:List aF)(k:Nat),x.xL.drop k=l→uk N x l k=some true:=by
  intro l
  induction l with
  |nil=>intro k _;rfl
  |cons y l ih=>intro k h;rw[uk,agU,bj h,ags,ahc,ahc];exact ih (k+1) (kL h)
 unfold qR;rw[rj,bne_self_eq_false];exact go x.xL 0 rfl
theorem TS(N:Nat)(L:List aw):yl N L L=some true:=by
 have go:∀(l:List aw)(k:Nat),L.drop k=l→vr N L l k=some true:=by
  intro l
  induction l with
  |nil=>intro k _;rfl
  |cons x l ih=>intro k h;rw[vr,agU,bj h,ags,Dz,ags,cond_true];exact ih (k+1) (kL h)
 unfold yl;rw[rj,cond_false];exact go L 0 rfl
theorem Ye(N:Nat)(x:ay):DS N x x=some true:=by
 unfold DS;rw[ahc,Dz,TS];rfl
theorem afI(N:Nat)(L:List ay):B3 N L L=some true:=by
 have go:∀(l:List ay)(k:Nat),L.drop k=l→uP N L l k=some true:=by
  intro l
  induction l with
  |nil=>intro k _;rfl
  |cons x l ih=>intro k h;rw[uP,agU,bj h,ags,Ye,ags,cond_true];exact ih (k+1) (kL h)
 unfold B3;rw[rj,cond_false];exact go L 0 rfl
theorem UK(N:Nat)(L:List ao)(rec:ao→ao→Option Bool)(hr:∀x∈L,rec x x=some true):∀(l:List ao)(k:Nat),L.drop k=l→wX N L rec l k=some true
 |[],k,_=>rfl
 |x::l,k,h=>by
  rw[wX,agU,bj h,ags,hr x (yN (bj h)),ags,cond_true];exact UK N L rec hr l (k+1) (kL h)
theorem SS(N:Nat):∀(d:Nat)(e:ao),2*SizeOf.sizeOf e<d→tw N d e e=some true
 |0,_,h=>absurd h (agV _)
 |1,e,h=>by cases e;simp only[ao.mk.sizeOf_spec]at h;omega
 |d+2,e,h=>by
  rw[tw,BS,rj,cond_false,UK N e.aT _ (fun x hx=>SS N d x (by have:=lk hx;omega)) e.aT 0 rfl,Dz,afI];rw[ahc,ahc,ahc,ahc,ahc,ahc,ahc,ahc,ahc];rfl
theorem Wn(N:Nat)(L:List cF):Bj N L L=some true:=by
 have one:∀x:cF,BB N x x=some true:=fun x=>by unfold BB;rw[ahc,Dz];rfl
 have go:∀(l:List cF)(k:Nat),L.drop k=l→wG N L l k=some true:=by
  intro l
  induction l with
  |nil=>intro k _;rfl
  |cons x l ih=>intro k h;rw[wG,agU,bj h,ags,one,ags,cond_true];exact ih (k+1) (kL h)
 unfold Bj;rw[rj,cond_false];exact go L 0 rfl
theorem NF(N:Nat)(L:List bk):yQ N L L=some true:=by
 have go:∀(l:List bk)(k:Nat),L.drop k=l→u9 N L l k=some true:=by
  intro l
  induction l with
  |nil=>intro k _;rfl
  |cons x l ih=>intro k h;rw[u9,agU,bj h,ags,ahc,Dz];exact ih (k+1) (kL h)
 unfold yQ;rw[rj,cond_false];exact go L 0 rfl
theorem acw(N:Nat)(d:aL)(h:2*SizeOf.sizeOf d.bE+2<N):D6 N d d=some true:=by
 unfold D6 GI;rw[SS N N d.bE (by omega),NF,NF];rw[ahc,ahc,ahc,ahc,ahc,ahc,ahc];rfl
theorem ac8(N:Nat)(p:aY)(h:∀d∈p.aA,2*SizeOf.sizeOf d.bE+2<N):CU N p p=some true:=by
 have go2:∀(l:List aL)(k:Nat),p.aA.drop k=l→uK N p l k=some true:=by
  intro l
  induction l with
  |nil=>intro k _;rfl
  |cons x l ih=>intro k hd;rw[uK,agU,bj hd,ags,acw N x (h x (yN (bj hd))),ags,cond_true];exact ih (k+1) (kL hd)
 have go:∀(l:List cq)(k:Nat),p.bu.drop k=l→uF N p p l k=some true:=by
  intro l
  induction l with
  |nil=>intro k _;exact go2 p.aA 0 rfl
  |cons x l ih=>
   intro k hd;rw[uF,agU,bj hd,ags,TS,ahc,ahc,ahc,ahc,ahc,ahc];exact ih (k+1) (kL hd)
 unfold CU;rw[M3,Wn,M3,rj,rj];exact go p.bu 0 rfl
structure yc(B:Nat)(x:ay):Prop where
 iw:x.aQ.xL.length≤B
 at_:x.bw.length≤B
 wb:∀l∈x.bw,l.xL.length≤B
structure Ge(B:Nat)(e:ao):Prop where
 iw:e.aQ.xL.length≤B
 idx:e.xIdx.length≤B
 each:∀x∈e.xIdx,yc B x
 args:e.aT.length≤B
def jk(B:Nat)(e:ao):Prop:=∀y∈dN e,Ge B y
theorem jk.arg{B:Nat}{e x:ao}(h:jk B e)(hx:x∈e.aT):jk B x:=fun y hy=>h y (Ap hx hy)
theorem yc.mono{A B:Nat}(h:A≤B){x:ay}(k:yc A x):yc B x:=⟨agL k.iw h,agL k.at_ h,fun l hl=>agL (k.wb l hl) h⟩
theorem Ge.mono{A B:Nat}(h:A≤B){e:ao}(k:Ge A e):Ge B e:=⟨agL k.iw h,agL k.idx h,fun x hx=>(k.each x hx).mono h,agL k.args h⟩
abbrev oZ:Nat:=140737488355328
theorem wR{a b:Nat}(h:a+b≤9223372036854775807):a7 ((a:Int)+(b:Int))=((a+b:Nat):Int):=by
 rw[←Int.natCast_add];exact yv h
def Wt(m n:Nat)(Q:Prop)(r:Option Int):Prop:=∃v:Nat,r=some (v:Int)∧n≤v∧v≤m+500000000000000∧(v≤m→Q)
theorem Jr(N:Nat)(m:Nat)(hm:m≤100000)(rec:ao→Int→Option Int)(pP:ao→Prop)(hr:∀(x:ao)(q:Nat),q≤m→pP x→Wt q 1 (jk q x) (rec x (q:Int))):∀(l:List ao)(k v:Nat),v≤m+500000000000000→(∀x∈l,pP x)→
 Wt m v (v+l.length≤m∧∀x∈l,jk m x) (oR N (m:Int) rec l k (v:Int))∧pH N (m:Int) rec l k (v:Int)=oR N (m:Int) rec l k (v:Int)
 |[],k,v,hv,_=>⟨⟨v,rfl,agE _,by omega,fun h=>⟨h,fun _ h=>by cases h⟩⟩,rfl⟩
 |x::l,k,v,hv,hx=>by
  rw[oR,pH,ud];by_cases h:v≤m
  ·rw[aha h,cond_true,cond_true,show a7 ((m:Int)-(v:Int))=((m-v:Nat):Int) by rw[show(m:Int)-(v:Int)=((m-v:Nat):Int) by omega];exact yv (by omega)];obtain⟨n,e1,e2,e3,e4⟩:=hr x (m-v) (Nat.sub_le _ _) (hx x agz);rw[e1,ags,ags];dsimp only;rw[wR (by omega)];by_cases hn:v+n≤m
   ·obtain⟨⟨u,f1,f2,f3,f4⟩,f5⟩:=Jr N m hm rec pP hr l (k+1) (v+n) (by omega) fun y hy=>hx y (agC _ hy);refine⟨⟨u,f1,by omega,f3,fun hu=> ?_⟩,f5⟩;obtain⟨g1,g2⟩:=f4 hu;refine⟨by simp only[agw];omega,fun y hy=> ?_⟩;rcases agX.1 hy with rfl|hy
    ·exact fun z hz=>(e4 (by omega) z hz).mono (by omega)
    ·exact g2 y hy
   ·have stop:∀(l:List ao)(k:Nat),oR N (m:Int) rec l k ((v+n:Nat):Int)=some ((v+n:Nat):Int)∧pH N (m:Int) rec l k ((v+n:Nat):Int)=some ((v+n:Nat):Int):=by
     intro l k;cases l with
     |nil=>exact⟨rfl,rfl⟩
     |cons y l=>rw[oR,pH,ud,ahb hn];exact⟨rfl,rfl⟩
    rw[(stop l (k+1)).1,(stop l (k+1)).2];exact⟨⟨v+n,rfl,by omega,by omega,fun h=>absurd h hn⟩,rfl⟩
  ·rw[ahb h];exact⟨⟨v,rfl,agE _,by omega,fun h'=>absurd h' h⟩,rfl⟩
theorem Pr(N:Nat)(m:Nat)(hm:m≤100000)(c:Int→Option Int)(lo:Nat)(Q:Prop)(hc:∀v:Nat,v≤m+500000000000000→lo≤v→Wt m v Q (c (v:Int))):∀(l:List aw)(k v:Nat),v≤m+500000000000000→lo≤v→(∀x∈l,x.xL.length≤oZ)→
 Wt m v (Q∧∀x∈l,x.xL.length≤m) (vB N c (m:Int) l k (v:Int))
 |[],k,v,hv,hY,_=>by
  obtain⟨u,h1,h2,h3,h4⟩:=hc v hv hY;exact⟨u,h1,h2,h3,fun h=>⟨h4 h,fun _ h=>by cases h⟩⟩
 |x::l,k,v,hv,hY,hx=>by
  rw[vB,ud];by_cases h:v≤m
  ·have rN:x.xL.length≤140737488355328:=hx x agz;rw[aha h,cond_true];dsimp only;rw[wR (by omega)];obtain⟨u,f1,f2,f3,f4⟩:=Pr N m hm c lo Q hc l (k+1) (v+x.xL.length) (by omega) (by omega) fun y hy=>hx y (agC _ hy);refine⟨u,f1,by omega,f3,fun hu=>⟨(f4 hu).1,fun y hy=> ?_⟩⟩;rcases agX.1 hy with rfl|hy
   ·omega
   ·exact(f4 hu).2 y hy
  ·rw[ahb h,cond_false];obtain⟨u,h1,h2,h3,h4⟩:=hc v hv hY;exact⟨u,h1,h2,h3,fun hu=>absurd (agL h2 hu) h⟩
theorem PD(N:Nat)(m:Nat)(hm:m≤100000)(rec:ao→Int→Option Int)(pP:ao→Prop)(hr:∀(x:ao)(q:Nat),q≤m→pP x→Wt q 1 (jk q x) (rec x (q:Int)))(e:ao)(ha:∀x∈e.aT,pP x):∀(l:List ay)(k v:Nat),v≤m+500000000000000→(∀x∈l,yc oZ x)→
 Wt m v ((e.aT.length≤m∧∀x∈e.aT,jk m x)∧∀x∈l,yc m x) (oc N (m:Int) rec e l k (v:Int))
 |[],k,v,hv,_=>by
  rw[oc];obtain⟨u,h1,h2,h3,h4⟩:=(Jr N m hm rec pP hr e.aT 0 v hv ha).1;exact⟨u,h1,h2,h3,fun h=>⟨⟨by have:=(h4 h).1;omega,(h4 h).2⟩,fun _ h=>by cases h⟩⟩
 |x::l,k,v,hv,hx=>by
  rw[oc,ud];by_cases h:v≤m
  ·have rN:=hx x agz;have h1:x.aQ.xL.length≤140737488355328:=rN.iw;have h2:x.bw.length≤140737488355328:=rN.at_;rw[aha h,cond_true,wR (by omega),wR (by omega)];obtain⟨u,f1,f2,f3,f4⟩:=Pr N m hm (fun ck=>oc N (m:Int) rec e l (k+1) ck) 0 _ (fun v hv _=>PD N m hm rec pP hr e ha l (k+1) v hv fun y hy=>hx y (agC _ hy)) x.bw 0 (v+x.aQ.xL.length+x.bw.length) (by omega) (Nat.zero_le _) rN.wb;refine⟨u,f1,by omega,f3,fun hu=> ?_⟩;obtain⟨⟨g1,g2⟩,g3⟩:=f4 hu;refine⟨g1,fun y hy=> ?_⟩;rcases agX.1 hy with rfl|hy
   ·exact⟨by omega,by omega,g3⟩
   ·exact g2 y hy
  ·rw[ahb h,cond_false];obtain⟨⟨u,h1,h2,h3,h4⟩,h5⟩:=Jr N m hm rec pP hr e.aT 0 v hv ha;rw[h5];exact⟨u,h1,h2,h3,fun hu=>absurd (agL h2 hu) h⟩
theorem R5(N:Nat):∀(d:Nat)(e:ao)(m:Nat),m≤100000→SizeOf.sizeOf e<d→jk oZ e→Wt m 1 (jk m e) (mX N d e (m:Int))
 |0,_,_,_,h,_=>absurd h (agV _)
 |d+1,e,m,hm,h,hl=>by
  have he:=hl e agz;have h1:e.aQ.xL.length≤140737488355328:=he.iw;have h2:e.xIdx.length≤140737488355328:=he.idx;rw[mX,show(1:Int)=((1:Nat):Int)from rfl,wR (by omega),wR (by omega)];obtain⟨u,f1,f2,f3,f4⟩:=PD N m hm (mX N d) (fun x=>SizeOf.sizeOf x<d∧jk oZ x) (fun x q hq hx=>R5 N d x q (by omega) hx.1 hx.2) e (fun x hx=>⟨by have:=lk hx;omega,hl.arg hx⟩) e.xIdx 0 (1+e.aQ.xL.length+e.xIdx.length) (by omega) he.each;refine⟨u,f1,by omega,f3,fun hu=> ?_⟩;obtain⟨⟨g1,g2⟩,g3⟩:=f4 hu;intro y hy;rcases agX.1 hy with rfl|hy
  ·exact⟨by omega,by omega,g3,g1⟩
  ·obtain⟨x,hx,hy⟩:=yz hy;exact g2 x hx y hy
structure HW(d:aL):Prop where
 LD:d.aJ.length≤12
 red:d.bG.length≤12
 Vt:∀a∈d.aJ++d.bG,a.dS.xL.length≤20
 body:jk 200 d.bE
structure HO(p:aY):Prop where
 s:p.bx.length≤12
 w:p.cX.length≤12
 q:p.bu.length≤12
 d:p.aA.length≤12
 o:p.cU.length≤12
 W:∀c∈p.cX,c.aQ.xL.length≤20
 P:∀x∈p.bu,x.aJ.length≤12∧∀y∈x.aJ,y.xL.length≤20
 D:∀d∈p.aA,HW d
def Bt(Q:Prop)(r:Option Bool):Prop:=∃b,r=some b∧(b=false→Q)
theorem Bt.mono{Q R:Prop}{r:Option Bool}(h:Bt Q r)(f:Q→R):Bt R r:=let ⟨b,h1,h2⟩:=h;⟨b,h1,fun e=>f (h2 e)⟩
theorem Lo(n:Nat):decide ((n:Int)>(20:Int))= !decide (n≤20):=jP n 20
theorem sR(n:Nat):decide ((n:Int)>(12:Int))= !decide (n≤12):=jP n 12
theorem Sl(N:Nat):∀(l:List aw)(k:Nat),Bt (∀y∈l,y.xL.length≤20) (xr N l k)
 |[],_=>⟨_,rfl,fun _ _ h=>by cases h⟩
 |x::l,k=>by
  rw[xr,Lo];by_cases h:x.xL.length≤20
  ·rw[aha h];refine(Sl N l (k+1)).mono fun g y hy=> ?_;rcases agX.1 hy with rfl|hy
   ·exact h
   ·exact g y hy
  ·rw[ahb h];exact⟨true,rfl,fun h=>by cases h⟩
theorem UJ(N:Nat)(d:aL)(c:Option Bool)(Q:Prop)(hc:Bt Q c)(h1:d.aJ.length≤12)(h2:d.bG.length≤12):∀(n k:Nat),k≤d.aJ.length+d.bG.length→d.aJ.length+d.bG.length-k<n→
 Bt (Q∧∀a∈(d.aJ++d.bG).drop k,a.dS.xL.length≤20) (uC N d c n (k:Int))
 |0,k,_,h=>absurd h (agV _)
 |n+1,k,hk,h=>by
  rw[uC,wR (by omega)];by_cases hl:k<d.aJ.length+d.bG.length
  ·have nv:k<(d.aJ++d.bG).length:=by rw[agu];exact hl
   rw[show decide ((k:Int)<((d.aJ.length+d.bG.length:Nat):Int))=true from aha (by omega),eP (by omega),eP (by omega),show decide ((0:Int)≤(k:Int))=true from aha (by omega),cond_true,cond_true,cond_true,cond_true,agU,agx nv,ags,Lo,List.drop_eq_getElem_cons nv,xE (by omega)];by_cases dJ:((d.aJ++d.bG)[k]).dS.xL.length≤20
   ·rw[aha dJ];refine(UJ N d c Q hc h1 h2 n (k+1) (by omega) (by omega)).mono fun⟨g1,g2⟩=>⟨g1,fun y hy=> ?_⟩;rcases agX.1 hy with rfl|hy
    ·exact dJ
    ·exact g2 y hy
   ·rw[ahb dJ];exact⟨true,rfl,fun h=>by cases h⟩
  ·rw[show decide ((k:Int)<((d.aJ.length+d.bG.length:Nat):Int))=false from ahb (by omega),cond_false,List.drop_eq_nil_of_le (by rw[agu];omega)];exact hc.mono fun g=>⟨g,fun _ h=>by cases h⟩
theorem O1(N:Nat)(hN:1000<N):∀(l:List aL)(k:Nat),(∀d∈l,jk oZ d.bE∧SizeOf.sizeOf d.bE<N)→Bt (∀d∈l,HW d) (si N 200 l k)
 |[],_,_=>⟨_,rfl,fun _ _ h=>by cases h⟩
 |d::l,k,hd=>by
  obtain⟨d1,d2⟩:=hd d agz;have ih:=O1 N hN l (k+1) fun y hy=>hd y (agC _ hy);obtain⟨v,w1,w2,w3,w4⟩:=R5 N N d.bE 200 (by decide) d2 d1;rw[si,sR,sR];unfold Mn;rw[show((200:Nat):Int)=200 from rfl]at w1;rw[w1,ags,show decide ((v:Int)>200)= !decide (v≤200)from jP v 200];by_cases h1:d.aJ.length≤12
  ·rw[aha h1];by_cases h2:d.bG.length≤12
   ·rw[aha h2];by_cases h3:v≤200
    ·rw[aha h3];have:=UJ N d _ _ ih h1 h2 N 0 (Nat.zero_le _) (by omega);rw[ag2]at this;refine Bt.mono this fun⟨g1,g2⟩ y hy=> ?_;rcases agX.1 hy with rfl|hy
     ·exact⟨h1,h2,g2,w4 h3⟩
     ·exact g1 y hy
    ·rw[ahb h3];exact⟨true,rfl,fun h=>by cases h⟩
   ·rw[ahb h2];exact⟨true,rfl,fun h=>by cases h⟩
  ·rw[ahb h1];exact⟨true,rfl,fun h=>by cases h⟩
theorem OB(N:Nat)(hN:1000<N)(p:aY)(hd:∀d∈p.aA,jk oZ d.bE∧SizeOf.sizeOf d.bE<N):∀(l:List cq)(k:Nat),Bt ((∀d∈p.aA,HW d)∧∀x∈l,x.aJ.length≤12∧∀y∈x.aJ,y.xL.length≤20) (u7 N 200 p l k)
 |[],_=>(O1 N hN p.aA 0 hd).mono fun g=>⟨g,fun _ h=>by cases h⟩
 |x::l,k=>by
  obtain⟨b,b1,b2⟩:=Sl N x.aJ 0;rw[u7,sR];unfold FW;rw[b1,ags];by_cases h:x.aJ.length≤12
  ·rw[aha h];cases b with
   |true=>exact⟨true,rfl,fun h=>by cases h⟩
   |false=>
    refine(OB N hN p hd l (k+1)).mono fun⟨g1,g2⟩=>⟨g1,fun y hy=> ?_⟩;rcases agX.1 hy with rfl|hy
    ·exact⟨h,b2 rfl⟩
    ·exact g2 y hy
  ·rw[ahb h];exact⟨true,rfl,fun h=>by cases h⟩
theorem RL(N:Nat)(hN:1000<N)(p:aY)(hd:∀d∈p.aA,jk oZ d.bE∧SizeOf.sizeOf d.bE<N):∀(l:List cF)(k:Nat),Bt (((∀d∈p.aA,HW d)∧∀x∈p.bu,x.aJ.length≤12∧∀y∈x.aJ,y.xL.length≤20)∧∀c∈l,c.aQ.xL.length≤20) (vy N 200 p l k)
 |[],_=>(OB N hN p hd p.bu 0).mono fun g=>⟨g,fun _ h=>by cases h⟩
 |c::l,k=>by
  rw[vy,Lo];by_cases h:c.aQ.xL.length≤20
  ·rw[aha h];refine(RL N hN p hd l (k+1)).mono fun⟨g1,g2⟩=>⟨g1,fun y hy=> ?_⟩;rcases agX.1 hy with rfl|hy
   ·exact h
   ·exact g2 y hy
  ·rw[ahb h];exact⟨true,rfl,fun h=>by cases h⟩
theorem WJ(N:Nat)(hN:1000<N)(p:aY)(hd:∀d∈p.aA,jk oZ d.bE∧SizeOf.sizeOf d.bE<N):Bt (HO p) (Bv N p 200):=by
 unfold Bv;rw[sR,sR,sR,sR,sR];by_cases h1:p.bx.length≤12
 ·by_cases h2:p.cX.length≤12
  ·by_cases h3:p.bu.length≤12
   ·by_cases h4:p.aA.length≤12
    ·by_cases h5:p.cU.length≤12
     ·rw[aha h1,aha h2,aha h3,aha h4,aha h5];exact(RL N hN p hd p.cX 0).mono fun⟨⟨g1,g2⟩,g3⟩=>⟨h1,h2,h3,h4,h5,g3,g2,g1⟩
     ·rw[aha h1,aha h2,aha h3,aha h4,ahb h5];exact⟨true,rfl,fun h=>by cases h⟩
    ·rw[aha h1,aha h2,aha h3,ahb h4];exact⟨true,rfl,fun h=>by cases h⟩
   ·rw[aha h1,aha h2,ahb h3];exact⟨true,rfl,fun h=>by cases h⟩
  ·rw[aha h1,ahb h2];exact⟨true,rfl,fun h=>by cases h⟩
 ·rw[ahb h1];exact⟨true,rfl,fun h=>by cases h⟩
theorem Zu(n:Nat):yt (n+1000)=some true:=by kernel_rfl
theorem Sr:∀(l:List aF)(p:Option ByteArray),oO p l=true→∀m∈l,gg m.aq=true
 |[],_,_,_,h=>by cases h
 |x::l,p,h,m,hm=>by
  rw[HU,agv,agv,agv]at h;rcases agX.1 hm with rfl|hm
  ·exact h.1
  ·exact Sr l _ h.2.2.2 m hm
theorem jk.bd{e:ao}(h:jk 200 e):mu e:=fun y hy=>
 ⟨agL (h y hy).iw (by decide),agL (h y hy).idx (by decide),fun x hx=>⟨agL ((h y hy).each x hx).iw (by decide),agL ((h y hy).each x hx).at_ (by decide),fun l hl=>agL (((h y hy).each x hx).wb l hl) (by decide)⟩,agL (h y hy).args (by decide)⟩
theorem Z5{e:ao}(h:jk 200 e)(hv:mU e=0):kQ e:=fun y hy=>by
 have hf:=(I7 (Kz hv y hy)).2.2.2.2;unfold sX at hf;rw[agv,agT]at hf;have An:=h y hy;have J:∀l∈kd y,l.xL.length≤300→rk l:=fun l hl hlen=>⟨Sr l.xL none (hf.2 l hl),hlen⟩;have Wg:y.aQ∈kd y:=by unfold kd;exact agz
 have OE:∀x∈y.xIdx,∀l∈pw x,l∈kd y:=fun x hx l hl=>by
  unfold kd;exact agC _ (List.mem_flatMap.2 ⟨x,hx,hl⟩)
 refine⟨J _ Wg (agL An.iw (by decide)),agL An.idx (by decide),fun x hx=>⟨J _ (OE x hx _ (by unfold pw;exact agz)) (agL (An.each x hx).iw (by decide)),agL (An.each x hx).at_ (by decide),fun l hl=>J _ (OE x hx _ (by unfold pw;exact agC _ hl)) (agL ((An.each x hx).wb l hl) (by decide))⟩,agL An.args (by decide)⟩
theorem ZP{N:Nat}{p:aY}(h:HO p)(hs:∀d∈p.aA,SizeOf.sizeOf d.bE<N):Bc N p:=
 ⟨⟨agL h.s (by decide),agL h.w (by decide),agL h.q (by decide),agL h.d (by decide),agL h.o (by decide),
   ⟨fun x hx=>agL (h.P x hx).1 (by decide),fun x hx y hy=>agL ((h.P x hx).2 y hy) (by decide)⟩,
   ⟨fun d hd=>by have h1:=(h.D d hd).LD;have h2:=(h.D d hd).red;omega,fun d hd y hy=>agL ((h.D d hd).Vt y hy) (by decide)⟩,
   fun c hc=>agL (h.W c hc) (by decide),fun d hd=>⟨((h.D d hd).body.bd).ok,hs d hd⟩⟩,fun d hd=>⟨(h.D d hd).body.bd,hs d hd⟩⟩
theorem adm(N:Nat)(p:aY)(s:ByteArray)(hN:2147483648<N)(hd:∀d∈p.aA,jk oZ d.bE∧SizeOf.sizeOf d.bE<N)(lY:∀d∈Ee p s,2*SizeOf.sizeOf d.bE+2<N):
 Fa N p s=some true:=by
 have ex:yt N=some true:=by
  obtain⟨n,rfl⟩:∃n,N=n+1000:=⟨N-1000,by omega⟩;exact Zu n
 obtain⟨b,l1,l2⟩:=WJ N (by omega) p hd;unfold Fa;rw[l1,ags,ex];cases b with
 |true=>rfl
 |false=>
  simp only[cond_false,ags];cases decide ((s.size:Int)>100)with
  |true=>rfl
  |false=>
   have hS:=l2 rfl;have B:=ZP hS fun d eR=>(hd d eR).2;obtain⟨r,x,o1,o2,o3⟩:=adM hN B s (fun d eR hv=>Z5 (hS.D d eR).body hv) lY;obtain⟨c,c1,c2,_⟩:=S2 hN B.b s;rw[o1,o2,c1,c2];simp only[cond_false,ags,ahc,cond_true];rw[ac8 N r o3];rfl
def sE(k:IntKind)(n:Int):Prop:=k.min≤n∧n≤k.max
theorem F3{n:Int}(h:sE .i64 n):∃m:Int64,n=m.toInt:=by
 refine⟨Int64.ofInt n,?_⟩;have h1:a7 n=n:=by
  unfold a7;rw[IntKind.wrap_i64];have h2: -9223372036854775808≤n:=h.1;have h3:n≤9223372036854775807:=h.2;omega
 rw[Int64.toInt_ofInt,←yB];exact h1.symm
theorem N4{p:List D}:∀{l:List (List D)},p∈l→SizeOf.sizeOf p≤SizeOf.sizeOf l.flatten
 |[],h=>by cases h
 |q::l,h=>by
  have app:∀a b:List D,SizeOf.sizeOf a≤SizeOf.sizeOf (a++b)∧SizeOf.sizeOf b≤SizeOf.sizeOf (a++b):=by
   intro a b
   induction a with
   |nil=>cases b<;>simp only[List.nil_append,List.nil.sizeOf_spec,List.cons.sizeOf_spec]<;>omega
   |cons x a ih=>simp only[List.cons_append,List.cons.sizeOf_spec];omega
  rw[List.flatten_cons];rcases agX.1 h with rfl|h
  ·exact(app _ _).1
  ·exact agL (N4 h) (app _ _).2
theorem QZ{xs:List D}(h:eD Tryz.prog 22 xs):∃l:List ByteArray,xs=[.sl (ax l)]∧(l.length≤140737488355328∧∀a∈l,a.size≤maxLen):=by
 obtain⟨l,rfl,hl,hs⟩:=h.qv Tryz.underlying22;obtain⟨r,rfl,hr⟩:=od (f:=cK) (Q:=fun a=>a.size≤maxLen) l (fun x hx=>by
  obtain⟨n_x,rfl,w_x⟩:=(hs x hx).wW Tryz.underlying9;exact⟨n_x,rfl,w_x⟩)
 exact⟨r,by rw[nF],by simpa using hl,hr⟩
structure Ez(x:aF):Prop where
 h0:x.aq.size≤maxLen
 h1:True
theorem Yl{xs:List D}(h:eD Tryz.prog 92 xs):∃x:aF,xs=wY x∧Ez x:=by
 obtain⟨parts,rfl,hl,hx⟩:=h.n4 Tryz.underlying92
 match parts,hl with
 |[a0,a1],_=>
 obtain⟨jH,rfl,iY⟩:=(hx 0 _ _ rfl rfl).wW Tryz.underlying9;obtain⟨js,rfl,jt⟩:=(hx 1 _ _ rfl rfl).nB Tryz.underlying2;obtain⟨IV,rfl⟩:=F3 jt;exact⟨⟨jH,IV⟩,rfl,⟨iY,trivial⟩⟩
theorem aaW{xs:List D}(h:eD Tryz.prog 46 xs):∃l:List aF,xs=[.sl (bP l)]∧(l.length≤140737488355328∧∀a∈l,Ez a):=by
 obtain⟨l,rfl,hl,hs⟩:=h.qv Tryz.underlying46;obtain⟨r,rfl,hr⟩:=od (f:=wY) (Q:=fun a=>Ez a) l (fun x hx=>Yl (hs x hx));exact⟨r,by rw[p9],by simpa using hl,hr⟩
structure qT(x:aw):Prop where
 h0:True
 h1:x.xL.length≤140737488355328∧∀a∈x.xL,Ez a
theorem Ei{xs:List D}(h:eD Tryz.prog 48 xs):∃x:aw,xs=jY x∧qT x:=by
 obtain⟨parts,rfl,hl,hx⟩:=h.n4 Tryz.underlying48
 match parts,hl with
 |[a0,a1],_=>
 obtain⟨jH,rfl,iY⟩:=(hx 0 _ _ rfl rfl).nB Tryz.underlying2;obtain⟨JZ,rfl⟩:=F3 iY;obtain⟨js,rfl,jt⟩:=aaW (hx 1 _ _ rfl rfl);exact⟨⟨JZ,js⟩,rfl,⟨trivial,jt⟩⟩
structure FA(x:cF):Prop where
 h0:qT x.aQ
 h1:True
theorem Z4{xs:List D}(h:eD Tryz.prog 57 xs):∃x:cF,xs=Dp x∧FA x:=by
 obtain⟨parts,rfl,hl,hx⟩:=h.n4 Tryz.underlying57
 match parts,hl with
 |[a0,a1],_=>
 obtain⟨jH,rfl,iY⟩:=Ei (hx 0 _ _ rfl rfl);obtain⟨js,rfl⟩:=(hx 1 _ _ rfl rfl).abQ Tryz.underlying4;exact⟨⟨jH,js⟩,rfl,⟨iY,trivial⟩⟩
theorem abi{xs:List D}(h:eD Tryz.prog 23 xs):∃l:List cF,xs=[.sl (bJ l)]∧(l.length≤140737488355328∧∀a∈l,FA a):=by
 obtain⟨l,rfl,hl,hs⟩:=h.qv Tryz.underlying23;obtain⟨r,rfl,hr⟩:=od (f:=Dp) (Q:=fun a=>FA a) l (fun x hx=>Z4 (hs x hx));exact⟨r,by rw[uI],by simpa using hl,hr⟩
structure Hf(x:bB):Prop where
 h0:sE .i64 x.cA
 h1:sE .i64 x.cD
 h2:sE .i64 x.dg
 h3:sE .i64 x.de
 h4:sE .i64 x.dc
theorem LA{xs:List D}(h:eD Tryz.prog 42 xs):∃x:bB,xs=Hd x∧Hf x:=by
 obtain⟨parts,rfl,hl,hx⟩:=h.n4 Tryz.underlying42
 match parts,hl with
 |[a0,a1,a2,a3,a4],_=>
 obtain⟨jH,rfl,iY⟩:=(hx 0 _ _ rfl rfl).nB Tryz.underlying3;obtain⟨js,rfl,jt⟩:=(hx 1 _ _ rfl rfl).nB Tryz.underlying3;obtain⟨nk,rfl,ny⟩:=(hx 2 _ _ rfl rfl).nB Tryz.underlying3;obtain⟨xO,rfl,uq⟩:=(hx 3 _ _ rfl rfl).nB Tryz.underlying3;obtain⟨uR,rfl,vP⟩:=(hx 4 _ _ rfl rfl).nB Tryz.underlying3;exact⟨⟨jH,js,nk,xO,uR⟩,rfl,⟨iY,jt,ny,uq,vP⟩⟩
theorem TV{xs:List D}(h:eD Tryz.prog 58 xs):∃l:List aw,xs=[.sl (cS l)]∧(l.length≤140737488355328∧∀a∈l,qT a):=by
 obtain⟨l,rfl,hl,hs⟩:=h.qv Tryz.underlying58;obtain⟨r,rfl,hr⟩:=od (f:=jY) (Q:=fun a=>qT a) l (fun x hx=>Ei (hs x hx));exact⟨r,by rw[qc],by simpa using hl,hr⟩
structure FK(x:cq):Prop where
 h0:x.aq.size≤maxLen
 h1:Hf x.aB
 h2:x.aJ.length≤140737488355328∧∀a∈x.aJ,qT a
theorem abb{xs:List D}(h:eD Tryz.prog 60 xs):∃x:cq,xs=Em x∧FK x:=by
 obtain⟨parts,rfl,hl,hx⟩:=h.n4 Tryz.underlying60
 match parts,hl with
 |[a0,a1,a2],_=>
 obtain⟨jH,rfl,iY⟩:=(hx 0 _ _ rfl rfl).wW Tryz.underlying9;obtain⟨js,rfl,jt⟩:=LA (hx 1 _ _ rfl rfl);obtain⟨nk,rfl,ny⟩:=TV (hx 2 _ _ rfl rfl);exact⟨⟨jH,js,nk⟩,rfl,⟨iY,jt,ny⟩⟩
theorem Vl{xs:List D}(h:eD Tryz.prog 24 xs):∃l:List cq,xs=[.sl (bN l)]∧(l.length≤140737488355328∧∀a∈l,FK a):=by
 obtain⟨l,rfl,hl,hs⟩:=h.qv Tryz.underlying24;obtain⟨r,rfl,hr⟩:=od (f:=Em) (Q:=fun a=>FK a) l (fun x hx=>abb (hs x hx));exact⟨r,by rw[vQ],by simpa using hl,hr⟩
structure Cj(x:bk):Prop where
 h0:x.aq.size≤maxLen
 h1:qT x.dS
theorem abH{xs:List D}(h:eD Tryz.prog 64 xs):∃x:bk,xs=D4 x∧Cj x:=by
 obtain⟨parts,rfl,hl,hx⟩:=h.n4 Tryz.underlying64
 match parts,hl with
 |[a0,a1],_=>
 obtain⟨jH,rfl,iY⟩:=(hx 0 _ _ rfl rfl).wW Tryz.underlying9;obtain⟨js,rfl,jt⟩:=Ei (hx 1 _ _ rfl rfl);exact⟨⟨jH,js⟩,rfl,⟨iY,jt⟩⟩
theorem NK{xs:List D}(h:eD Tryz.prog 43 xs):∃l:List bk,xs=[.sl (cy l)]∧(l.length≤140737488355328∧∀a∈l,Cj a):=by
 obtain⟨l,rfl,hl,hs⟩:=h.qv Tryz.underlying43;obtain⟨r,rfl,hr⟩:=od (f:=D4) (Q:=fun a=>Cj a) l (fun x hx=>abH (hs x hx));exact⟨r,by rw[wz],by simpa using hl,hr⟩
structure Pq(x:gj):Prop where
 h0:True
 h1:True
theorem aa1{xs:List D}(h:eD Tryz.prog 45 xs):∃x:gj,xs=Za x∧Pq x:=by
 obtain⟨parts,rfl,hl,hx⟩:=h.n4 Tryz.underlying45
 match parts,hl with
 |[a0,a1],_=>
 obtain⟨jH,rfl,iY⟩:=(hx 0 _ _ rfl rfl).nB Tryz.underlying2;obtain⟨JZ,rfl⟩:=F3 iY;obtain⟨js,rfl,jt⟩:=(hx 1 _ _ rfl rfl).nB Tryz.underlying2;obtain⟨IV,rfl⟩:=F3 jt;exact⟨⟨JZ,IV⟩,rfl,⟨trivial,trivial⟩⟩
structure EA(x:ay):Prop where
 h0:qT x.aQ
 h1:x.bp.size≤maxLen
 h2:x.bw.length≤140737488355328∧∀a∈x.bw,qT a
theorem aeg{xs:List D}(h:eD Tryz.prog 80 xs):∃x:ay,xs=fO x∧EA x:=by
 obtain⟨parts,rfl,hl,hx⟩:=h.n4 Tryz.underlying80
 match parts,hl with
 |[a0,a1,a2],_=>
 obtain⟨jH,rfl,iY⟩:=Ei (hx 0 _ _ rfl rfl);obtain⟨js,rfl,jt⟩:=(hx 1 _ _ rfl rfl).wW Tryz.underlying9;obtain⟨nk,rfl,ny⟩:=TV (hx 2 _ _ rfl rfl);exact⟨⟨jH,js,nk⟩,rfl,⟨iY,jt,ny⟩⟩
theorem aeS{xs:List D}(h:eD Tryz.prog 49 xs):∃l:List ay,xs=[.sl (bM l)]∧(l.length≤140737488355328∧∀a∈l,EA a):=by
 obtain⟨l,rfl,hl,hs⟩:=h.qv Tryz.underlying49;obtain⟨r,rfl,hr⟩:=od (f:=fO) (Q:=fun a=>EA a) l (fun x hx=>aeg (hs x hx));exact⟨r,by rw[qi],by simpa using hl,hr⟩
inductive vf:ao→Prop
 |mk (x:ao) (h0:sE .i64 x.bg) (h1:x.aq.size≤maxLen) (h2:Pq x.dK) (h3:Hf x.aB) (h4:qT x.aQ) (h5:x.xIdx.length≤140737488355328∧∀a∈x.xIdx,EA a) (h6:x.aT.length≤140737488355328) (g6:∀a∈x.aT,vf a):vf x
theorem Va:∀(n:Nat)(xs:List D),SizeOf.sizeOf xs<n→eD Tryz.prog 52 xs→∃x:ao,xs=dw x∧vf x
 |0,_,h,_=>absurd h (agV _)
 |n+1,xs,hn,h=>by
  obtain⟨parts,rfl,hl,hx⟩:=h.n4 Tryz.underlying52
  match parts,hl with
  |[a0,a1,a2,a3,a4,a5,a6],_=>
  obtain⟨jH,rfl,iY⟩:=(hx 0 _ _ rfl rfl).nB Tryz.underlying3;obtain⟨js,rfl,jt⟩:=(hx 1 _ _ rfl rfl).wW Tryz.underlying9;obtain⟨nk,rfl,ny⟩:=aa1 (hx 2 _ _ rfl rfl);obtain⟨xO,rfl,uq⟩:=LA (hx 3 _ _ rfl rfl);obtain⟨uR,rfl,vP⟩:=Ei (hx 4 _ _ rfl rfl);obtain⟨LU,rfl,IJ⟩:=aeS (hx 5 _ _ rfl rfl);obtain⟨l_,rfl,W3,VT⟩:=(hx 6 _ _ rfl rfl).qv Tryz.underlying50;obtain⟨r_,rfl,hr_⟩:=od (f:=dw) (Q:=vf) l_ (fun x hx=>Va n x (by have h1:=List.sizeOf_lt_of_mem hx;have h2:SizeOf.sizeOf [D.sl l_]<n+1:=Nat.lt_of_le_of_lt (N4 (by simp)) hn;simp only[List.cons.sizeOf_spec,D.sl.sizeOf_spec,List.nil.sizeOf_spec]at h2;omega) (VT x hx));refine⟨⟨jH,js,nk,xO,uR,LU,r_⟩,?_, .mk _ iY jt ny uq vP IJ (by simpa using W3) hr_⟩;show _=dw _;unfold dw;rw[kV];rfl
theorem aeW{xs:List D}(h:eD Tryz.prog 52 xs):∃x:ao,xs=dw x∧vf x:=Va _ xs (ahf _) h
structure Fx(x:aL):Prop where
 h0:x.aq.size≤maxLen
 h1:Hf x.aB
 h2:x.aJ.length≤140737488355328∧∀a∈x.aJ,Cj a
 h3:x.bG.length≤140737488355328∧∀a∈x.bG,Cj a
 h4:sE .i64 x.cP
 h5:vf x.bE
theorem Y5{xs:List D}(h:eD Tryz.prog 54 xs):∃x:aL,xs=cw x∧Fx x:=by
 obtain⟨parts,rfl,hl,hx⟩:=h.n4 Tryz.underlying54
 match parts,hl with
 |[a0,a1,a2,a3,a4,a5],_=>
 obtain⟨jH,rfl,iY⟩:=(hx 0 _ _ rfl rfl).wW Tryz.underlying9;obtain⟨js,rfl,jt⟩:=LA (hx 1 _ _ rfl rfl);obtain⟨nk,rfl,ny⟩:=NK (hx 2 _ _ rfl rfl);obtain⟨xO,rfl,uq⟩:=NK (hx 3 _ _ rfl rfl);obtain⟨uR,rfl,vP⟩:=(hx 4 _ _ rfl rfl).nB Tryz.underlying3;obtain⟨LU,rfl,IJ⟩:=aeW (hx 5 _ _ rfl rfl);exact⟨⟨jH,js,nk,xO,uR,LU⟩,rfl,⟨iY,jt,ny,uq,vP,IJ⟩⟩
theorem XX{xs:List D}(h:eD Tryz.prog 25 xs):∃l:List aL,xs=[.sl (cg l)]∧(l.length≤140737488355328∧∀a∈l,Fx a):=by
 obtain⟨l,rfl,hl,hs⟩:=h.qv Tryz.underlying25;obtain⟨r,rfl,hr⟩:=od (f:=cw) (Q:=fun a=>Fx a) l (fun x hx=>Y5 (hs x hx));exact⟨r,by rw[lz],by simpa using hl,hr⟩
structure Rc(x:aY):Prop where
 h0:x.bx.length≤140737488355328∧∀a∈x.bx,a.size≤maxLen
 h1:x.cX.length≤140737488355328∧∀a∈x.cX,FA a
 h2:x.bu.length≤140737488355328∧∀a∈x.bu,FK a
 h3:x.aA.length≤140737488355328∧∀a∈x.aA,Fx a
 h4:x.cU.length≤140737488355328∧∀a∈x.cU,a.size≤maxLen
theorem Xa{xs:List D}(h:eD Tryz.prog 27 xs):∃x:aY,xs=afA x∧Rc x:=by
 obtain⟨parts,rfl,hl,hx⟩:=h.n4 Tryz.underlying27
 match parts,hl with
 |[a0,a1,a2,a3,a4],_=>
 obtain⟨jH,rfl,iY⟩:=QZ (hx 0 _ _ rfl rfl);obtain⟨js,rfl,jt⟩:=abi (hx 1 _ _ rfl rfl);obtain⟨nk,rfl,ny⟩:=Vl (hx 2 _ _ rfl rfl);obtain⟨xO,rfl,uq⟩:=XX (hx 3 _ _ rfl rfl);obtain⟨uR,rfl,vP⟩:=QZ (hx 4 _ _ rfl rfl);exact⟨⟨jH,js,nk,xO,uR⟩,rfl,⟨iY,jt,ny,uq,vP⟩⟩
def afk:List TypeId:=[2,3,4,9,22,23,24,25,27,42,43,45,46,48,49,50,52,54,57,58,60,64,80,92]
theorem ZC:II Tryz.prog afk=true:=by kernel_rfl
theorem V1{e:ao}(h:vf e):jk oZ e:=by
 induction h with
 |mk x h0 h1 h2 h3 h4 h5 h6 g6 ih=>
  intro y hy;rcases agX.1 hy with rfl|hy
  ·exact⟨h4.h1.1,h5.1,fun z hz=>⟨(h5.2 z hz).h0.h1.1,(h5.2 z hz).h2.1,fun l hl=>((h5.2 z hz).h2.2 l hl).h1.1⟩,h6⟩
  ·obtain⟨a,ha,hy⟩:=yz hy;exact ih a ha y hy
theorem RU{d:aL}{l:List aL}(h:d∈l):SizeOf.sizeOf d.bE<SizeOf.sizeOf l:=by
 have h1:=List.sizeOf_lt_of_mem h;have h2:SizeOf.sizeOf d.bE<SizeOf.sizeOf d:=by cases d;simp only[aL.mk.sizeOf_spec];omega
 omega
theorem Ya(p:aY)(s:ByteArray)(h:Rc p)(_:s.size≤maxLen):bm Tryz.prog 3 [aX p,bq s] (·= .d (.v (.bool true))):=by
 refine VU (2147483649+2*SizeOf.sizeOf p.aA+2*SizeOf.sizeOf (Ee p s)) p s true (adm _ p s (by omega) (fun d hd=>⟨V1 (h.h3.2 d hd).h5,?_⟩) fun d hd=> ?_)
 ·have:=RU hd;omega
 ·have:=RU hd;omega
end Go.Proofs.YtphmhnabilhbgaaGreatDoor
