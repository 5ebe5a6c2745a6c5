/-
  Part 17 of the proof: InLaw1, InAll1, InAll2, OpenT, InAllAbs.
-/
import Derived.Test.YtphmhnabilhbgaaGreatDoorPk16
namespace Go.Proofs.YtphmhnabilhbgaaGreatDoor
open Go.RowKit
set_option maxRecDepth 100000
set_option linter.unusedSimpArgs false
set_option linter.unusedVariables false
theorem rO(n:Nat):((n:Int) !=(n:Int))=false:=by rw[iP,aiz];rfl
theorem QY(N:Nat)(L:aiE aiF):sO N L L=some true:=by
 have go:∀(l:aiE aiF)(k:Nat),L.drop k=l→rL N L l k=some true:=by
  intro l
  induction l with
  |nil=>intro k _;rfl
  |cons x l ih=>intro k h;rw[rL,aih,aU h,ahO,aiz,cond_true];exact ih (k+1) (eP h)
 unfold sO;rw[rO,cond_false];exact go L 0 rfl
theorem DC(N:Nat)(x:ax):n7 N x x=some true:=by
 have go:∀(l:aiE aD)(k:Nat),x.xL.drop k=l→qu N x l k=some true:=by
  intro l
  induction l with
  |nil=>intro k _;rfl
  |cons y l ih=>intro k h;rw[qu,aih,aU h,ahO,aiz,aiz];exact ih (k+1) (eP h)
 unfold n7;rw[rO,bne_self_eq_false];exact go x.xL 0 rfl
theorem Sk(N:Nat)(L:aiE ax):tw N L L=some true:=by
 have go:∀(l:aiE ax)(k:Nat),L.drop k=l→qe N L l k=some true:=by
  intro l
  induction l with
  |nil=>intro k _;rfl
  |cons x l ih=>intro k h;rw[qe,aih,aU h,ahO,DC,ahO,cond_true];exact ih (k+1) (eP h)
 unfold tw;rw[rO,cond_false];exact go L 0 rfl
theorem aaq(N:Nat)(x:az):xf N x x=some true:=by
 unfold xf;rw[aiz,DC,Sk];rfl
theorem agN(N:Nat)(L:aiE az):vV N L L=some true:=by
 have go:∀(l:aiE az)(k:Nat),L.drop k=l→ra N L l k=some true:=by
  intro l
  induction l with
  |nil=>intro k _;rfl
  |cons x l ih=>intro k h;rw[ra,aih,aU h,ahO,aaq,ahO,cond_true];exact ih (k+1) (eP h)
 unfold vV;rw[rO,cond_false];exact go L 0 rfl
theorem Vp(N:Nat)(L:aiE aq)(rec:aq→aq→aiG Bool)(hr:∀x∈L,rec x x=some true):∀(l:aiE aq)(k:Nat),L.drop k=l→qR N L rec l k=some true
 |[],k,_=>rfl
 |x::l,k,h=>by
  rw[qR,aih,aU h,ahO,hr x (rV (aU h)),ahO,cond_true];exact Vp N L rec hr l (k+1) (eP h)
theorem VJ(N:Nat):∀(d:Nat)(e:aq),2*SizeOf.sizeOf e<d→pD N d e e=some true
 |0,_,h=>absurd h (aii _)
 |1,e,h=>by cases e;simp only[aq.mk.sizeOf_spec]at h;omega
 |d+2,e,h=>by
  rw[pD,xC,rO,cond_false,Vp N e.aM _ (fun x hx=>VJ N d x (by have:=j6 hx;omega)) e.aM 0 rfl,DC,agN];rw[aiz,aiz,aiz,aiz,aiz,aiz,aiz,aiz,aiz];rfl
theorem aaJ(N:Nat)(L:aiE cf):w9 N L L=some true:=by
 have one:∀x:cf,vv N x x=some true:=fun x=>by unfold vv;rw[aiz,DC];rfl
 have go:∀(l:aiE cf)(k:Nat),L.drop k=l→pM N L l k=some true:=by
  intro l
  induction l with
  |nil=>intro k _;rfl
  |cons x l ih=>intro k h;rw[pM,aih,aU h,ahO,one,ahO,cond_true];exact ih (k+1) (eP h)
 unfold w9;rw[rO,cond_false];exact go L 0 rfl
theorem Tz(N:Nat)(L:aiE bj):th N L L=some true:=by
 have go:∀(l:aiE bj)(k:Nat),L.drop k=l→qn N L l k=some true:=by
  intro l
  induction l with
  |nil=>intro k _;rfl
  |cons x l ih=>intro k h;rw[qn,aih,aU h,ahO,aiz,DC];exact ih (k+1) (eP h)
 unfold th;rw[rO,cond_false];exact go L 0 rfl
theorem acM(N:Nat)(d:aG)(h:2*SizeOf.sizeOf d.bx+2<N):uK N d d=some true:=by
 unfold uK D4;rw[VJ N N d.bx (by omega),Tz,Tz];rw[aiz,aiz,aiz,aiz,aiz,aiz,aiz];rfl
theorem aed(N:Nat)(p:aQ)(h:∀d∈p.ay,2*SizeOf.sizeOf d.bx+2<N):rZ N p p=some true:=by
 have go2:∀(l:aiE aG)(k:Nat),p.ay.drop k=l→rI N p l k=some true:=by
  intro l
  induction l with
  |nil=>intro k _;rfl
  |cons x l ih=>intro k hd;rw[rI,aih,aU hd,ahO,acM N x (h x (rV (aU hd))),ahO,cond_true];exact ih (k+1) (eP hd)
 have go:∀(l:aiE bX)(k:Nat),p.a8.drop k=l→o7 N p p l k=some true:=by
  intro l
  induction l with
  |nil=>intro k _;exact go2 p.ay 0 rfl
  |cons x l ih=>
   intro k hd;rw[o7,aih,aU hd,ahO,Sk,aiz,aiz,aiz,aiz,aiz,aiz];exact ih (k+1) (eP hd)
 unfold rZ;rw[QY,aaJ,QY,rO,rO];exact go p.a8 0 rfl
structure yp(B:Nat)(x:az):Prop where
 jj:x.aK.xL.length≤B
 at_:x.bp.length≤B
 si:∀l∈x.bp,l.xL.length≤B
structure Hc(B:Nat)(e:aq):Prop where
 jj:e.aK.xL.length≤B
 idx:e.xIdx.length≤B
 each:∀x∈e.xIdx,yp B x
 args:e.aM.length≤B
def jr(B:Nat)(e:aq):Prop:=∀y∈dJ e,Hc B y
theorem jr.arg{B:Nat}{e x:aq}(h:jr B e)(hx:x∈e.aM):jr B x:=fun y hy=>h y (yk hx hy)
theorem yp.mono{A B:Nat}(h:A≤B){x:az}(k:yp A x):yp B x:=⟨ah7 k.jj h,ah7 k.at_ h,fun l hl=>ah7 (k.si l hl) h⟩
theorem Hc.mono{A B:Nat}(h:A≤B){e:aq}(k:Hc A e):Hc B e:=⟨ah7 k.jj h,ah7 k.idx h,fun x hx=>(k.each x hx).mono h,ah7 k.args h⟩
abbrev ov:Nat:=140737488355328
theorem vA{a b:Nat}(h:a+b≤9223372036854775807):aV ((a:Int)+(b:Int))=((a+b:Nat):Int):=by
 rw[←Int.natCast_add];exact zV h
def Wt(m n:Nat)(Q:Prop)(r:aiG Int):Prop:=∃v:Nat,r=some (v:Int)∧n≤v∧v≤m+500000000000000∧(v≤m→Q)
theorem No(N:Nat)(m:Nat)(hm:m≤100000)(rec:aq→Int→aiG Int)(qk:aq→Prop)(hr:∀(x:aq)(q:Nat),q≤m→qk x→Wt q 1 (jr q x) (rec x (q:Int))):∀(l:aiE aq)(k v:Nat),v≤m+500000000000000→(∀x∈l,qk x)→
 Wt m v (v+l.length≤m∧∀x∈l,jr m x) (oZ N (m:Int) rec l k (v:Int))∧p8 N (m:Int) rec l k (v:Int)=oZ N (m:Int) rec l k (v:Int)
 |[],k,v,hv,_=>⟨⟨v,rfl,ah0 _,by omega,fun h=>⟨h,fun _ h=>by cases h⟩⟩,rfl⟩
 |x::l,k,v,hv,hx=>by
  rw[oZ,p8,uI];by_cases h:v≤m
  ·rw[aix h,cond_true,cond_true,show aV ((m:Int)-(v:Int))=((m-v:Nat):Int) by rw[show(m:Int)-(v:Int)=((m-v:Nat):Int) by omega];exact zV (by omega)];obtain⟨n,e1,e2,e3,e4⟩:=hr x (m-v) (Nat.sub_le _ _) (hx x ahV);rw[e1,ahO,ahO];dsimp only;rw[vA (by omega)];by_cases hn:v+n≤m
   ·obtain⟨⟨u,f1,f2,f3,f4⟩,f5⟩:=No N m hm rec qk hr l (k+1) (v+n) (by omega) fun y hy=>hx y (ahY _ hy);refine⟨⟨u,f1,by omega,f3,fun hu=> ?_⟩,f5⟩;obtain⟨g1,g2⟩:=f4 hu;refine⟨by simp only[ahS];omega,fun y hy=> ?_⟩;rcases aik.1 hy with rfl|hy
    ·exact fun z hz=>(e4 (by omega) z hz).mono (by omega)
    ·exact g2 y hy
   ·have stop:∀(l:aiE aq)(k:Nat),oZ N (m:Int) rec l k ((v+n:Nat):Int)=some ((v+n:Nat):Int)∧p8 N (m:Int) rec l k ((v+n:Nat):Int)=some ((v+n:Nat):Int):=by
     intro l k;cases l with
     |nil=>exact⟨rfl,rfl⟩
     |cons y l=>rw[oZ,p8,uI,aiy hn];exact⟨rfl,rfl⟩
    rw[(stop l (k+1)).1,(stop l (k+1)).2];exact⟨⟨v+n,rfl,by omega,by omega,fun h=>absurd h hn⟩,rfl⟩
  ·rw[aiy h];exact⟨⟨v,rfl,ah0 _,by omega,fun h'=>absurd h' h⟩,rfl⟩
theorem Ur(N:Nat)(m:Nat)(hm:m≤100000)(c:Int→aiG Int)(lo:Nat)(Q:Prop)(hc:∀v:Nat,v≤m+500000000000000→lo≤v→Wt m v Q (c (v:Int))):∀(l:aiE ax)(k v:Nat),v≤m+500000000000000→lo≤v→(∀x∈l,x.xL.length≤ov)→
 Wt m v (Q∧∀x∈l,x.xL.length≤m) (vp N c (m:Int) l k (v:Int))
 |[],k,v,hv,hlo,_=>by
  obtain⟨u,h1,h2,h3,h4⟩:=hc v hv hlo;exact⟨u,h1,h2,h3,fun h=>⟨h4 h,fun _ h=>by cases h⟩⟩
 |x::l,k,v,hv,hlo,hx=>by
  rw[vp,uI];by_cases h:v≤m
  ·have ue:x.xL.length≤140737488355328:=hx x ahV;rw[aix h,cond_true];dsimp only;rw[vA (by omega)];obtain⟨u,f1,f2,f3,f4⟩:=Ur N m hm c lo Q hc l (k+1) (v+x.xL.length) (by omega) (by omega) fun y hy=>hx y (ahY _ hy);refine⟨u,f1,by omega,f3,fun hu=>⟨(f4 hu).1,fun y hy=> ?_⟩⟩;rcases aik.1 hy with rfl|hy
   ·omega
   ·exact(f4 hu).2 y hy
  ·rw[aiy h,cond_false];obtain⟨u,h1,h2,h3,h4⟩:=hc v hv hlo;exact⟨u,h1,h2,h3,fun hu=>absurd (ah7 h2 hu) h⟩
theorem RG(N:Nat)(m:Nat)(hm:m≤100000)(rec:aq→Int→aiG Int)(qk:aq→Prop)(hr:∀(x:aq)(q:Nat),q≤m→qk x→Wt q 1 (jr q x) (rec x (q:Int)))(e:aq)(ha:∀x∈e.aM,qk x):∀(l:aiE az)(k v:Nat),v≤m+500000000000000→(∀x∈l,yp ov x)→
 Wt m v ((e.aM.length≤m∧∀x∈e.aM,jr m x)∧∀x∈l,yp m x) (oP N (m:Int) rec e l k (v:Int))
 |[],k,v,hv,_=>by
  rw[oP];obtain⟨u,h1,h2,h3,h4⟩:=(No N m hm rec qk hr e.aM 0 v hv ha).1;exact⟨u,h1,h2,h3,fun h=>⟨⟨by have:=(h4 h).1;omega,(h4 h).2⟩,fun _ h=>by cases h⟩⟩
 |x::l,k,v,hv,hx=>by
  rw[oP,uI];by_cases h:v≤m
  ·have ue:=hx x ahV;have h1:x.aK.xL.length≤140737488355328:=ue.jj;have h2:x.bp.length≤140737488355328:=ue.at_;rw[aix h,cond_true,vA (by omega),vA (by omega)];obtain⟨u,f1,f2,f3,f4⟩:=Ur N m hm (fun b6=>oP N (m:Int) rec e l (k+1) b6) 0 _ (fun v hv _=>RG N m hm rec qk hr e ha l (k+1) v hv fun y hy=>hx y (ahY _ hy)) x.bp 0 (v+x.aK.xL.length+x.bp.length) (by omega) (Nat.zero_le _) ue.si;refine⟨u,f1,by omega,f3,fun hu=> ?_⟩;obtain⟨⟨g1,g2⟩,g3⟩:=f4 hu;refine⟨g1,fun y hy=> ?_⟩;rcases aik.1 hy with rfl|hy
   ·exact⟨by omega,by omega,g3⟩
   ·exact g2 y hy
  ·rw[aiy h,cond_false];obtain⟨⟨u,h1,h2,h3,h4⟩,h5⟩:=No N m hm rec qk hr e.aM 0 v hv ha;rw[h5];exact⟨u,h1,h2,h3,fun hu=>absurd (ah7 h2 hu) h⟩
theorem Qb(N:Nat):∀(d:Nat)(e:aq)(m:Nat),m≤100000→SizeOf.sizeOf e<d→jr ov e→Wt m 1 (jr m e) (mR N d e (m:Int))
 |0,_,_,_,h,_=>absurd h (aii _)
 |d+1,e,m,hm,h,hl=>by
  have he:=hl e ahV;have h1:e.aK.xL.length≤140737488355328:=he.jj;have h2:e.xIdx.length≤140737488355328:=he.idx;rw[mR,show(1:Int)=((1:Nat):Int)from rfl,vA (by omega),vA (by omega)];obtain⟨u,f1,f2,f3,f4⟩:=RG N m hm (mR N d) (fun x=>SizeOf.sizeOf x<d∧jr ov x) (fun x q hq hx=>Qb N d x q (by omega) hx.1 hx.2) e (fun x hx=>⟨by have:=j6 hx;omega,hl.arg hx⟩) e.xIdx 0 (1+e.aK.xL.length+e.xIdx.length) (by omega) he.each;refine⟨u,f1,by omega,f3,fun hu=> ?_⟩;obtain⟨⟨g1,g2⟩,g3⟩:=f4 hu;intro y hy;rcases aik.1 hy with rfl|hy
  ·exact⟨by omega,by omega,g3,g1⟩
  ·obtain⟨x,hx,hy⟩:=zc hy;exact g2 x hx y hy
structure GK(d:aG):Prop where
 M6:d.aI.length≤12
 red:d.bz.length≤12
 agQ:∀a∈d.aI++d.bz,a.dB.xL.length≤20
 body:jr 300 d.bx
structure Gg(p:aQ):Prop where
 s:p.ba.length≤12
 w:p.cm.length≤12
 q:p.a8.length≤12
 d:p.ay.length≤12
 o:p.cl.length≤12
 W:∀c∈p.cm,c.aK.xL.length≤20
 P:∀x∈p.a8,x.aI.length≤12∧∀y∈x.aI,y.xL.length≤20
 D:∀d∈p.ay,GK d
def Bt(Q:Prop)(r:aiG Bool):Prop:=∃b,r=some b∧(b=false→Q)
theorem Bt.mono{Q R:Prop}{r:aiG Bool}(h:Bt Q r)(f:Q→R):Bt R r:=let ⟨b,h1,h2⟩:=h;⟨b,h1,fun e=>f (h2 e)⟩
theorem M5(n:Nat):decide ((n:Int)>(20:Int))= !decide (n≤20):=jP n 20
theorem sI(n:Nat):decide ((n:Int)>(12:Int))= !decide (n≤12):=jP n 12
theorem PU(N:Nat):∀(l:aiE ax)(k:Nat),Bt (∀y∈l,y.xL.length≤20) (wE N l k)
 |[],_=>⟨_,rfl,fun _ _ h=>by cases h⟩
 |x::l,k=>by
  rw[wE,M5];by_cases h:x.xL.length≤20
  ·rw[aix h];refine(PU N l (k+1)).mono fun g y hy=> ?_;rcases aik.1 hy with rfl|hy
   ·exact h
   ·exact g y hy
  ·rw[aiy h];exact⟨true,rfl,fun h=>by cases h⟩
theorem U2(N:Nat)(d:aG)(c:aiG Bool)(Q:Prop)(hc:Bt Q c)(h1:d.aI.length≤12)(h2:d.bz.length≤12):∀(n k:Nat),k≤d.aI.length+d.bz.length→d.aI.length+d.bz.length-k<n→
 Bt (Q∧∀a∈(d.aI++d.bz).drop k,a.dB.xL.length≤20) (vj N d c n (k:Int))
 |0,k,_,h=>absurd h (aii _)
 |n+1,k,hk,h=>by
  rw[vj,vA (by omega)];by_cases hl:k<d.aI.length+d.bz.length
  ·have na:k<(d.aI++d.bz).length:=by rw[ahQ];exact hl
   rw[show decide ((k:Int)<((d.aI.length+d.bz.length:Nat):Int))=true from aix (by omega),eW (by omega),eW (by omega),show decide ((0:Int)≤(k:Int))=true from aix (by omega),cond_true,cond_true,cond_true,cond_true,aih,ahT na,ahO,M5,List.drop_eq_getElem_cons na,vS (by omega)];by_cases dH:((d.aI++d.bz)[k]).dB.xL.length≤20
   ·rw[aix dH];refine(U2 N d c Q hc h1 h2 n (k+1) (by omega) (by omega)).mono fun⟨g1,g2⟩=>⟨g1,fun y hy=> ?_⟩;rcases aik.1 hy with rfl|hy
    ·exact dH
    ·exact g2 y hy
   ·rw[aiy dH];exact⟨true,rfl,fun h=>by cases h⟩
  ·rw[show decide ((k:Int)<((d.aI.length+d.bz.length:Nat):Int))=false from aiy (by omega),cond_false,List.drop_eq_nil_of_le (by rw[ahQ];omega)];exact hc.mono fun g=>⟨g,fun _ h=>by cases h⟩
theorem VG(N m:Nat)(hm:m≤300)(hN:1000<N):∀(l:aiE aG)(k:Nat),(∀d∈l,jr ov d.bx∧SizeOf.sizeOf d.bx<N)→Bt (∀d∈l,GK d) (sk N (m:Int) l k)
 |[],_,_=>⟨_,rfl,fun _ _ h=>by cases h⟩
 |d::l,k,hd=>by
  obtain⟨d1,d2⟩:=hd d ahV;have ih:=VG N m hm hN l (k+1) fun y hy=>hd y (ahY _ hy);obtain⟨v,w1,w2,w3,w4⟩:=Qb N N d.bx m (by omega) d2 d1;rw[sk,sI,sI];unfold L5;rw[w1,ahO,show decide ((v:Int)>(m:Int))= !decide (v≤m)from jP v m];by_cases h1:d.aI.length≤12
  ·rw[aix h1];by_cases h2:d.bz.length≤12
   ·rw[aix h2];by_cases h3:v≤m
    ·rw[aix h3];have:=U2 N d _ _ ih h1 h2 N 0 (Nat.zero_le _) (by omega);rw[aip]at this;refine Bt.mono this fun⟨g1,g2⟩ y hy=> ?_;rcases aik.1 hy with rfl|hy
     ·exact⟨h1,h2,g2,fun z hz=>(w4 h3 z hz).mono hm⟩
     ·exact g1 y hy
    ·rw[aiy h3];exact⟨true,rfl,fun h=>by cases h⟩
   ·rw[aiy h2];exact⟨true,rfl,fun h=>by cases h⟩
  ·rw[aiy h1];exact⟨true,rfl,fun h=>by cases h⟩
theorem Pp(N m:Nat)(hm:m≤300)(hN:1000<N)(p:aQ)(hd:∀d∈p.ay,jr ov d.bx∧SizeOf.sizeOf d.bx<N):∀(l:aiE bX)(k:Nat),Bt ((∀d∈p.ay,GK d)∧∀x∈l,x.aI.length≤12∧∀y∈x.aI,y.xL.length≤20) (uV N (m:Int) p l k)
 |[],_=>(VG N m hm hN p.ay 0 hd).mono fun g=>⟨g,fun _ h=>by cases h⟩
 |x::l,k=>by
  obtain⟨b,b1,b2⟩:=PU N x.aI 0;rw[uV,sI];unfold Ho;rw[b1,ahO];by_cases h:x.aI.length≤12
  ·rw[aix h];cases b with
   |true=>exact⟨true,rfl,fun h=>by cases h⟩
   |false=>
    refine(Pp N m hm hN p hd l (k+1)).mono fun⟨g1,g2⟩=>⟨g1,fun y hy=> ?_⟩;rcases aik.1 hy with rfl|hy
    ·exact⟨h,b2 rfl⟩
    ·exact g2 y hy
  ·rw[aiy h];exact⟨true,rfl,fun h=>by cases h⟩
theorem Qy(N m:Nat)(hm:m≤300)(hN:1000<N)(p:aQ)(hd:∀d∈p.ay,jr ov d.bx∧SizeOf.sizeOf d.bx<N):∀(l:aiE cf)(k:Nat),Bt (((∀d∈p.ay,GK d)∧∀x∈p.a8,x.aI.length≤12∧∀y∈x.aI,y.xL.length≤20)∧∀c∈l,c.aK.xL.length≤20) (xy N (m:Int) p l k)
 |[],_=>(Pp N m hm hN p hd p.a8 0).mono fun g=>⟨g,fun _ h=>by cases h⟩
 |c::l,k=>by
  rw[xy,M5];by_cases h:c.aK.xL.length≤20
  ·rw[aix h];refine(Qy N m hm hN p hd l (k+1)).mono fun⟨g1,g2⟩=>⟨g1,fun y hy=> ?_⟩;rcases aik.1 hy with rfl|hy
   ·exact h
   ·exact g2 y hy
  ·rw[aiy h];exact⟨true,rfl,fun h=>by cases h⟩
theorem ZY(N m:Nat)(hm:m≤300)(hN:1000<N)(p:aQ)(hd:∀d∈p.ay,jr ov d.bx∧SizeOf.sizeOf d.bx<N):Bt (Gg p) (yX N p (m:Int)):=by
 unfold yX;rw[sI,sI,sI,sI,sI];by_cases h1:p.ba.length≤12
 ·by_cases h2:p.cm.length≤12
  ·by_cases h3:p.a8.length≤12
   ·by_cases h4:p.ay.length≤12
    ·by_cases h5:p.cl.length≤12
     ·rw[aix h1,aix h2,aix h3,aix h4,aix h5];exact(Qy N m hm hN p hd p.cm 0).mono fun⟨⟨g1,g2⟩,g3⟩=>⟨h1,h2,h3,h4,h5,g3,g2,g1⟩
     ·rw[aix h1,aix h2,aix h3,aix h4,aiy h5];exact⟨true,rfl,fun h=>by cases h⟩
    ·rw[aix h1,aix h2,aix h3,aiy h4];exact⟨true,rfl,fun h=>by cases h⟩
   ·rw[aix h1,aix h2,aiy h3];exact⟨true,rfl,fun h=>by cases h⟩
  ·rw[aix h1,aiy h2];exact⟨true,rfl,fun h=>by cases h⟩
 ·rw[aiy h1];exact⟨true,rfl,fun h=>by cases h⟩
def cO{α:Type}(t:α→α→Bool):aiE α→aiE α→Bool
 |[],[]=>true
 |x::a,y::b=>t x y&&cO t a b
 |_,_=>false
theorem je{α:Type}(t:α→α→Bool):∀a b:aiE α,(a.length==b.length)=false→cO t a b=false
 |[],[],h=>by cases h
 |[],y::b,_=>rfl
 |x::a,[],_=>rfl
 |x::a,y::b,h=>by
  rw[cO,je t a b (by simpa using h),Bool.and_false]
def l9(x y:aD):Bool:=(bL x.ao==bL y.ao)&&((x.dd.toInt==y.dd.toInt)&&true)
def lD(x y:aiF):Bool:=bL x==bL y
def gw(a b:ax):Bool:=(a.xK.toInt==b.xK.toInt)&&cO l9 a.xL b.xL
def mn(a b:cf):Bool:=(a.fM==b.fM)&&gw a.aK b.aK
def kV(a b:bB):Bool:=(a.ck==b.ck)&&((a.cq==b.cq)&&((a.cJ==b.cJ)&&((a.cH==b.cH)&&((a.cK==b.cK)&&true))))
def ER(a b:gg):Bool:=(a.xN.toInt==b.xN.toInt)&&((a.xD.toInt==b.xD.toInt)&&true)
def ph(a b:bX):Bool:=(bL a.ao==bL b.ao)&&(kV a.aw b.aw&&cO gw a.aI b.aI)
def lX(a b:bj):Bool:=(bL a.ao==bL b.ao)&&gw a.dB b.dB
def ma(a b:az):Bool:=(bL a.bn==bL b.bn)&&(gw a.aK b.aK&&cO gw a.bp b.bp)
def pN:Nat→aq→aq→Bool
 |0,_,_=>false
 |d+1,a,b=>(a.aX==b.aX)&&((bL a.ao==bL b.ao)&&(ER a.db b.db&&(kV a.aw b.aw&&(gw a.aK b.aK&&(cO ma a.xIdx b.xIdx&&cO (pN d) a.aM b.aM)))))
theorem kR{α:Type}{L:aiE α}{k:Nat}(h:L.drop k=[]):L.length≤k:=by
 by_cases hk:L.length≤k
 ·exact hk
 ·have:=congrArg List.length h;simp at this;omega
theorem PY(N:Nat)(L:aiE aiF):∀(l r:aiE aiF)(k:Nat),L.drop k=r→l.length=r.length→wa N L l k=some (cO lD l r)
 |[],[],_,_,_=>rfl
 |[],y::r,_,_,h=>by simp at h
 |x::l,[],_,_,h=>by simp at h
 |x::l,y::r,k,hd,hl=>by
  rw[wa,aih,aU hd,ahO,PY N L l r (k+1) (eP hd) (by simpa using hl)];rw[cO];show(bif lD x y then _ else _)=_;cases lD x y<;>rfl
theorem Wg(N:Nat)(a b:aiE aiF):zM N a b=some (cO lD a b):=by
 unfold zM;rw[iP];cases h:a.length==b.length with
 |false=>rw[je _ _ _ h];rfl
 |true=>exact PY N b a b 0 rfl (beq_iff_eq.1 h)
theorem Te(N:Nat)(L:aiE aiF):∀(l r:aiE aiF)(k:Nat),L.drop k=r→l.length=r.length→rL N L l k=some (cO lD l r)
 |[],[],_,_,_=>rfl
 |[],y::r,_,_,h=>by simp at h
 |x::l,[],_,_,h=>by simp at h
 |x::l,y::r,k,hd,hl=>by
  rw[rL,aih,aU hd,ahO,Te N L l r (k+1) (eP hd) (by simpa using hl)];rw[cO];show(bif lD x y then _ else _)=_;cases lD x y<;>rfl
theorem OF(N:Nat)(a b:aiE aiF):sO N a b=some (cO lD a b):=by
 unfold sO;rw[iP];cases h:a.length==b.length with
 |false=>rw[je _ _ _ h];rfl
 |true=>exact Te N b a b 0 rfl (beq_iff_eq.1 h)
theorem Nv(N:Nat)(L:aiE aD):∀(l r:aiE aD)(k:Nat),L.drop k=r→l.length=r.length→x7 N L l k=some (cO l9 l r)
 |[],[],_,_,_=>rfl
 |[],y::r,_,_,h=>by simp at h
 |x::l,[],_,_,h=>by simp at h
 |x::l,y::r,k,hd,hl=>by
  rw[x7,aih,aU hd,ahO,Nv N L l r (k+1) (eP hd) (by simpa using hl)];rw[cO];show(bif l9 x y then _ else _)=_;cases l9 x y<;>rfl
theorem eqM(N:Nat)(a b:aiE aD):C6 N a b=some (cO l9 a b):=by
 unfold C6;rw[iP];cases h:a.length==b.length with
 |false=>rw[je _ _ _ h];rfl
 |true=>exact Nv N b a b 0 rfl (beq_iff_eq.1 h)
theorem Mt(N:Nat)(a b:ax):xV N a b=some (gw a b):=by
 unfold xV gw;rw[eqM,ahO];cases a.xK.toInt==b.xK.toInt<;>rfl
theorem OB(N:Nat)(b:ax):∀(l r:aiE aD)(k:Nat),b.xL.drop k=r→l.length=r.length→qu N b l k=some (cO l9 l r)
 |[],[],_,_,_=>rfl
 |[],y::r,_,_,h=>by simp at h
 |x::l,[],_,_,h=>by simp at h
 |x::l,y::r,k,hd,hl=>by
  rw[qu,aih,aU hd,ahO,OB N b l r (k+1) (eP hd) (by simpa using hl)];rw[cO];show(bif l9 x y then _ else _)=_;cases l9 x y<;>rfl
theorem BQ(N:Nat)(a b:ax):n7 N a b=some (gw a b):=by
 unfold n7 gw;rw[iP,show(a.xK.toInt !=b.xK.toInt)= !(a.xK.toInt==b.xK.toInt)from rfl];cases a.xK.toInt==b.xK.toInt with
 |false=>rfl
 |true=>
  cases h:a.xL.length==b.xL.length with
  |false=>rw[je _ _ _ h];rfl
  |true=>exact OB N b a.xL b.xL 0 rfl (beq_iff_eq.1 h)
theorem YU(N:Nat)(a b:cf):DK N a b=some (mn a b):=by
 unfold DK mn;rw[Mt,ahO];cases a.fM==b.fM<;>rfl
theorem abl(N:Nat)(a b:cf):vv N a b=some (mn a b):=by
 unfold vv mn;rw[BQ,ahO];cases a.fM==b.fM<;>rfl
theorem Vc(N:Nat)(L:aiE cf):∀(l r:aiE cf)(k:Nat),L.drop k=r→l.length=r.length→xU N L l k=some (cO mn l r)
 |[],[],_,_,_=>rfl
 |[],y::r,_,_,h=>by simp at h
 |x::l,[],_,_,h=>by simp at h
 |x::l,y::r,k,hd,hl=>by
  rw[xU,aih,aU hd,ahO,YU,ahO,Vc N L l r (k+1) (eP hd) (by simpa using hl)];rw[cO];cases mn x y<;>rfl
theorem eqC(N:Nat)(a b:aiE cf):C0 N a b=some (cO mn a b):=by
 unfold C0;rw[iP];cases h:a.length==b.length with
 |false=>rw[je _ _ _ h];rfl
 |true=>exact Vc N b a b 0 rfl (beq_iff_eq.1 h)
theorem UE(N:Nat)(L:aiE cf):∀(l r:aiE cf)(k:Nat),L.drop k=r→l.length=r.length→pM N L l k=some (cO mn l r)
 |[],[],_,_,_=>rfl
 |[],y::r,_,_,h=>by simp at h
 |x::l,[],_,_,h=>by simp at h
 |x::l,y::r,k,hd,hl=>by
  rw[pM,aih,aU hd,ahO,abl,ahO,UE N L l r (k+1) (eP hd) (by simpa using hl)];rw[cO];cases mn x y<;>rfl
theorem XE(N:Nat)(a b:aiE cf):w9 N a b=some (cO mn a b):=by
 unfold w9;rw[iP];cases h:a.length==b.length with
 |false=>rw[je _ _ _ h];rfl
 |true=>exact UE N b a b 0 rfl (beq_iff_eq.1 h)
theorem VV(N:Nat)(L:aiE ax):∀(l r:aiE ax)(k:Nat),L.drop k=r→l.length=r.length→wb N L l k=some (cO gw l r)
 |[],[],_,_,_=>rfl
 |[],y::r,_,_,h=>by simp at h
 |x::l,[],_,_,h=>by simp at h
 |x::l,y::r,k,hd,hl=>by
  rw[wb,aih,aU hd,ahO,Mt,ahO,VV N L l r (k+1) (eP hd) (by simpa using hl)];rw[cO];cases gw x y<;>rfl
theorem eqN(N:Nat)(a b:aiE ax):BI N a b=some (cO gw a b):=by
 unfold BI;rw[iP];cases h:a.length==b.length with
 |false=>rw[je _ _ _ h];rfl
 |true=>exact VV N b a b 0 rfl (beq_iff_eq.1 h)
theorem O2(N:Nat)(L:aiE ax):∀(l r:aiE ax)(k:Nat),L.drop k=r→l.length=r.length→qe N L l k=some (cO gw l r)
 |[],[],_,_,_=>rfl
 |[],y::r,_,_,h=>by simp at h
 |x::l,[],_,_,h=>by simp at h
 |x::l,y::r,k,hd,hl=>by
  rw[qe,aih,aU hd,ahO,BQ,ahO,O2 N L l r (k+1) (eP hd) (by simpa using hl)];rw[cO];cases gw x y<;>rfl
theorem QC(N:Nat)(a b:aiE ax):tw N a b=some (cO gw a b):=by
 unfold tw;rw[iP];cases h:a.length==b.length with
 |false=>rw[je _ _ _ h];rfl
 |true=>exact O2 N b a b 0 rfl (beq_iff_eq.1 h)
theorem afh(N:Nat)(a b:bX):Et N a b=some (ph a b):=by
 unfold Et ph;rw[eqN,ahO,show((a.aw.ck==b.aw.ck)&&((a.aw.cq==b.aw.cq)&&((a.aw.cJ==b.aw.cJ)&&((a.aw.cH==b.aw.cH)&&((a.aw.cK==b.aw.cK)&&true)))))=kV a.aw b.aw from rfl];cases bL a.ao==bL b.ao<;>cases kV a.aw b.aw<;>rfl
theorem ahg(N:Nat)(a b:bj):D9 N a b=some (lX a b):=by
 unfold D9 lX;rw[Mt,ahO];cases bL a.ao==bL b.ao<;>rfl
theorem Ot(N:Nat)(L:aiE bX):∀(l r:aiE bX)(k:Nat),L.drop k=r→l.length=r.length→xw N L l k=some (cO ph l r)
 |[],[],_,_,_=>rfl
 |[],y::r,_,_,h=>by simp at h
 |x::l,[],_,_,h=>by simp at h
 |x::l,y::r,k,hd,hl=>by
  rw[xw,aih,aU hd,ahO,afh,ahO,Ot N L l r (k+1) (eP hd) (by simpa using hl)];rw[cO];cases ph x y<;>rfl
theorem XT(N:Nat)(a b:aiE bX):Dx N a b=some (cO ph a b):=by
 unfold Dx;rw[iP];cases h:a.length==b.length with
 |false=>rw[je _ _ _ h];rfl
 |true=>exact Ot N b a b 0 rfl (beq_iff_eq.1 h)
theorem Tu(N:Nat)(L:aiE bj):∀(l r:aiE bj)(k:Nat),L.drop k=r→l.length=r.length→vo N L l k=some (cO lX l r)
 |[],[],_,_,_=>rfl
 |[],y::r,_,_,h=>by simp at h
 |x::l,[],_,_,h=>by simp at h
 |x::l,y::r,k,hd,hl=>by
  rw[vo,aih,aU hd,ahO,ahg,ahO,Tu N L l r (k+1) (eP hd) (by simpa using hl)];rw[cO];cases lX x y<;>rfl
theorem OC(N:Nat)(a b:aiE bj):zU N a b=some (cO lX a b):=by
 unfold zU;rw[iP];cases h:a.length==b.length with
 |false=>rw[je _ _ _ h];rfl
 |true=>exact Tu N b a b 0 rfl (beq_iff_eq.1 h)
theorem Rc(N:Nat)(L:aiE bj):∀(l r:aiE bj)(k:Nat),L.drop k=r→l.length=r.length→qn N L l k=some (cO lX l r)
 |[],[],_,_,_=>rfl
 |[],y::r,_,_,h=>by simp at h
 |x::l,[],_,_,h=>by simp at h
 |x::l,y::r,k,hd,hl=>by
  rw[qn,aih,aU hd,ahO,BQ,ahO,Rc N L l r (k+1) (eP hd) (by simpa using hl)];rw[cO];unfold lX;cases bL x.ao==bL y.ao<;>cases gw x.dB y.dB<;>rfl
theorem Qh(N:Nat)(a b:aiE bj):th N a b=some (cO lX a b):=by
 unfold th;rw[iP];cases h:a.length==b.length with
 |false=>rw[je _ _ _ h];rfl
 |true=>exact Rc N b a b 0 rfl (beq_iff_eq.1 h)
theorem TJ:∀l r:aiE UInt8,(Lib.compareBytes l r==0)=(l==r)
 |[],[]=>rfl
 |[],_::_=>rfl
 |_::_,[]=>rfl
 |a::l,b::r=>by
  rw[Lib.compareBytes,List.cons_beq_cons];by_cases h:a<b
  ·rw[if_pos h,show(a==b)=false from beq_eq_false_iff_ne.2 fun e=>by rw[e]at h;exact absurd h (UInt8.lt_irrefl b)];rfl
  ·rw[if_neg h];by_cases h2:b<a
   ·rw[if_pos h2,show(a==b)=false from beq_eq_false_iff_ne.2 fun e=>by rw[e]at h2;exact absurd h2 (UInt8.lt_irrefl b)];rfl
   ·rw[if_neg h2,TJ l r,show a=b from UInt8.le_antisymm (UInt8.not_lt.1 h2) (UInt8.not_lt.1 h),aiz,Bool.true_and]
def Cz(t:Bool)(r:aiG Int):Prop:=∃c,r=some c∧(c==0)=t
theorem JZ(N:Nat)(a b:aiF):Cz (bL a==bL b) (CD N a b):=⟨_,rfl,TJ _ _⟩
theorem rH(N:Nat)(a b:Int):Cz (a==b) (mg N a b):=by
 unfold mg Ey;rw[bne_self_eq_false,bne_self_eq_false];simp only[ahO,cond_false];by_cases h:a<b
 ·rw[aix h];exact⟨-1,rfl,(beq_eq_false_iff_ne.2 (by omega)).symm⟩
 ·rw[aiy h];by_cases h2:a>b
  ·rw[aix h2];exact⟨1,rfl,(beq_eq_false_iff_ne.2 (by omega)).symm⟩
  ·rw[aiy h2];exact⟨0,rfl,(beq_iff_eq.2 (by omega)).symm⟩
theorem Oz(N:Nat)(a b:Int64):Cz (a.toInt==b.toInt) (ym N a b):=by
 unfold ym Ee;rw[bne_self_eq_false,bne_self_eq_false];simp only[ahO,cond_false];by_cases h:a.toInt<b.toInt
 ·rw[aix h];exact⟨-1,rfl,(beq_eq_false_iff_ne.2 (by omega)).symm⟩
 ·rw[aiy h];by_cases h2:a.toInt>b.toInt
  ·rw[aix h2];exact⟨1,rfl,(beq_eq_false_iff_ne.2 (by omega)).symm⟩
  ·rw[aiy h2];exact⟨0,rfl,(beq_iff_eq.2 (by omega)).symm⟩
theorem U5(N:Nat)(a b:Int64):Cz (a.toInt==b.toInt) (Ad N a b):=by
 unfold Ad;by_cases h:a.toInt<b.toInt
 ·rw[aix h];exact⟨-1,rfl,(beq_eq_false_iff_ne.2 (by omega)).symm⟩
 ·rw[aiy h];by_cases h2:a.toInt>b.toInt
  ·rw[aix h2];exact⟨1,rfl,(beq_eq_false_iff_ne.2 (by omega)).symm⟩
  ·rw[aiy h2];exact⟨0,rfl,(beq_iff_eq.2 (by omega)).symm⟩
theorem Ns(N:Nat):∀(l:aiE Int)(k:Nat),Cz (l.all (·==0)) (xW N l k)
 |[],_=>⟨0,rfl,rfl⟩
 |x::l,k=>by
  rw[xW,aiA];cases h:x==0 with
  |false=>rw[show(x !=0)=true by unfold bne;rw[h];rfl];exact⟨x,rfl,h⟩
  |true=>rw[show(x !=0)=false by unfold bne;rw[h];rfl];exact Ns N l (k+1)
theorem m6{c:Int}{t:Bool}(h:(c==0)=t):(c !=0)= !t:=by unfold bne;rw[h]
theorem Yn(N:Nat)(a b:aD):Cz (l9 a b) (Eu N a b):=by
 unfold Eu l9;cases h:bL a.ao==bL b.ao with
 |true=>
  obtain⟨c,e1,e2⟩:=U5 N a.dd b.dd;rw[e1];exact⟨c,rfl,by rw[e2];cases a.dd.toInt==b.dd.toInt<;>rfl⟩
 |false=>
  obtain⟨c,e1,e2⟩:=JZ N a.ao b.ao;rw[e1];exact⟨c,rfl,by rw[e2,h];rfl⟩
theorem Th(N:Nat)(A B:aiE aD):∀(l r:aiE aD)(k:Nat),k≤A.length→A.drop k=l→B.drop k=r→Cz (cO l9 l r) (oK N A B l k)
 |[],[],k,hk,ha,hb=>by
  have h1:=kR ha;have h2:=kR hb;rw[oK,aiy (show ¬(A.length:Int)<(B.length:Int) by omega)];exact⟨0,rfl,rfl⟩
 |[],y::r,k,hk,ha,hb=>by
  have h1:=kR ha;have h2:=ke hb;rw[oK,aix (show(A.length:Int)<(B.length:Int) by omega)];exact⟨-1,rfl,rfl⟩
 |x::l,[],k,hk,ha,hb=>by
  have h2:=kR hb;rw[oK,aix (show(k:Int)≥(B.length:Int) by omega)];exact⟨1,rfl,rfl⟩
 |x::l,y::r,k,hk,ha,hb=>by
  have h2:=ke hb;have h3:=ke ha;obtain⟨c,e1,e2⟩:=Yn N x y;rw[oK,aiy (show ¬(k:Int)≥(B.length:Int) by omega),cond_false,aih,aU hb,ahO,e1,ahO,m6 e2,cO];cases h:l9 x y with
  |false=>rw[h]at e2;exact⟨c,rfl,e2⟩
  |true=>exact Th N A B l r (k+1) (by omega) (eP ha) (eP hb)
theorem Jz(N:Nat)(a b:ax):Cz (gw a b) (xM N a b):=by
 unfold xM HL gw;obtain⟨c,e1,e2⟩:=Th N a.xL b.xL a.xL b.xL 0 (Nat.zero_le _) rfl rfl;rw[e1,ahO,m6 e2];cases h:cO l9 a.xL b.xL with
 |false=>rw[h]at e2;exact⟨c,rfl,by rw[e2,Bool.and_false]⟩
 |true=>
  obtain⟨c',f1,f2⟩:=U5 N a.xK b.xK;rw[f1];exact⟨c',rfl,by rw[f2,Bool.and_true]⟩
theorem SZ(N:Nat)(A B:aiE ax):∀(l r:aiE ax)(k:Nat),k≤A.length→A.drop k=l→B.drop k=r→Cz (cO gw l r) (pG N A B l k)
 |[],[],k,hk,ha,hb=>by
  have h1:=kR ha;have h2:=kR hb;rw[pG,aiy (show ¬(A.length:Int)<(B.length:Int) by omega)];exact⟨0,rfl,rfl⟩
 |[],y::r,k,hk,ha,hb=>by
  have h1:=kR ha;have h2:=ke hb;rw[pG,aix (show(A.length:Int)<(B.length:Int) by omega)];exact⟨-1,rfl,rfl⟩
 |x::l,[],k,hk,ha,hb=>by
  have h2:=kR hb;rw[pG,aix (show(k:Int)≥(B.length:Int) by omega)];exact⟨1,rfl,rfl⟩
 |x::l,y::r,k,hk,ha,hb=>by
  have h2:=ke hb;have h3:=ke ha;obtain⟨c,e1,e2⟩:=Jz N x y;rw[pG,aiy (show ¬(k:Int)≥(B.length:Int) by omega),cond_false,aih,aU hb,ahO,e1,ahO,m6 e2,cO];cases h:gw x y with
  |false=>rw[h]at e2;exact⟨c,rfl,e2⟩
  |true=>exact SZ N A B l r (k+1) (by omega) (eP ha) (eP hb)
theorem YG(N:Nat)(a b:aiE ax):Cz (cO gw a b) (EH N a b):=by
 unfold EH FE;obtain⟨c,e1,e2⟩:=rH N (a.length:Int) (b.length:Int);rw[pE]at e2;rw[e1,ahO,m6 e2];cases h:a.length==b.length with
 |false=>rw[h]at e2;exact⟨c,rfl,by rw[e2,je _ _ _ h]⟩
 |true=>
  obtain⟨c',f1,f2⟩:=SZ N a b a b 0 (Nat.zero_le _) rfl rfl;rw[f1];exact⟨c',rfl,f2⟩
theorem abx(N:Nat)(a b:az):Cz (ma a b) (B8 N a b):=by
 unfold B8 ma;obtain⟨c,e1,e2⟩:=JZ N a.bn b.bn;obtain⟨c',f1,f2⟩:=Jz N a.aK b.aK;obtain⟨c2,k1,k2⟩:=YG N a.bp b.bp;rw[e1,f1,k1,ahO,ahO,ahO,m6 e2,m6 f2];cases h:bL a.bn==bL b.bn with
 |false=>rw[h]at e2;exact⟨c,rfl,e2⟩
 |true=>
  cases h2:gw a.aK b.aK with
  |false=>rw[h2]at f2;exact⟨c',rfl,f2⟩
  |true=>exact⟨c2,rfl,k2⟩
theorem Vf(N:Nat)(A B:aiE az):∀(l r:aiE az)(k:Nat),k≤A.length→A.drop k=l→B.drop k=r→Cz (cO ma l r) (pI N A B l k)
 |[],[],k,hk,ha,hb=>by
  have h1:=kR ha;have h2:=kR hb;rw[pI,aiy (show ¬(A.length:Int)<(B.length:Int) by omega)];exact⟨0,rfl,rfl⟩
 |[],y::r,k,hk,ha,hb=>by
  have h1:=kR ha;have h2:=ke hb;rw[pI,aix (show(A.length:Int)<(B.length:Int) by omega)];exact⟨-1,rfl,rfl⟩
 |x::l,[],k,hk,ha,hb=>by
  have h2:=kR hb;rw[pI,aix (show(k:Int)≥(B.length:Int) by omega)];exact⟨1,rfl,rfl⟩
 |x::l,y::r,k,hk,ha,hb=>by
  have h2:=ke hb;have h3:=ke ha;obtain⟨c,e1,e2⟩:=abx N x y;rw[pI,aiy (show ¬(k:Int)≥(B.length:Int) by omega),cond_false,aih,aU hb,ahO,e1,ahO,m6 e2,cO];cases h:ma x y with
  |false=>rw[h]at e2;exact⟨c,rfl,e2⟩
  |true=>exact Vf N A B l r (k+1) (by omega) (eP ha) (eP hb)
theorem aff(N:Nat)(a b:aiE az):Cz (cO ma a b) (Em N a b):=by
 unfold Em GV;obtain⟨c,e1,e2⟩:=rH N (a.length:Int) (b.length:Int);rw[pE]at e2;rw[e1,ahO,m6 e2];cases h:a.length==b.length with
 |false=>rw[h]at e2;exact⟨c,rfl,by rw[e2,je _ _ _ h]⟩
 |true=>
  obtain⟨c',f1,f2⟩:=Vf N a b a b 0 (Nat.zero_le _) rfl rfl;rw[f1];exact⟨c',rfl,f2⟩
theorem ael(N:Nat)(a b:bB):Cz (kV a b) (CQ N a b):=by
 unfold CQ yD kV;obtain⟨c1,e1,f1⟩:=rH N a.ck b.ck;obtain⟨c2,e2,f2⟩:=rH N a.cq b.cq;obtain⟨c3,e3,f3⟩:=rH N a.cJ b.cJ;obtain⟨c4,e4,f4⟩:=rH N a.cH b.cH;obtain⟨c5,e5,f5⟩:=rH N a.cK b.cK;obtain⟨c,e,f⟩:=Ns N [c1,c2,c3,c4,c5] 0;rw[e1,e2,e3,e4,e5];simp only[ahO];rw[e];refine⟨c,rfl,?_⟩;rw[f];simp only[aiA,List.all_nil,f1,f2,f3,f4,f5]
theorem UO(N:Nat)(A B:aiE aq)(rec:aq→aq→aiG Int)(t:aq→aq→Bool)(hr:∀x∈A,∀y,Cz (t x y) (rec x y)):∀(l r:aiE aq)(k:Nat),k≤A.length→A.drop k=l→B.drop k=r→Cz (cO t l r) (oM N A B rec l k)
 |[],[],k,hk,ha,hb=>by
  have h1:=kR ha;have h2:=kR hb;rw[oM,aiy (show ¬(A.length:Int)<(B.length:Int) by omega)];exact⟨0,rfl,rfl⟩
 |[],y::r,k,hk,ha,hb=>by
  have h1:=kR ha;have h2:=ke hb;rw[oM,aix (show(A.length:Int)<(B.length:Int) by omega)];exact⟨-1,rfl,rfl⟩
 |x::l,[],k,hk,ha,hb=>by
  have h2:=kR hb;rw[oM,aix (show(k:Int)≥(B.length:Int) by omega)];exact⟨1,rfl,rfl⟩
 |x::l,y::r,k,hk,ha,hb=>by
  have h2:=ke hb;have h3:=ke ha;obtain⟨c,e1,e2⟩:=hr x (rV (aU ha)) y;rw[oM,aiy (show ¬(k:Int)≥(B.length:Int) by omega),cond_false,aih,aU hb,ahO,e1,ahO,m6 e2,cO];cases h:t x y with
  |false=>rw[h]at e2;exact⟨c,rfl,e2⟩
  |true=>exact UO N A B rec t hr l r (k+1) (by omega) (eP ha) (eP hb)
theorem V1(N:Nat):∀(d:Nat)(a b:aq)(D:Nat),SizeOf.sizeOf a<d→3*d≤D→Cz (pN d a b) (pZ N D a b)
 |0,_,_,_,h,_=>absurd h (aii _)
 |d+1,a,b,D,h,hD=>by
  obtain⟨D,rfl⟩:∃k,D=k+3:=⟨D-3,by omega⟩;rw[pZ,Bl,CP,pN];obtain⟨c1,e1,f1⟩:=rH N a.aX b.aX;obtain⟨c2,e2,f2⟩:=JZ N a.ao b.ao;obtain⟨c3,e3,f3⟩:=Oz N a.db.xN b.db.xN;obtain⟨c4,e4,f4⟩:=Oz N a.db.xD b.db.xD;obtain⟨c5,e5,f5⟩:=ael N a.aw b.aw;obtain⟨c6,e6,f6⟩:=Jz N a.aK b.aK;obtain⟨c,e,f⟩:=Ns N [c1,c2,c3,c4,c5,c6] 0;obtain⟨c7,e7,f7⟩:=aff N a.xIdx b.xIdx;obtain⟨c8,e8,f8⟩:=rH N (a.aM.length:Int) (b.aM.length:Int);obtain⟨c9,e9,f9⟩:=UO N a.aM b.aM (pZ N D) (pN d) (fun x hx y=>V1 N d x y D (by have:=j6 hx;omega) (by omega)) a.aM b.aM 0 (Nat.zero_le _) rfl rfl;rw[pE]at f8;unfold yD;rw[e1,e2,e3,e4,e5,e6];simp only[ahO];rw[e,e7,e8,e9];simp only[ahO];simp only[aiA,List.all_nil,f1,f2,f3,f4,f5,f6]at f;rw[m6 f,m6 f7,m6 f8];unfold ER;generalize (a.aX==b.aX)=t1 at*;generalize (bL a.ao==bL b.ao)=t2 at*;generalize (a.db.xN.toInt==b.db.xN.toInt)=t3 at*;generalize (a.db.xD.toInt==b.db.xD.toInt)=t4 at*;generalize kV a.aw b.aw=t5 at*;generalize gw a.aK b.aK=t6 at*;cases hh:t1&&(t2&&(t3&&(t4&&(t5&&(t6&&true)))))with
  |false=>
   rw[hh]at f;refine⟨c,rfl,?_⟩;rw[f];revert hh;cases t1<;>cases t2<;>cases t3<;>cases t4<;>cases t5<;>cases t6<;>first|(intro _;rfl)|(intro h;cases h)
  |true=>
   have ht:t1=true∧t2=true∧t3=true∧t4=true∧t5=true∧t6=true:=by
    revert hh;cases t1<;>cases t2<;>cases t3<;>cases t4<;>cases t5<;>cases t6<;>first|(intro _;exact⟨rfl,rfl,rfl,rfl,rfl,rfl⟩)|(intro h;cases h)
   obtain⟨rfl,rfl,rfl,rfl,rfl,rfl⟩:=ht;cases h7:cO ma a.xIdx b.xIdx with
   |false=>rw[h7]at f7;exact⟨c7,rfl,f7⟩
   |true=>
    cases h8:a.aM.length==b.aM.length with
    |false=>rw[h8]at f8;exact⟨c8,rfl,by rw[f8,je _ _ _ h8];rfl⟩
    |true=>exact⟨c9,rfl,by rw[f9];rfl⟩
theorem afi(N:Nat)(a b:az):xf N a b=some (ma a b):=by
 unfold xf ma;rw[BQ,QC,ahO,ahO];cases bL a.bn==bL b.bn<;>cases gw a.aK b.aK<;>rfl
theorem Od(N:Nat)(L:aiE az):∀(l r:aiE az)(k:Nat),L.drop k=r→l.length=r.length→ra N L l k=some (cO ma l r)
 |[],[],_,_,_=>rfl
 |[],y::r,_,_,h=>by simp at h
 |x::l,[],_,_,h=>by simp at h
 |x::l,y::r,k,hd,hl=>by
  rw[ra,aih,aU hd,ahO,afi,ahO,Od N L l r (k+1) (eP hd) (by simpa using hl)];rw[cO];cases ma x y<;>rfl
theorem Zm(N:Nat)(a b:aiE az):vV N a b=some (cO ma a b):=by
 unfold vV;rw[iP];cases h:a.length==b.length with
 |false=>rw[je _ _ _ h];rfl
 |true=>exact Od N b a b 0 rfl (beq_iff_eq.1 h)
theorem TO(N:Nat)(L:aiE aq)(rec:aq→aq→aiG Bool)(t:aq→aq→Bool):∀(l r:aiE aq)(k:Nat),(∀x∈l,∀y,rec x y=some (t x y))→L.drop k=r→l.length=r.length→qR N L rec l k=some (cO t l r)
 |[],[],_,_,_,_=>rfl
 |[],y::r,_,_,_,h=>by simp at h
 |x::l,[],_,_,_,h=>by simp at h
 |x::l,y::r,k,hr,hd,hl=>by
  rw[qR,aih,aU hd,ahO,hr x ahV,ahO,TO N L rec t l r (k+1) (fun z hz=>hr z (ahY _ hz)) (eP hd) (by simpa using hl)];rw[cO];cases t x y<;>rfl
theorem Ua(N:Nat):∀(d:Nat)(a b:aq)(D:Nat),SizeOf.sizeOf a<d→3*d≤D→pD N D a b=some (pN d a b)
 |0,_,_,_,h,_=>absurd h (aii _)
 |d+1,a,b,D,h,hD=>by
  obtain⟨D,rfl⟩:∃k,D=k+2:=⟨D-2,by omega⟩;have ha:xC N (D+1) a.aM b.aM=some (cO (pN d) a.aM b.aM):=by
   rw[xC,iP];cases h8:a.aM.length==b.aM.length with
   |false=>rw[je _ _ _ h8];rfl
   |true=>exact TO N b.aM _ (pN d) a.aM b.aM 0 (fun x hx y=>Ua N d x y D (by have:=j6 hx;omega) (by omega)) rfl (beq_iff_eq.1 h8)
  rw[pD,ha,BQ,Zm,pN];rw[show((a.db.xN.toInt==b.db.xN.toInt)&&((a.db.xD.toInt==b.db.xD.toInt)&&true))=ER a.db b.db from rfl,show((a.aw.ck==b.aw.ck)&&((a.aw.cq==b.aw.cq)&&((a.aw.cJ==b.aw.cJ)&&((a.aw.cH==b.aw.cH)&&((a.aw.cK==b.aw.cK)&&true)))))=kV a.aw b.aw from rfl];cases a.aX==b.aX<;>cases bL a.ao==bL b.ao<;>cases ER a.db b.db<;>cases kV a.aw b.aw<;>cases gw a.aK b.aK<;>cases cO ma a.xIdx b.xIdx<;>rfl
def m9(d:Nat)(a b:aG):Bool:=(bL a.ao==bL b.ao)&&(kV a.aw b.aw&&((a.cP==b.cP)&&(cO lX a.aI b.aI&&(cO lX a.bz b.bz&&pN d a.bx b.bx))))
theorem afK(N d:Nat)(hN:3*d≤N)(a b:aG)(h:SizeOf.sizeOf a.bx<d):Cx N a b=some (m9 d a b):=by
 unfold Cx GP LI m9;obtain⟨c,e1,e2⟩:=V1 N d a.bx b.bx N h hN;rw[OC,OC,e1];simp only[ahO];rw[e2,show((a.aw.ck==b.aw.ck)&&((a.aw.cq==b.aw.cq)&&((a.aw.cJ==b.aw.cJ)&&((a.aw.cH==b.aw.cH)&&((a.aw.cK==b.aw.cK)&&true)))))=kV a.aw b.aw from rfl];cases bL a.ao==bL b.ao<;>cases kV a.aw b.aw<;>cases a.cP==b.cP<;>cases cO lX a.aI b.aI<;>cases cO lX a.bz b.bz<;>rfl
theorem aeq(N d:Nat)(hN:3*d≤N)(a b:aG)(h:SizeOf.sizeOf a.bx<d):uK N a b=some (m9 d a b):=by
 unfold uK D4 m9;rw[Qh,Qh,Ua N d a.bx b.bx N h hN];rw[show((a.aw.ck==b.aw.ck)&&((a.aw.cq==b.aw.cq)&&((a.aw.cJ==b.aw.cJ)&&((a.aw.cH==b.aw.cH)&&((a.aw.cK==b.aw.cK)&&true)))))=kV a.aw b.aw from rfl];cases bL a.ao==bL b.ao<;>cases kV a.aw b.aw<;>cases a.cP==b.cP<;>cases cO lX a.aI b.aI<;>cases cO lX a.bz b.bz<;>rfl
theorem RA(N d:Nat)(hN:3*d≤N)(L:aiE aG):∀(l r:aiE aG)(k:Nat),(∀x∈l,SizeOf.sizeOf x.bx<d)→L.drop k=r→l.length=r.length→uJ N L l k=some (cO (m9 d) l r)
 |[],[],_,_,_,_=>rfl
 |[],y::r,_,_,_,h=>by simp at h
 |x::l,[],_,_,_,h=>by simp at h
 |x::l,y::r,k,hs,hd,hl=>by
  rw[uJ,aih,aU hd,ahO,afK N d hN x y (hs x ahV),ahO,RA N d hN L l r (k+1) (fun z hz=>hs z (ahY _ hz)) (eP hd) (by simpa using hl)];rw[cO];cases m9 d x y<;>rfl
theorem Pe(N d:Nat)(hN:3*d≤N)(q:aQ):∀(l r:aiE aG)(k:Nat),(∀x∈l,SizeOf.sizeOf x.bx<d)→q.ay.drop k=r→l.length=r.length→rI N q l k=some (cO (m9 d) l r)
 |[],[],_,_,_,_=>rfl
 |[],y::r,_,_,_,h=>by simp at h
 |x::l,[],_,_,_,h=>by simp at h
 |x::l,y::r,k,hs,hd,hl=>by
  rw[rI,aih,aU hd,ahO,aeq N d hN x y (hs x ahV),ahO,Pe N d hN q l r (k+1) (fun z hz=>hs z (ahY _ hz)) (eP hd) (by simpa using hl)];rw[cO];cases m9 d x y<;>rfl
theorem Sn(N d:Nat)(hN:3*d≤N)(q p:aQ)(hs:∀x∈p.ay,SizeOf.sizeOf x.bx<d)(hD:p.ay.length=q.ay.length):∀(l r:aiE bX)(k:Nat),q.a8.drop k=r→l.length=r.length→o7 N q p l k=some (cO ph l r&&cO (m9 d) p.ay q.ay)
 |[],[],_,_,_=>by rw[o7,Pe N d hN q p.ay q.ay 0 hs rfl hD,cO,Bool.true_and]
 |[],y::r,_,_,h=>by simp at h
 |x::l,[],_,_,h=>by simp at h
 |x::l,y::r,k,hd,hl=>by
  rw[o7,aih,aU hd,ahO,QC,ahO,Sn N d hN q p hs hD l r (k+1) (eP hd) (by simpa using hl)];rw[cO];unfold ph;rw[show((x.aw.ck==y.aw.ck)&&((x.aw.cq==y.aw.cq)&&((x.aw.cJ==y.aw.cJ)&&((x.aw.cH==y.aw.cH)&&((x.aw.cK==y.aw.cK)&&true)))))=kV x.aw y.aw from rfl];cases bL x.ao==bL y.ao<;>cases kV x.aw y.aw<;>cases cO gw x.aI y.aI<;>rfl
def CV(d:Nat)(p q:aQ):Bool:=cO lD p.ba q.ba&&(cO lD p.cl q.cl&&(cO mn p.cm q.cm&&(cO ph p.a8 q.a8&&cO (m9 d) p.ay q.ay)))
theorem af4(N d:Nat)(hN:3*d≤N)(p q:aQ)(hs:∀x∈p.ay,SizeOf.sizeOf x.bx<d):Dl N p q=some (CV d p q):=by
 have hD:C9 N p.ay q.ay=some (cO (m9 d) p.ay q.ay):=by
  unfold C9;rw[iP];cases h:p.ay.length==q.ay.length with
  |false=>rw[je _ _ _ h];rfl
  |true=>exact RA N d hN q.ay p.ay q.ay 0 hs rfl (beq_iff_eq.1 h)
 unfold Dl CV;rw[Wg,Wg,eqC,XT,hD];simp only[ahO];cases cO lD p.ba q.ba<;>cases cO lD p.cl q.cl<;>cases cO mn p.cm q.cm<;>cases cO ph p.a8 q.a8<;>rfl
theorem acQ(N d:Nat)(hN:3*d≤N)(p q:aQ)(hs:∀x∈p.ay,SizeOf.sizeOf x.bx<d):rZ N p q=some (CV d p q):=by
 unfold rZ CV;rw[OF,OF,XE,iP,iP];simp only[ahO];cases cO lD p.ba q.ba with
 |false=>rfl
 |true=>
  cases cO mn p.cm q.cm with
  |false=>cases cO lD p.cl q.cl<;>rfl
  |true=>
   cases cO lD p.cl q.cl with
   |false=>rfl
   |true=>
    cases h1:p.a8.length==q.a8.length with
    |false=>rw[je _ _ _ h1];rfl
    |true=>
     cases h2:p.ay.length==q.ay.length with
     |false=>rw[je (m9 d) _ _ h2];cases cO ph p.a8 q.a8<;>rfl
     |true=>exact Sn N d hN q p hs (beq_iff_eq.1 h2) p.a8 q.a8 0 rfl (beq_iff_eq.1 h1)
theorem Xh(n:Nat):AA (n+1000)=some true:=by kernel_rfl
theorem jr.bd{e:aq}(h:jr 300 e):l7 e:=fun y hy=>
 ⟨ah7 (h y hy).jj (by decide),ah7 (h y hy).idx (by decide),fun x hx=>⟨ah7 ((h y hy).each x hx).jj (by decide),ah7 ((h y hy).each x hx).at_ (by decide),fun l hl=>ah7 (((h y hy).each x hx).si l hl) (by decide)⟩,ah7 (h y hy).args (by decide)⟩
theorem Zk{N:Nat}{p:aQ}(h:Gg p)(hs:∀d∈p.ay,SizeOf.sizeOf d.bx<N):Bc N p:=
 ⟨⟨ah7 h.s (by decide),ah7 h.w (by decide),ah7 h.q (by decide),ah7 h.d (by decide),ah7 h.o (by decide),
   ⟨fun x hx=>ah7 (h.P x hx).1 (by decide),fun x hx y hy=>ah7 ((h.P x hx).2 y hy) (by decide)⟩,
   ⟨fun d hd=>by have h1:=(h.D d hd).M6;have h2:=(h.D d hd).red;omega,fun d hd y hy=>ah7 ((h.D d hd).agQ y hy) (by decide)⟩,
   fun c hc=>ah7 (h.W c hc) (by decide),fun d hd=>⟨((h.D d hd).body.bd).ok,hs d hd⟩⟩,fun d hd=>⟨(h.D d hd).body.bd,hs d hd⟩⟩
theorem T9(a b:Int):aV (aV a+b)=aV (a+b):=by
 unfold aV;rw[IntKind.wrap_i64,IntKind.wrap_i64,IntKind.wrap_i64];omega
theorem Pl(a b:Int):aV (a+aV b)=aV (a+b):=by
 unfold aV;rw[IntKind.wrap_i64,IntKind.wrap_i64,IntKind.wrap_i64];omega
theorem IV(N:Nat):∀(l:aiE az)(k:Nat)(v:Int),∃c,tI N l k v=some c∧tf N l k (aV (1+v))=some c
 |[],_,v=>⟨_,rfl,rfl⟩
 |x::l,k,v=>by
  rw[tI,tf];cases bL x.bn==bL (bs [])with
  |true=>exact IV N l (k+1) v
  |false=>
   simp only[cond_false];obtain⟨c,h1,h2⟩:=IV N l (k+1) (aV (v+1));refine⟨c,h1,?_⟩;rw[←h2,T9,Pl,show(1:Int)+v+1=1+(v+1) by omega]
theorem UW(N:Nat)(r1 r2:aq→aiG Int):∀(l:aiE aq)(k:Nat)(v:Int),(∀x∈l,∃c,r1 x=some c∧r2 x=some c)→∃c,wW N r1 l k v=some c∧xI N r2 l k (aV (1+v))=some c
 |[],_,v,_=>⟨_,rfl,rfl⟩
 |x::l,k,v,h=>by
  rw[wW,xI];obtain⟨q,e1,e2⟩:=h x ahV;rw[e1,e2,ahO,ahO];obtain⟨c,h1,h2⟩:=UW N r1 r2 l (k+1) (aV (v+q)) fun y hy=>h y (ahY _ hy);refine⟨c,h1,?_⟩;rw[←h2,T9,Pl,show(1:Int)+v+q=1+(v+q) by omega]
theorem R3(N:Nat):∀(d:Nat)(e:aq),SizeOf.sizeOf e<d→∃c,oa N d e=some c∧sM N d e=some c
 |0,_,h=>absurd h (aii _)
 |d+1,e,h=>by
  rw[oa,sM];unfold DR;have e0:aV (1+0)=1:=by decide
  have hi:=IV N e.xIdx 0 0;have ha:=UW N _ _ e.aM 0 0 fun x hx=>R3 N d x (by have:=j6 hx;omega);rw[e0]at hi ha;rw[mc,ahO];cases e.aX==1 with
  |true=>exact⟨_,rfl,rfl⟩
  |false=>
   cases e.aX==2 with
   |true=>exact⟨_,rfl,rfl⟩
   |false=>
    cases e.aX==3 with
    |true=>exact hi
    |false=>exact ha
theorem Cs{d:aG}{l:aiE aG}(h:d∈l):SizeOf.sizeOf d.bx<SizeOf.sizeOf l:=by
 have h1:=List.sizeOf_lt_of_mem h;have h2:SizeOf.sizeOf d.bx<SizeOf.sizeOf d:=by cases d;simp only[aG.mk.sizeOf_spec];omega
 omega
theorem UD(c:Bool)(at_:Nat)(s:aiF):∀(k:Nat)(r:aiE aG),(∀i d,r[i]?=some d→k+i=at_→(bL d.ao==bL s)=false)→da (r.map (·.ao)) s=true→da ((ju c at_ k r).map (·.ao)) s=true
 |_,[],_,h=>by cases h
 |k,x::r,hn,h=>by
  have h':(bL x.ao==bL s||da (r.map (·.ao)) s)=true:=h;have ih:=UD c at_ s (k+1) r fun i d hd e=>hn (i+1) d (by rw[air];exact hd) (by omega);rw[ju];cases hx:bL x.ao==bL s with
  |true=>
   have hk:k≠at_:=fun e=>by rw[hn 0 x rfl (by omega)]at hx;cases hx
   rw[show(k==at_)=false from beq_eq_false_iff_ne.2 hk];show(bL x.ao==bL s||da ((ju c at_ (k+1) r).map (·.ao)) s)=true;rw[hx];rfl
  |false=>
   rw[hx,Bool.false_or]at h';cases !(k==at_)||c with
   |true=>
    show(bL x.ao==bL s||da ((ju c at_ (k+1) r).map (·.ao)) s)=true;rw[ih h',Bool.or_true]
   |false=>exact ih h'
abbrev apart(a b:aG):Prop:=(bL a.ao==bL b.ao)=false
theorem ab9{q:aQ}{s s':aiF}(dj:(bL s==bL s')=false)(hn:(lO q s).map (·.ao)=q.ay.map (·.ao))(hs:da (q.ay.map (·.ao)) s=true)(h:da (q.ay.map (·.ao)) s'=true):da ((mN q s).ay.map (·.ao)) s'=true:=by
 unfold mN;rcases wT (fR s) q.ay with⟨_,h2⟩|⟨j,e,h2,h3,_,h5⟩
 ·rw[zJ]at hs;have:(q.ay.find? fun x=>bL x.ao==bL s)=none:=h2;rw[this]at hs;cases hs
 ·rw[h2];dsimp only;refine UD _ j s' 0 _ (fun i d hd hi=> ?_) (by rw[hn];exact h);obtain rfl:i=j:=by omega
  have e1:((lO q s).map (·.ao))[i]?=some d.ao:=by rw[ahW,hd];rfl
  rw[hn,ahW,h3]at e1;have e2:e.ao=d.ao:=ah8 e1;have e3:bL e.ao=bL s:=beq_iff_eq.1 h5;rw[←e2,e3];exact dj
noncomputable def oI:aiE aG→aQ→Nat
 |[],q=>2*SizeOf.sizeOf q.ay+2
 |d::l,q=>2*SizeOf.sizeOf q.ay+3*SizeOf.sizeOf (lO q d.ao)+4+oI l q+oI l (mN q d.ao)
theorem abk:∀(l:aiE aG)(q:aQ),2*SizeOf.sizeOf q.ay+2≤oI l q
 |[],q=>by rw[oI];omega
 |d::l,q=>by rw[oI];omega
theorem MS{N:Nat}(hN:2147483648<N)(o0:Int):∀(l:aiE aG)(k1 k2:Nat)(n:Int)(q:aQ),Bc N q→(∀i d,q.ay[i]?=some d→nG q i d)→q.ba.length≤64→(∀d∈l,da (q.ay.map (·.ao)) d.ao=true)→l.Pairwise apart→oI l q<N→
 ∃r n',qp N o0 l k1 n q.ba q.cm q.a8 q.ay q.cl=some (r,n')∧rb N o0 l k2 n q.ba q.cm q.a8 q.ay q.cl=some (r,n')∧∀d∈r.ay,2*SizeOf.sizeOf d.bx+2<N
 |[],k1,k2,n,q,_,_,_,_,_,hl=>⟨q,n,rfl,rfl,fun d hd=>by have:=Cs hd;rw[oI]at hl;omega⟩
 |d::l,k1,k2,n,q,B,G,hS,hH,hP,hl=>by
  rw[oI]at hl;obtain⟨hP1,N7⟩:=List.pairwise_cons.1 hP;have hd:=hH d ahV;have stay:=fun k1 k2=>MS hN o0 l k1 k2 n q B G hS (fun x hx=>hH x (ahY _ hx)) N7 (by omega);rw[qp,rb,IN,IQ,ahO,ahO];dsimp only;rcases wT (fR d.ao) q.ay with⟨_,h2⟩|⟨j,e,h2,h3,_,h5⟩
  ·rw[zJ]at hd;have:(q.ay.find? fun x=>bL x.ao==bL d.ao)=none:=h2;rw[this]at hd;cases hd
  ·have A9:ly q.ay d.ao 0=(j:Int):=by unfold ly;rw[h2];dsimp only;rw[ah9]
   obtain⟨c,c1,c2⟩:=R3 N N e.bx (B.E e (rV h3)).2;have c1':Mf N e.bx=some c:=c1;have c2':KU N e.bx=some c:=c2;rw[A9,show decide ((j:Int)<0)=false from aiy (by omega),show decide ((0:Int)≤(j:Int))=true from aix (by omega),aih,h3];simp only[cond_true,cond_false,ahO];rw[c1',c2',ahO,ahO,ahO];cases hc:decide (c>o0)with
   |true=>exact stay (k1+1) (k2+1)
   |false=>
    have kD:∀x∈lO q d.ao,2*SizeOf.sizeOf x.bx+2<N:=fun x hx=>by have:=Cs hx;omega
    obtain⟨r,x,o1,o2,_,o4⟩:=ahc hN B d.ao hS kD;have XZ:wD N ⟨q.ba,q.cm,q.a8,q.ay,q.cl⟩ d.ao=some (r,x):=o1;have nJ:zi N ⟨q.ba,q.cm,q.a8,q.ay,q.cl⟩ d.ao=some (r,x):=o2;simp only[cond_false];rw[XZ,nJ,ahO,ahO];dsimp only;cases hx:x==(0:Int)with
    |false=>exact stay (k1+1) (k2+1)
    |true=>
     obtain⟨hr,hn,Br,Gr⟩:=o4 (beq_iff_eq.1 hx);subst hr;have gp:∀y∈(mN q d.ao).ay,SizeOf.sizeOf y.bx<SizeOf.sizeOf (lO q d.ao)+1:=fun y hy=>by
      have:y∈lO q d.ao:=by
       unfold mN at hy;rw[h2]at hy;exact M0 _ _ _ _ _ hy
      have:=Cs this;omega
     have s1:=af4 N (SizeOf.sizeOf (lO q d.ao)+1) (by omega) (mN q d.ao) ⟨q.ba,q.cm,q.a8,q.ay,q.cl⟩ gp;have s2:=acQ N (SizeOf.sizeOf (lO q d.ao)+1) (by omega) (mN q d.ao) ⟨q.ba,q.cm,q.a8,q.ay,q.cl⟩ gp;simp only[cond_true];rw[s1,s2,ahO,ahO,ahO];cases CV (SizeOf.sizeOf (lO q d.ao)+1) (mN q d.ao) ⟨q.ba,q.cm,q.a8,q.ay,q.cl⟩with
     |true=>exact stay (k1+1) (k2+1)
     |false=>exact MS hN o0 l (k1+1) (k2+1) (aV (n+1)) (mN q d.ao) Br Gr hS (fun y hy=>ab9 (hP1 y hy) hn hd (hH y (ahY _ hy))) N7 (by omega)
theorem Yj{p:aQ}(G:∀i d,p.ay[i]?=some d→nG p i d):p.ay.Pairwise apart:=by
 refine List.pairwise_iff_getElem.2 fun i j hi hj mh=> ?_;have:=(G j p.ay[j] (ahT hj)).Gv;rw[Bool.eq_false_iff]at this;refine Bool.eq_false_iff.2 fun h=> ?_;refine this (List.any_eq_true.2 ⟨p.ay[i].ao,List.mem_map.2 ⟨p.ay[i],?_,rfl⟩,h⟩);exact List.mem_iff_getElem?.2 ⟨i,by rw[List.getElem?_take_of_lt mh];exact ahT hi⟩
theorem aeY{l:aiE aiF}{s:aiF}(h:s∈l):da l s=true:=List.any_eq_true.2 ⟨s,h,aiz _⟩
theorem aeO(N:Nat)(p:aQ)(o0:Int)(hN:2147483648<N)(hd:∀d∈p.ay,jr ov d.bx∧SizeOf.sizeOf d.bx<N)(kD:oI p.ay p<N):
 E4 N p o0=some true:=by
 have ex:AA N=some true:=by
  obtain⟨n,rfl⟩:∃n,N=n+1000:=⟨N-1000,by omega⟩;exact Xh n
 obtain⟨b,l1,l2⟩:=ZY N 60 (by decide) (by omega) p hd;unfold E4;have l1:yX N p 60=some b:=l1;rw[l1,ahO,ex];cases b with
 |true=>rfl
 |false=>
  simp only[cond_false,ahO];cases decide ((p.ay.length:Int)>6)with
  |true=>rfl
  |false=>
   have hS:=l2 rfl;have B:=Zk hS fun d eQ=>(hd d eQ).2;have both:∃r n,Ar N p o0=some (r,n)∧Cu N p o0=some (r,n)∧∀d∈r.ay,2*SizeOf.sizeOf d.bx+2<N:=by
    have gp:∀d∈p.ay,2*SizeOf.sizeOf d.bx+2<N:=fun d eQ=>by
     have h1:=Cs eQ;have h2:=abk p.ay p;omega
    obtain⟨a,x,v1,v2,v3⟩:=Im hN B.b;unfold Ar Cu;rw[HX B,v1,v2,ahO,ahO];dsimp only;rw[jY,cond_true,ahO];dsimp only;cases hx:x !=0 with
    |true=>exact⟨p,0,rfl,rfl,gp⟩
    |false=>
     have G:=v3 (ic hx);exact MS hN o0 p.ay 0 0 0 p B G (ah7 hS.s (by decide)) (fun d eQ=>aeY (List.mem_map.2 ⟨d,eQ,rfl⟩)) (Yj G) kD
   obtain⟨r,n,a1,a2,a3⟩:=both;rw[a1,a2];simp only[cond_false,ahO,aiz,cond_true];rw[aed N r a3];rfl
def tF(k:IntKind)(n:Int):Prop:=k.min≤n∧n≤k.max
theorem Ib{n:Int}(h:tF .i64 n):∃m:Int64,n=m.toInt:=by
 refine⟨Int64.ofInt n,?_⟩;have h1:aV n=n:=by
  unfold aV;rw[IntKind.wrap_i64];have h2: -9223372036854775808≤n:=h.1;have h3:n≤9223372036854775807:=h.2;omega
 rw[Int64.toInt_ofInt,←Ag];exact h1.symm
theorem PO{p:aiE D}:∀{l:aiE (aiE D)},p∈l→SizeOf.sizeOf p≤SizeOf.sizeOf l.flatten
 |[],h=>by cases h
 |q::l,h=>by
  have app:∀a b:aiE D,SizeOf.sizeOf a≤SizeOf.sizeOf (a++b)∧SizeOf.sizeOf b≤SizeOf.sizeOf (a++b):=by
   intro a b
   induction a with
   |nil=>cases b<;>simp only[List.nil_append,List.nil.sizeOf_spec,List.cons.sizeOf_spec]<;>omega
   |cons x a ih=>simp only[List.cons_append,List.cons.sizeOf_spec];omega
  rw[List.flatten_cons];rcases aik.1 h with rfl|h
  ·exact(app _ _).1
  ·exact ah7 (PO h) (app _ _).2
theorem Vv{xs:aiE D}(h:eB Tryz.prog 22 xs):∃l:aiE aiF,xs=[.sl (aB l)]∧(l.length≤140737488355328∧∀a∈l,a.size≤maxLen):=by
 obtain⟨l,rfl,hl,hs⟩:=h.q8 Tryz.underlying22;obtain⟨r,rfl,hr⟩:=oC (f:=cX) (Q:=fun a=>a.size≤maxLen) l (fun x hx=>by
  obtain⟨n_x,rfl,w_x⟩:=(hs x hx).vm Tryz.underlying9;exact⟨n_x,rfl,w_x⟩)
 exact⟨r,by rw[mz],by simpa using hl,hr⟩
structure HF(x:aD):Prop where
 h0:x.ao.size≤maxLen
 h1:True
theorem aaI{xs:aiE D}(h:eB Tryz.prog 92 xs):∃x:aD,xs=wc x∧HF x:=by
 obtain⟨parts,rfl,hl,hx⟩:=h.ng Tryz.underlying92
 match parts,hl with
 |[a0,a1],_=>
 obtain⟨jw,rfl,iR⟩:=(hx 0 _ _ rfl rfl).vm Tryz.underlying9;obtain⟨jF,rfl,jJ⟩:=(hx 1 _ _ rfl rfl).nc Tryz.underlying2;obtain⟨Jh,rfl⟩:=Ib jJ;exact⟨⟨jw,Jh⟩,rfl,⟨iR,trivial⟩⟩
theorem ag9{xs:aiE D}(h:eB Tryz.prog 46 xs):∃l:aiE aD,xs=[.sl (bP l)]∧(l.length≤140737488355328∧∀a∈l,HF a):=by
 obtain⟨l,rfl,hl,hs⟩:=h.q8 Tryz.underlying46;obtain⟨r,rfl,hr⟩:=oC (f:=wc) (Q:=fun a=>HF a) l (fun x hx=>aaI (hs x hx));exact⟨r,by rw[pR],by simpa using hl,hr⟩
structure p6(x:ax):Prop where
 h0:True
 h1:x.xL.length≤140737488355328∧∀a∈x.xL,HF a
theorem DY{xs:aiE D}(h:eB Tryz.prog 48 xs):∃x:ax,xs=j0 x∧p6 x:=by
 obtain⟨parts,rfl,hl,hx⟩:=h.ng Tryz.underlying48
 match parts,hl with
 |[a0,a1],_=>
 obtain⟨jw,rfl,iR⟩:=(hx 0 _ _ rfl rfl).nc Tryz.underlying2;obtain⟨M9,rfl⟩:=Ib iR;obtain⟨jF,rfl,jJ⟩:=ag9 (hx 1 _ _ rfl rfl);exact⟨⟨M9,jF⟩,rfl,⟨trivial,jJ⟩⟩
structure GH(x:cf):Prop where
 h0:p6 x.aK
 h1:True
theorem aas{xs:aiE D}(h:eB Tryz.prog 57 xs):∃x:cf,xs=CG x∧GH x:=by
 obtain⟨parts,rfl,hl,hx⟩:=h.ng Tryz.underlying57
 match parts,hl with
 |[a0,a1],_=>
 obtain⟨jw,rfl,iR⟩:=DY (hx 0 _ _ rfl rfl);obtain⟨jF,rfl⟩:=(hx 1 _ _ rfl rfl).aeQ Tryz.underlying4;exact⟨⟨jw,jF⟩,rfl,⟨iR,trivial⟩⟩
theorem Z8{xs:aiE D}(h:eB Tryz.prog 23 xs):∃l:aiE cf,xs=[.sl (bG l)]∧(l.length≤140737488355328∧∀a∈l,GH a):=by
 obtain⟨l,rfl,hl,hs⟩:=h.q8 Tryz.underlying23;obtain⟨r,rfl,hr⟩:=oC (f:=CG) (Q:=fun a=>GH a) l (fun x hx=>aas (hs x hx));exact⟨r,by rw[xn],by simpa using hl,hr⟩
structure Fc(x:bB):Prop where
 h0:tF .i64 x.ck
 h1:tF .i64 x.cq
 h2:tF .i64 x.cJ
 h3:tF .i64 x.cH
 h4:tF .i64 x.cK
theorem JM{xs:aiE D}(h:eB Tryz.prog 42 xs):∃x:bB,xs=FG x∧Fc x:=by
 obtain⟨parts,rfl,hl,hx⟩:=h.ng Tryz.underlying42
 match parts,hl with
 |[a0,a1,a2,a3,a4],_=>
 obtain⟨jw,rfl,iR⟩:=(hx 0 _ _ rfl rfl).nc Tryz.underlying3;obtain⟨jF,rfl,jJ⟩:=(hx 1 _ _ rfl rfl).nc Tryz.underlying3;obtain⟨nK,rfl,nk⟩:=(hx 2 _ _ rfl rfl).nc Tryz.underlying3;obtain⟨vP,rfl,xt⟩:=(hx 3 _ _ rfl rfl).nc Tryz.underlying3;obtain⟨vQ,rfl,wC⟩:=(hx 4 _ _ rfl rfl).nc Tryz.underlying3;exact⟨⟨jw,jF,nK,vP,vQ⟩,rfl,⟨iR,jJ,nk,xt,wC⟩⟩
theorem Pk{xs:aiE D}(h:eB Tryz.prog 58 xs):∃l:aiE ax,xs=[.sl (cz l)]∧(l.length≤140737488355328∧∀a∈l,p6 a):=by
 obtain⟨l,rfl,hl,hs⟩:=h.q8 Tryz.underlying58;obtain⟨r,rfl,hr⟩:=oC (f:=j0) (Q:=fun a=>p6 a) l (fun x hx=>DY (hs x hx));exact⟨r,by rw[rK],by simpa using hl,hr⟩
structure Fs(x:bX):Prop where
 h0:x.ao.size≤maxLen
 h1:Fc x.aw
 h2:x.aI.length≤140737488355328∧∀a∈x.aI,p6 a
theorem Xw{xs:aiE D}(h:eB Tryz.prog 60 xs):∃x:bX,xs=DM x∧Fs x:=by
 obtain⟨parts,rfl,hl,hx⟩:=h.ng Tryz.underlying60
 match parts,hl with
 |[a0,a1,a2],_=>
 obtain⟨jw,rfl,iR⟩:=(hx 0 _ _ rfl rfl).vm Tryz.underlying9;obtain⟨jF,rfl,jJ⟩:=JM (hx 1 _ _ rfl rfl);obtain⟨nK,rfl,nk⟩:=Pk (hx 2 _ _ rfl rfl);exact⟨⟨jw,jF,nK⟩,rfl,⟨iR,jJ,nk⟩⟩
theorem XR{xs:aiE D}(h:eB Tryz.prog 24 xs):∃l:aiE bX,xs=[.sl (bI l)]∧(l.length≤140737488355328∧∀a∈l,Fs a):=by
 obtain⟨l,rfl,hl,hs⟩:=h.q8 Tryz.underlying24;obtain⟨r,rfl,hr⟩:=oC (f:=DM) (Q:=fun a=>Fs a) l (fun x hx=>Xw (hs x hx));exact⟨r,by rw[uW],by simpa using hl,hr⟩
structure AU(x:bj):Prop where
 h0:x.ao.size≤maxLen
 h1:p6 x.dB
theorem agH{xs:aiE D}(h:eB Tryz.prog 64 xs):∃x:bj,xs=Dd x∧AU x:=by
 obtain⟨parts,rfl,hl,hx⟩:=h.ng Tryz.underlying64
 match parts,hl with
 |[a0,a1],_=>
 obtain⟨jw,rfl,iR⟩:=(hx 0 _ _ rfl rfl).vm Tryz.underlying9;obtain⟨jF,rfl,jJ⟩:=DY (hx 1 _ _ rfl rfl);exact⟨⟨jw,jF⟩,rfl,⟨iR,jJ⟩⟩
theorem N3{xs:aiE D}(h:eB Tryz.prog 43 xs):∃l:aiE bj,xs=[.sl (cu l)]∧(l.length≤140737488355328∧∀a∈l,AU a):=by
 obtain⟨l,rfl,hl,hs⟩:=h.q8 Tryz.underlying43;obtain⟨r,rfl,hr⟩:=oC (f:=Dd) (Q:=fun a=>AU a) l (fun x hx=>agH (hs x hx));exact⟨r,by rw[vC],by simpa using hl,hr⟩
structure VL(x:gg):Prop where
 h0:True
 h1:True
theorem afr{xs:aiE D}(h:eB Tryz.prog 45 xs):∃x:gg,xs=ZQ x∧VL x:=by
 obtain⟨parts,rfl,hl,hx⟩:=h.ng Tryz.underlying45
 match parts,hl with
 |[a0,a1],_=>
 obtain⟨jw,rfl,iR⟩:=(hx 0 _ _ rfl rfl).nc Tryz.underlying2;obtain⟨M9,rfl⟩:=Ib iR;obtain⟨jF,rfl,jJ⟩:=(hx 1 _ _ rfl rfl).nc Tryz.underlying2;obtain⟨Jh,rfl⟩:=Ib jJ;exact⟨⟨M9,Jh⟩,rfl,⟨trivial,trivial⟩⟩
structure FC(x:az):Prop where
 h0:p6 x.aK
 h1:x.bn.size≤maxLen
 h2:x.bp.length≤140737488355328∧∀a∈x.bp,p6 a
theorem XY{xs:aiE D}(h:eB Tryz.prog 80 xs):∃x:az,xs=fK x∧FC x:=by
 obtain⟨parts,rfl,hl,hx⟩:=h.ng Tryz.underlying80
 match parts,hl with
 |[a0,a1,a2],_=>
 obtain⟨jw,rfl,iR⟩:=DY (hx 0 _ _ rfl rfl);obtain⟨jF,rfl,jJ⟩:=(hx 1 _ _ rfl rfl).vm Tryz.underlying9;obtain⟨nK,rfl,nk⟩:=Pk (hx 2 _ _ rfl rfl);exact⟨⟨jw,jF,nK⟩,rfl,⟨iR,jJ,nk⟩⟩
theorem ZN{xs:aiE D}(h:eB Tryz.prog 49 xs):∃l:aiE az,xs=[.sl (bJ l)]∧(l.length≤140737488355328∧∀a∈l,FC a):=by
 obtain⟨l,rfl,hl,hs⟩:=h.q8 Tryz.underlying49;obtain⟨r,rfl,hr⟩:=oC (f:=fK) (Q:=fun a=>FC a) l (fun x hx=>XY (hs x hx));exact⟨r,by rw[qo],by simpa using hl,hr⟩
inductive wZ:aq→Prop
 |mk (x:aq) (h0:tF .i64 x.aX) (h1:x.ao.size≤maxLen) (h2:VL x.db) (h3:Fc x.aw) (h4:p6 x.aK) (h5:x.xIdx.length≤140737488355328∧∀a∈x.xIdx,FC a) (h6:x.aM.length≤140737488355328) (g6:∀a∈x.aM,wZ a):wZ x
theorem Rz:∀(n:Nat)(xs:aiE D),SizeOf.sizeOf xs<n→eB Tryz.prog 52 xs→∃x:aq,xs=dy x∧wZ x
 |0,_,h,_=>absurd h (aii _)
 |n+1,xs,hn,h=>by
  obtain⟨parts,rfl,hl,hx⟩:=h.ng Tryz.underlying52
  match parts,hl with
  |[a0,a1,a2,a3,a4,a5,a6],_=>
  obtain⟨jw,rfl,iR⟩:=(hx 0 _ _ rfl rfl).nc Tryz.underlying3;obtain⟨jF,rfl,jJ⟩:=(hx 1 _ _ rfl rfl).vm Tryz.underlying9;obtain⟨nK,rfl,nk⟩:=afr (hx 2 _ _ rfl rfl);obtain⟨vP,rfl,xt⟩:=JM (hx 3 _ _ rfl rfl);obtain⟨vQ,rfl,wC⟩:=DY (hx 4 _ _ rfl rfl);obtain⟨Lu,rfl,J1⟩:=ZN (hx 5 _ _ rfl rfl);obtain⟨l_,rfl,YA,YC⟩:=(hx 6 _ _ rfl rfl).q8 Tryz.underlying50;obtain⟨r_,rfl,hr_⟩:=oC (f:=dy) (Q:=wZ) l_ (fun x hx=>Rz n x (by have h1:=List.sizeOf_lt_of_mem hx;have h2:SizeOf.sizeOf [D.sl l_]<n+1:=Nat.lt_of_le_of_lt (PO (by simp)) hn;simp only[List.cons.sizeOf_spec,D.sl.sizeOf_spec,List.nil.sizeOf_spec]at h2;omega) (YC x hx));refine⟨⟨jw,jF,nK,vP,vQ,Lu,r_⟩,?_, .mk _ iR jJ nk xt wC J1 (by simpa using YA) hr_⟩;show _=dy _;unfold dy;rw[kL];rfl
theorem agw{xs:aiE D}(h:eB Tryz.prog 52 xs):∃x:aq,xs=dy x∧wZ x:=Rz _ xs (aiC _) h
structure FK(x:aG):Prop where
 h0:x.ao.size≤maxLen
 h1:Fc x.aw
 h2:x.aI.length≤140737488355328∧∀a∈x.aI,AU a
 h3:x.bz.length≤140737488355328∧∀a∈x.bz,AU a
 h4:tF .i64 x.cP
 h5:wZ x.bx
theorem YQ{xs:aiE D}(h:eB Tryz.prog 54 xs):∃x:aG,xs=cF x∧FK x:=by
 obtain⟨parts,rfl,hl,hx⟩:=h.ng Tryz.underlying54
 match parts,hl with
 |[a0,a1,a2,a3,a4,a5],_=>
 obtain⟨jw,rfl,iR⟩:=(hx 0 _ _ rfl rfl).vm Tryz.underlying9;obtain⟨jF,rfl,jJ⟩:=JM (hx 1 _ _ rfl rfl);obtain⟨nK,rfl,nk⟩:=N3 (hx 2 _ _ rfl rfl);obtain⟨vP,rfl,xt⟩:=N3 (hx 3 _ _ rfl rfl);obtain⟨vQ,rfl,wC⟩:=(hx 4 _ _ rfl rfl).nc Tryz.underlying3;obtain⟨Lu,rfl,J1⟩:=agw (hx 5 _ _ rfl rfl);exact⟨⟨jw,jF,nK,vP,vQ,Lu⟩,rfl,⟨iR,jJ,nk,xt,wC,J1⟩⟩
theorem abd{xs:aiE D}(h:eB Tryz.prog 25 xs):∃l:aiE aG,xs=[.sl (b8 l)]∧(l.length≤140737488355328∧∀a∈l,FK a):=by
 obtain⟨l,rfl,hl,hs⟩:=h.q8 Tryz.underlying25;obtain⟨r,rfl,hr⟩:=oC (f:=cF) (Q:=fun a=>FK a) l (fun x hx=>YQ (hs x hx));exact⟨r,by rw[lq],by simpa using hl,hr⟩
structure QW(x:aQ):Prop where
 h0:x.ba.length≤140737488355328∧∀a∈x.ba,a.size≤maxLen
 h1:x.cm.length≤140737488355328∧∀a∈x.cm,GH a
 h2:x.a8.length≤140737488355328∧∀a∈x.a8,Fs a
 h3:x.ay.length≤140737488355328∧∀a∈x.ay,FK a
 h4:x.cl.length≤140737488355328∧∀a∈x.cl,a.size≤maxLen
theorem afS{xs:aiE D}(h:eB Tryz.prog 27 xs):∃x:aQ,xs=Xq x∧QW x:=by
 obtain⟨parts,rfl,hl,hx⟩:=h.ng Tryz.underlying27
 match parts,hl with
 |[a0,a1,a2,a3,a4],_=>
 obtain⟨jw,rfl,iR⟩:=Vv (hx 0 _ _ rfl rfl);obtain⟨jF,rfl,jJ⟩:=Z8 (hx 1 _ _ rfl rfl);obtain⟨nK,rfl,nk⟩:=XR (hx 2 _ _ rfl rfl);obtain⟨vP,rfl,xt⟩:=abd (hx 3 _ _ rfl rfl);obtain⟨vQ,rfl,wC⟩:=Vv (hx 4 _ _ rfl rfl);exact⟨⟨jw,jF,nK,vP,vQ⟩,rfl,⟨iR,jJ,nk,xt,wC⟩⟩
def adt:aiE TypeId:=[2,3,4,9,22,23,24,25,27,42,43,45,46,48,49,50,52,54,57,58,60,64,80,92]
theorem Xx:M1 Tryz.prog adt=true:=by kernel_rfl
theorem afb{e:aq}(h:wZ e):jr ov e:=by
 induction h with
 |mk x h0 h1 h2 h3 h4 h5 h6 g6 ih=>
  intro y hy;rcases aik.1 hy with rfl|hy
  ·exact⟨h4.h1.1,h5.1,fun z hz=>⟨(h5.2 z hz).h0.h1.1,(h5.2 z hz).h2.1,fun l hl=>((h5.2 z hz).h2.2 l hl).h1.1⟩,h6⟩
  ·obtain⟨a,ha,hy⟩:=zc hy;exact ih a ha y hy
theorem aaR(p:aQ)(l:Int)(h:QW p)(_:(Lit.int .i64 l).wf=true):bg Tryz.prog 4 [aS p, .d (.v (.int .i64 l))] (·= .d (.v (.bool true))):=by
 refine XB (2147483649+2*SizeOf.sizeOf p.ay+oI p.ay p) p l true (aeO _ p l (by omega) (fun d hd=>⟨afb (h.h3.2 d hd).h5,?_⟩) (by omega));have:=Cs hd;omega
end Go.Proofs.YtphmhnabilhbgaaGreatDoor
