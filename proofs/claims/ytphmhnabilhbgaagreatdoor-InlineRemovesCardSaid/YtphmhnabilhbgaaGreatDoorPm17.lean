/-
  Part 17 of the proof: InLaw1, InRem1, InRem2, InRem3, OpenT, InRemAbs.
-/
import Derived.Test.YtphmhnabilhbgaaGreatDoorPm16
namespace Go.Proofs.YtphmhnabilhbgaaGreatDoor
open Go.RowKit
set_option maxRecDepth 100000
set_option linter.unusedSimpArgs false
set_option linter.unusedVariables false
theorem afz(n:Nat):((n:Int) !=(n:Int))=false:=by rw[A6,agP];rfl
theorem aee(N:Nat)(L:agU agV):yR N L L=some true:=by
 have go:∀(l:agU agV)(k:Nat),L.drop k=l→tQ N L l k=some true:=by
  intro l
  induction l with
  |nil=>intro k _;rfl
  |cons x l ih=>intro k h;rw[tQ,agx,bS h,af4,agP,cond_true];exact ih (k+1) (pc h)
 unfold yR;rw[afz,cond_false];exact go L 0 rfl
structure w8(B:Nat)(x:az):Prop where
 iQ:x.aL.xL.length≤B
 at_:x.bj.length≤B
 rE:∀l∈x.bj,l.xL.length≤B
structure Fe(B:Nat)(e:ar):Prop where
 iQ:e.aL.xL.length≤B
 idx:e.xIdx.length≤B
 each:∀x∈e.xIdx,w8 B x
 args:e.a7.length≤B
def jf(B:Nat)(e:ar):Prop:=∀y∈dd e,Fe B y
theorem jf.arg{B:Nat}{e x:ar}(h:jf B e)(hx:x∈e.a7):jf B x:=fun y hy=>h y (q6 hx hy)
theorem w8.mono{A B:Nat}(h:A≤B){x:az}(k:w8 A x):w8 B x:=⟨ago k.iQ h,ago k.at_ h,fun l hl=>ago (k.rE l hl) h⟩
theorem Fe.mono{A B:Nat}(h:A≤B){e:ar}(k:Fe A e):Fe B e:=⟨ago k.iQ h,ago k.idx h,fun x hx=>(k.each x hx).mono h,ago k.args h⟩
abbrev nD:Nat:=140737488355328
theorem uP{a b:Nat}(h:a+b≤9223372036854775807):a8 ((a:Int)+(b:Int))=((a+b:Nat):Int):=by
 rw[←Int.natCast_add];exact yg h
def Wt(m n:Nat)(Q:Prop)(r:agW Int):Prop:=∃v:Nat,r=some (v:Int)∧n≤v∧v≤m+500000000000000∧(v≤m→Q)
theorem Kf(N:Nat)(m:Nat)(hm:m≤100000)(rec:ar→Int→agW Int)(o6:ar→Prop)(hr:∀(x:ar)(q:Nat),q≤m→o6 x→Wt q 1 (jf q x) (rec x (q:Int))):∀(l:agU ar)(k v:Nat),v≤m+500000000000000→(∀x∈l,o6 x)→
 Wt m v (v+l.length≤m∧∀x∈l,jf m x) (nO N (m:Int) rec l k (v:Int))∧pe N (m:Int) rec l k (v:Int)=nO N (m:Int) rec l k (v:Int)
 |[],k,v,hv,_=>⟨⟨v,rfl,agh _,by omega,fun h=>⟨h,fun _ h=>by cases h⟩⟩,rfl⟩
 |x::l,k,v,hv,hx=>by
  rw[nO,pe,sR];by_cases h:v≤m
  ·rw[agN h,cond_true,cond_true,show a8 ((m:Int)-(v:Int))=((m-v:Nat):Int) by rw[show(m:Int)-(v:Int)=((m-v:Nat):Int) by omega];exact yg (by omega)];obtain⟨n,e1,e2,e3,e4⟩:=hr x (m-v) (Nat.sub_le _ _) (hx x agb);rw[e1,af4,af4];dsimp only;rw[uP (by omega)];by_cases hn:v+n≤m
   ·obtain⟨⟨u,f1,f2,f3,f4⟩,f5⟩:=Kf N m hm rec o6 hr l (k+1) (v+n) (by omega) fun y hy=>hx y (age _ hy);refine⟨⟨u,f1,by omega,f3,fun hu=> ?_⟩,f5⟩;obtain⟨g1,g2⟩:=f4 hu;refine⟨by simp only[af8];omega,fun y hy=> ?_⟩;rcases agA.1 hy with rfl|hy
    ·exact fun z hz=>(e4 (by omega) z hz).mono (by omega)
    ·exact g2 y hy
   ·have stop:∀(l:agU ar)(k:Nat),nO N (m:Int) rec l k ((v+n:Nat):Int)=some ((v+n:Nat):Int)∧pe N (m:Int) rec l k ((v+n:Nat):Int)=some ((v+n:Nat):Int):=by
     intro l k;cases l with
     |nil=>exact⟨rfl,rfl⟩
     |cons y l=>rw[nO,pe,sR,agO hn];exact⟨rfl,rfl⟩
    rw[(stop l (k+1)).1,(stop l (k+1)).2];exact⟨⟨v+n,rfl,by omega,by omega,fun h=>absurd h hn⟩,rfl⟩
  ·rw[agO h];exact⟨⟨v,rfl,agh _,by omega,fun h'=>absurd h' h⟩,rfl⟩
theorem UZ(N:Nat)(m:Nat)(hm:m≤100000)(c:Int→agW Int)(lo:Nat)(Q:Prop)(hc:∀v:Nat,v≤m+500000000000000→lo≤v→Wt m v Q (c (v:Int))):∀(l:agU aw)(k v:Nat),v≤m+500000000000000→lo≤v→(∀x∈l,x.xL.length≤nD)→
 Wt m v (Q∧∀x∈l,x.xL.length≤m) (vj N c (m:Int) l k (v:Int))
 |[],k,v,hv,gH,_=>by
  obtain⟨u,h1,h2,h3,h4⟩:=hc v hv gH;exact⟨u,h1,h2,h3,fun h=>⟨h4 h,fun _ h=>by cases h⟩⟩
 |x::l,k,v,hv,gH,hx=>by
  rw[vj,sR];by_cases h:v≤m
  ·have sD:x.xL.length≤140737488355328:=hx x agb;rw[agN h,cond_true];dsimp only;rw[uP (by omega)];obtain⟨u,f1,f2,f3,f4⟩:=UZ N m hm c lo Q hc l (k+1) (v+x.xL.length) (by omega) (by omega) fun y hy=>hx y (age _ hy);refine⟨u,f1,by omega,f3,fun hu=>⟨(f4 hu).1,fun y hy=> ?_⟩⟩;rcases agA.1 hy with rfl|hy
   ·omega
   ·exact(f4 hu).2 y hy
  ·rw[agO h,cond_false];obtain⟨u,h1,h2,h3,h4⟩:=hc v hv gH;exact⟨u,h1,h2,h3,fun hu=>absurd (ago h2 hu) h⟩
theorem Qr(N:Nat)(m:Nat)(hm:m≤100000)(rec:ar→Int→agW Int)(o6:ar→Prop)(hr:∀(x:ar)(q:Nat),q≤m→o6 x→Wt q 1 (jf q x) (rec x (q:Int)))(e:ar)(ha:∀x∈e.a7,o6 x):∀(l:agU az)(k v:Nat),v≤m+500000000000000→(∀x∈l,w8 nD x)→
 Wt m v ((e.a7.length≤m∧∀x∈e.a7,jf m x)∧∀x∈l,w8 m x) (nE N (m:Int) rec e l k (v:Int))
 |[],k,v,hv,_=>by
  rw[nE];obtain⟨u,h1,h2,h3,h4⟩:=(Kf N m hm rec o6 hr e.a7 0 v hv ha).1;exact⟨u,h1,h2,h3,fun h=>⟨⟨by have:=(h4 h).1;omega,(h4 h).2⟩,fun _ h=>by cases h⟩⟩
 |x::l,k,v,hv,hx=>by
  rw[nE,sR];by_cases h:v≤m
  ·have sD:=hx x agb;have h1:x.aL.xL.length≤140737488355328:=sD.iQ;have h2:x.bj.length≤140737488355328:=sD.at_;rw[agN h,cond_true,uP (by omega),uP (by omega)];obtain⟨u,f1,f2,f3,f4⟩:=UZ N m hm (fun bE=>nE N (m:Int) rec e l (k+1) bE) 0 _ (fun v hv _=>Qr N m hm rec o6 hr e ha l (k+1) v hv fun y hy=>hx y (age _ hy)) x.bj 0 (v+x.aL.xL.length+x.bj.length) (by omega) (Nat.zero_le _) sD.rE;refine⟨u,f1,by omega,f3,fun hu=> ?_⟩;obtain⟨⟨g1,g2⟩,g3⟩:=f4 hu;refine⟨g1,fun y hy=> ?_⟩;rcases agA.1 hy with rfl|hy
   ·exact⟨by omega,by omega,g3⟩
   ·exact g2 y hy
  ·rw[agO h,cond_false];obtain⟨⟨u,h1,h2,h3,h4⟩,h5⟩:=Kf N m hm rec o6 hr e.a7 0 v hv ha;rw[h5];exact⟨u,h1,h2,h3,fun hu=>absurd (ago h2 hu) h⟩
theorem Pc(N:Nat):∀(d:Nat)(e:ar)(m:Nat),m≤100000→SizeOf.sizeOf e<d→jf nD e→Wt m 1 (jf m e) (l5 N d e (m:Int))
 |0,_,_,_,h,_=>absurd h (agy _)
 |d+1,e,m,hm,h,hl=>by
  have he:=hl e agb;have h1:e.aL.xL.length≤140737488355328:=he.iQ;have h2:e.xIdx.length≤140737488355328:=he.idx;rw[l5,show(1:Int)=((1:Nat):Int)from rfl,uP (by omega),uP (by omega)];obtain⟨u,f1,f2,f3,f4⟩:=Qr N m hm (l5 N d) (fun x=>SizeOf.sizeOf x<d∧jf nD x) (fun x q hq hx=>Pc N d x q (by omega) hx.1 hx.2) e (fun x hx=>⟨by have:=kV hx;omega,hl.arg hx⟩) e.xIdx 0 (1+e.aL.xL.length+e.xIdx.length) (by omega) he.each;refine⟨u,f1,by omega,f3,fun hu=> ?_⟩;obtain⟨⟨g1,g2⟩,g3⟩:=f4 hu;intro y hy;rcases agA.1 hy with rfl|hy
  ·exact⟨by omega,by omega,g3,g1⟩
  ·obtain⟨x,hx,hy⟩:=um hy;exact g2 x hx y hy
structure Gv(d:aG):Prop where
 JR:d.aS.length≤12
 red:d.bI.length≤12
 aeT:∀a∈d.aS++d.bI,a.ep.xL.length≤20
 body:jf 300 d.bq
structure DR(p:aY):Prop where
 s:p.bu.length≤12
 w:p.cM.length≤12
 q:p.bk.length≤12
 d:p.ay.length≤12
 o:p.cu.length≤12
 W:∀c∈p.cM,c.aL.xL.length≤20
 P:∀x∈p.bk,x.aS.length≤12∧∀y∈x.aS,y.xL.length≤20
 D:∀d∈p.ay,Gv d
def Bt(Q:Prop)(r:agW Bool):Prop:=∃b,r=some b∧(b=false→Q)
theorem Bt.mono{Q R:Prop}{r:agW Bool}(h:Bt Q r)(f:Q→R):Bt R r:=let ⟨b,h1,h2⟩:=h;⟨b,h1,fun e=>f (h2 e)⟩
theorem LA(n:Nat):decide ((n:Int)>(20:Int))= !decide (n≤20):=jG n 20
theorem rK(n:Nat):decide ((n:Int)>(12:Int))= !decide (n≤12):=jG n 12
theorem Ud(N:Nat):∀(l:agU aw)(k:Nat),Bt (∀y∈l,y.xL.length≤20) (th N l k)
 |[],_=>⟨_,rfl,fun _ _ h=>by cases h⟩
 |x::l,k=>by
  rw[th,LA];by_cases h:x.xL.length≤20
  ·rw[agN h];refine(Ud N l (k+1)).mono fun g y hy=> ?_;rcases agA.1 hy with rfl|hy
   ·exact h
   ·exact g y hy
  ·rw[agO h];exact⟨true,rfl,fun h=>by cases h⟩
theorem Pu(N:Nat)(d:aG)(c:agW Bool)(Q:Prop)(hc:Bt Q c)(h1:d.aS.length≤12)(h2:d.bI.length≤12):∀(n k:Nat),k≤d.aS.length+d.bI.length→d.aS.length+d.bI.length-k<n→
 Bt (Q∧∀a∈(d.aS++d.bI).drop k,a.ep.xL.length≤20) (tf N d c n (k:Int))
 |0,k,_,h=>absurd h (agy _)
 |n+1,k,hk,h=>by
  rw[tf,uP (by omega)];by_cases hl:k<d.aS.length+d.bI.length
  ·have nc:k<(d.aS++d.bI).length:=by rw[af6];exact hl
   rw[show decide ((k:Int)<((d.aS.length+d.bI.length:Nat):Int))=true from agN (by omega),eu (by omega),eu (by omega),show decide ((0:Int)≤(k:Int))=true from agN (by omega),cond_true,cond_true,cond_true,cond_true,agx,af9 nc,af4,LA,List.drop_eq_getElem_cons nc,sW (by omega)];by_cases eY:((d.aS++d.bI)[k]).ep.xL.length≤20
   ·rw[agN eY];refine(Pu N d c Q hc h1 h2 n (k+1) (by omega) (by omega)).mono fun⟨g1,g2⟩=>⟨g1,fun y hy=> ?_⟩;rcases agA.1 hy with rfl|hy
    ·exact eY
    ·exact g2 y hy
   ·rw[agO eY];exact⟨true,rfl,fun h=>by cases h⟩
  ·rw[show decide ((k:Int)<((d.aS.length+d.bI.length:Nat):Int))=false from agO (by omega),cond_false,List.drop_eq_nil_of_le (by rw[af6];omega)];exact hc.mono fun g=>⟨g,fun _ h=>by cases h⟩
theorem OI(N m:Nat)(hm:m≤300)(hN:1000<N):∀(l:agU aG)(k:Nat),(∀d∈l,jf nD d.bq∧SizeOf.sizeOf d.bq<N)→Bt (∀d∈l,Gv d) (qA N (m:Int) l k)
 |[],_,_=>⟨_,rfl,fun _ _ h=>by cases h⟩
 |d::l,k,hd=>by
  obtain⟨d1,d2⟩:=hd d agb;have ih:=OI N m hm hN l (k+1) fun y hy=>hd y (age _ hy);obtain⟨v,w1,w2,w3,w4⟩:=Pc N N d.bq m (by omega) d2 d1;rw[qA,rK,rK];unfold LQ;rw[w1,af4,show decide ((v:Int)>(m:Int))= !decide (v≤m)from jG v m];by_cases h1:d.aS.length≤12
  ·rw[agN h1];by_cases h2:d.bI.length≤12
   ·rw[agN h2];by_cases h3:v≤m
    ·rw[agN h3];have:=Pu N d _ _ ih h1 h2 N 0 (Nat.zero_le _) (by omega);rw[agF]at this;refine Bt.mono this fun⟨g1,g2⟩ y hy=> ?_;rcases agA.1 hy with rfl|hy
     ·exact⟨h1,h2,g2,fun z hz=>(w4 h3 z hz).mono hm⟩
     ·exact g1 y hy
    ·rw[agO h3];exact⟨true,rfl,fun h=>by cases h⟩
   ·rw[agO h2];exact⟨true,rfl,fun h=>by cases h⟩
  ·rw[agO h1];exact⟨true,rfl,fun h=>by cases h⟩
theorem Te(N m:Nat)(hm:m≤300)(hN:1000<N)(p:aY)(hd:∀d∈p.ay,jf nD d.bq∧SizeOf.sizeOf d.bq<N):∀(l:agU bN)(k:Nat),Bt ((∀d∈p.ay,Gv d)∧∀x∈l,x.aS.length≤12∧∀y∈x.aS,y.xL.length≤20) (sT N (m:Int) p l k)
 |[],_=>(OI N m hm hN p.ay 0 hd).mono fun g=>⟨g,fun _ h=>by cases h⟩
 |x::l,k=>by
  obtain⟨b,b1,b2⟩:=Ud N x.aS 0;rw[sT,rK];unfold F2;rw[b1,af4];by_cases h:x.aS.length≤12
  ·rw[agN h];cases b with
   |true=>exact⟨true,rfl,fun h=>by cases h⟩
   |false=>
    refine(Te N m hm hN p hd l (k+1)).mono fun⟨g1,g2⟩=>⟨g1,fun y hy=> ?_⟩;rcases agA.1 hy with rfl|hy
    ·exact⟨h,b2 rfl⟩
    ·exact g2 y hy
  ·rw[agO h];exact⟨true,rfl,fun h=>by cases h⟩
theorem Q4(N m:Nat)(hm:m≤300)(hN:1000<N)(p:aY)(hd:∀d∈p.ay,jf nD d.bq∧SizeOf.sizeOf d.bq<N):∀(l:agU cv)(k:Nat),Bt (((∀d∈p.ay,Gv d)∧∀x∈p.bk,x.aS.length≤12∧∀y∈x.aS,y.xL.length≤20)∧∀c∈l,c.aL.xL.length≤20) (vt N (m:Int) p l k)
 |[],_=>(Te N m hm hN p hd p.bk 0).mono fun g=>⟨g,fun _ h=>by cases h⟩
 |c::l,k=>by
  rw[vt,LA];by_cases h:c.aL.xL.length≤20
  ·rw[agN h];refine(Q4 N m hm hN p hd l (k+1)).mono fun⟨g1,g2⟩=>⟨g1,fun y hy=> ?_⟩;rcases agA.1 hy with rfl|hy
   ·exact h
   ·exact g2 y hy
  ·rw[agO h];exact⟨true,rfl,fun h=>by cases h⟩
theorem aa1(N m:Nat)(hm:m≤300)(hN:1000<N)(p:aY)(hd:∀d∈p.ay,jf nD d.bq∧SizeOf.sizeOf d.bq<N):Bt (DR p) (xg N p (m:Int)):=by
 unfold xg;rw[rK,rK,rK,rK,rK];by_cases h1:p.bu.length≤12
 ·by_cases h2:p.cM.length≤12
  ·by_cases h3:p.bk.length≤12
   ·by_cases h4:p.ay.length≤12
    ·by_cases h5:p.cu.length≤12
     ·rw[agN h1,agN h2,agN h3,agN h4,agN h5];exact(Q4 N m hm hN p hd p.cM 0).mono fun⟨⟨g1,g2⟩,g3⟩=>⟨h1,h2,h3,h4,h5,g3,g2,g1⟩
     ·rw[agN h1,agN h2,agN h3,agN h4,agO h5];exact⟨true,rfl,fun h=>by cases h⟩
    ·rw[agN h1,agN h2,agN h3,agO h4];exact⟨true,rfl,fun h=>by cases h⟩
   ·rw[agN h1,agN h2,agO h3];exact⟨true,rfl,fun h=>by cases h⟩
  ·rw[agN h1,agO h2];exact⟨true,rfl,fun h=>by cases h⟩
 ·rw[agO h1];exact⟨true,rfl,fun h=>by cases h⟩
def vL(s:agV)(y:ar):Bool:=(y.aQ==3&&bL y.aq==bL s)||y.xIdx.any fun x=>bL x.aV==bL s
def lJ(s:agV)(e:ar):Prop:=∀y∈dd e,vL s y=false
theorem lJ.arg{s:agV}{e x:ar}(h:lJ s e)(hx:x∈e.a7):lJ s x:=fun y hy=>h y (q6 hx hy)
theorem SO{s:agV}{e:ar}(h0:vL s e=false)(h:∀x∈e.a7,lJ s x):lJ s e:=fun y hy=>by
 rcases agA.1 hy with rfl|hy
 ·exact h0
 ·obtain⟨x,hx,hy⟩:=um hy;exact h x hx y hy
theorem YC{s:agV}{l r:agU az}(h:∀y∈r,∃x∈l,y.aV=x.aV)(hl:l.any (fun x=>bL x.aV==bL s)=false):r.any (fun x=>bL x.aV==bL s)=false:=by
 rw[List.any_eq_false]at hl ⊢;intro y hy;obtain⟨x,hx,e⟩:=h y hy;rw[e];exact hl x hx
theorem Pg{s:agV}{F:agV→aw}:∀(d:Nat)(e r:ar),iP F d e= .ok r→lJ s e→lJ s r
 |0,_,_,h,_=>by cases h
 |d+1,e,r,h,hn=>by
  rw[iP]at h;cases h1:gM F e.aL with
  |error q=>rw[h1]at h;cases h
  |ok l=>
   rw[h1]at h;dsimp only at h;cases h2:cN (gY F) e.xIdx with
   |error q=>rw[h2]at h;cases h
   |ok i=>
    rw[h2]at h;dsimp only at h;cases h3:cN (iP F d) e.a7 with
    |error q=>rw[h3]at h;cases h
    |ok a=>
     rw[h3]at h;cases h;refine SO ?_ fun x hx=> ?_
     ·have h0:=hn e agb;unfold vL at h0 ⊢;rw[agT]at h0 ⊢;refine⟨h0.1,YC (fun y hy=> ?_) h0.2⟩;obtain⟨x,hx,e2⟩:=(pK _ _ h2).2 y hy;refine⟨x,hx,?_⟩;unfold gY at e2;cases h4:gM F x.aL with
      |error q=>rw[h4]at e2;cases e2
      |ok l4=>
       rw[h4]at e2;dsimp only at e2;cases h5:cN (gM F) x.bj with
       |error q=>rw[h5]at e2;cases e2
       |ok a5=>rw[h5]at e2;cases e2;rfl
     ·obtain⟨y,hy,e2⟩:=(pK _ _ h3).2 x hx;exact Pg d y x e2 (hn.arg hy)
theorem Sa{s:agV}{D:aG}(hs:(bL D.aq==bL s)=true)(hD:lJ s D.bq):∀(d:Nat)(e r:ar),fI D d e= .ok r→(∀y∈dd e,ko s y=false)→lJ s r
 |0,_,_,h,_=>by cases h
 |d+1,e,r,h,hb=>by
  rw[fI]at h;cases h0:(e.aQ==3&&bL e.aq==bL D.aq)with
  |true=>
   rw[h0,cond_true]at h;exact Pg _ _ _ h hD
  |false=>
   rw[h0,cond_false]at h;cases h3:cN (fI D d) e.a7 with
   |error q=>rw[h3]at h;cases h
   |ok a=>
    rw[h3]at h;cases h;refine SO ?_ fun x hx=> ?_
    ·have h1:=hb e agb;unfold ko at h1;rw[agT]at h1;unfold vL;rw[beq_iff_eq.1 hs]at h0;rw[agT];exact⟨h0,h1.1⟩
    ·obtain⟨y,hy,e2⟩:=(pK _ _ h3).2 x hx;exact Sa hs hD d y x e2 fun z hz=>hb z (q6 hy hz)
theorem aax{N:Nat}{p:aY}{s:agV}{x:Int}(h:rJ N p s=some x)(hx:x=0):pj s p.ay=false:=by
 unfold rJ at h;obtain⟨v,h1,h⟩:=au h;cases e1:v.2 !=0 with
 |true=>
  rw[e1,cond_true]at h;cases h
  rw[hx]at e1;cases e1
 |false=>
  rw[e1,cond_false]at h;obtain⟨i,h2,h⟩:=au h;cases e2:decide (i<0)with
  |true=>rw[e2]at h;cases h;cases hx
  |false=>
   rw[e2,cond_false]at h;cases e3:decide ((0:Int)≤i)with
   |false=>rw[e3]at h;cases h
   |true=>
    rw[e3,cond_true]at h;obtain⟨d,h3,h⟩:=au h;cases e4:d.cG !=0 with
    |true=>rw[e4]at h;cases h;cases hx
    |false=>
     rw[e4,cond_false,Jt]at h;cases e5:pj s p.ay with
     |false=>rfl
     |true=>rw[e5]at h;cases h;cases hx
theorem afu{p:aY}{s:agV}{j:Nat}{D:aG}(hD:p.ay[j]?=some D)(hi:eH s D=true)(gD:og p j D)(hb:pj s p.ay=false):lJ s D.bq:=fun y hy=>by
 have h1:ko s y=false:=by
  have:=List.any_eq_false.1 hb D (tO hD);rw[Bool.not_eq_true]at this;have:=List.any_eq_false.1 this y hy
  rwa [Bool.not_eq_true]at this
 unfold ko at h1;rw[agT]at h1;unfold vL;rw[agT];refine⟨?_,h1.1⟩;cases h3:y.aQ==3 with
 |false=>rfl
 |true=>
  cases h4:bL y.aq==bL s with
  |false=>rfl
  |true=>
   have hr:=gD.reads y hy (beq_iff_eq.1 h3);unfold mE at hr;have hn:cC (p.bk.map (·.aq)++(p.ay.take j).map (·.aq)) y.aq=false:=by
    have e:(bL D.aq==bL y.aq)=true:=by
     unfold eH at hi;rw[beq_iff_eq.1 h4];exact hi
    rw[iO,Bg e,Bg e,gD.par,gD.xv];rfl
   rw[OW,hn]at hr;cases hr
theorem adg{x:agU UInt8}{zs:agU (agU UInt8)}(h:x∈Lib.compact zs):x∈zs:=by
 unfold Lib.compact Lib.compactUpTo at h;obtain⟨i,hi,rfl⟩:=List.mem_map.1 h;have hi:=List.mem_range.1 (List.mem_filter.1 hi).1;have dw:i<zs.toArray.size:=by simpa using hi
 rw[getElem!_pos zs.toArray i dw];simp
theorem acu{x:agV}{l:agU agV}(h:x∈gw l):∃y∈l,bL x=bL y:=by
 unfold gw at h;obtain⟨z,hz,rfl⟩:=List.mem_map.1 h;have hz:=adg hz;unfold jv at hz;rw[List.mem_mergeSort]at hz;obtain⟨y,hy,rfl⟩:=List.mem_map.1 hz;exact⟨y,hy,rfl⟩
theorem abR{l:agU agV}{s:agV}(h:cC l s=false):cC (gw l) s=false:=by
 rw[Bool.eq_false_iff]at h ⊢;intro h1;obtain⟨x,hx,e⟩:=List.any_eq_true.1 h1;obtain⟨y,hy,e2⟩:=acu hx;exact h (List.any_eq_true.2 ⟨y,hy,by rw[←e2];exact e⟩)
def nF(l:agU az):agU agV:=l.flatMap fun x=>bif bL x.aV==bL (bs [])then[]else[x.aV]
def AK(y:ar):agU agV:=(bif y.aQ==3 then[y.aq]else[])++nF y.xIdx
theorem Gu(N:Nat)(c:Nat→agU agV→agW (agU agV)):∀(l:agU az)(k n:Nat)(acc:agU agV),acc.length=n→n+l.length≤1000000→
 oR N c l k n acc=c (acc++nF l).length (acc++nF l)
 |[],_,n,acc,h,_=>by rw[oR];unfold nF;rw[List.flatMap_nil,agr,h]
 |x::l,k,n,acc,h,hb=>by
  simp only[af8]at hb;rw[oR];have e:nF (x::l)=(bif bL x.aV==bL (bs [])then[]else[x.aV])++nF l:=by unfold nF;rw[List.flatMap_cons]
  rw[e];cases bL x.aV==bL (bs [])with
  |true=>
   rw[cond_true,cond_true,List.nil_append];exact Gu N c l (k+1) n acc h (by omega)
  |false=>
   rw[cond_false,cond_false,←h,iY,cond_true,eu (by omega),cond_true];refine Eq.trans (Gu N c l (k+1) (acc.length+1) (acc++[x.aV]) (by simp) (by omega)) ?_;rw[agn]
theorem PI:∀l:agU az,(nF l).length≤l.length
 |[]=>agh _
 |x::l=>by
  have:=PI l;unfold nF at this ⊢;rw[List.flatMap_cons,af6];cases bL x.aV==bL (bs [])<;>simp only[cond_true,cond_false,agi,af8]<;>omega
theorem J1(N:Nat):∀(l:agU ar)(n:Nat)(acc:agU agV),acc.length=n→(∀y∈l,y.xIdx.length≤6)→n+l.length*7≤900000→
 mX N l n acc=some (gw (acc++l.flatMap AK))
 |[],n,acc,h,_,hb=>by
  simp only[agi]at hb;rw[mX];unfold LG;rw[h,iY,show Nat.blt n 4611686018427387904=true from Nat.ble_eq_true_of_le (by omega),List.flatMap_nil,agr];rfl
 |y::l,n,acc,h,hi,hb=>by
  simp only[af8]at hb;have h6:=hi y agb;have fl:=PI y.xIdx;rw[mX,List.flatMap_cons];unfold AK;cases y.aQ==3 with
  |true=>
   rw[cond_true,cond_true,←h,iY,cond_true,eu (by omega),cond_true];unfold xI;rw[Gu N _ _ _ _ _ (by simp) (by omega)];rw[J1 N l _ _ rfl (fun z hz=>hi z (age _ hz)) (by simp only[af6,af8,agi];omega)];simp only[agn];rfl
  |false=>
   rw[cond_false,cond_false];unfold xI;rw[Gu N _ _ _ _ _ h (by omega)];rw[J1 N l _ _ rfl (fun z hz=>hi z (age _ hz)) (by simp only[af6];omega)];simp only[agn,List.nil_append];rfl
theorem Zr(N:Nat){e:ar}(h:lI e=0):vY N e=some (gw ((dd e).flatMap AK)):=by
 have hl:(dd e).length≤2000:=by
  unfold lI at h;cases h1:decide (40<hY 40 e)with
  |true=>rw[h1]at h;cases h
  |false=>
   rw[h1,cond_false]at h;cases h2:decide (2000<(dd e).length)with
   |true=>rw[h2]at h;cases h
   |false=>exact Nat.le_of_not_lt (of_decide_eq_false h2)
 unfold vY sm;rw[af4,J1 N _ 0 [] rfl (fun y hy=> ?_) (by omega),List.nil_append];obtain⟨_,_,hr,_,_⟩:=Dq (FG h y hy);unfold lO at hr;simp only[af7,decide_eq_true_eq]at hr;exact hr.2.1
theorem Wd{s:agV}{e:ar}(h:lJ s e):cC (gw ((dd e).flatMap AK)) s=false:=by
 refine abR (Bool.eq_false_iff.2 fun h1=> ?_);obtain⟨x,hx,e1⟩:=List.any_eq_true.1 h1;obtain⟨y,hy,hx⟩:=List.mem_flatMap.1 hx;have h2:=h y hy;unfold vL at h2;rw[agT]at h2;unfold AK at hx;rcases agI.1 hx with hx|hx
 ·cases h3:y.aQ==3 with
  |false=>rw[h3]at hx;cases hx
  |true=>
   rw[h3,cond_true,List.mem_singleton]at hx;subst hx;rw[h3,e1]at h2;cases h2.1
 ·unfold nF at hx;obtain⟨z,hz,hx⟩:=List.mem_flatMap.1 hx;cases h4:bL z.aV==bL (bs [])with
  |true=>rw[h4]at hx;cases hx
  |false=>
   rw[h4,cond_false,List.mem_singleton]at hx;subst hx;have:=List.any_eq_false.1 h2.2 z hz;exact this e1
theorem Wa(n:Nat):qL (n+1000)=some true:=by kernel_rfl
theorem jf.bd{e:ar}(h:jf 300 e):lM e:=fun y hy=>
 ⟨ago (h y hy).iQ (by decide),ago (h y hy).idx (by decide),fun x hx=>⟨ago ((h y hy).each x hx).iQ (by decide),ago ((h y hy).each x hx).at_ (by decide),fun l hl=>ago (((h y hy).each x hx).rE l hl) (by decide)⟩,ago (h y hy).args (by decide)⟩
theorem Z4{N:Nat}{p:aY}(h:DR p)(hs:∀d∈p.ay,SizeOf.sizeOf d.bq<N):Bc N p:=
 ⟨⟨ago h.s (by decide),ago h.w (by decide),ago h.q (by decide),ago h.d (by decide),ago h.o (by decide),
   ⟨fun x hx=>ago (h.P x hx).1 (by decide),fun x hx y hy=>ago ((h.P x hx).2 y hy) (by decide)⟩,
   ⟨fun d hd=>by have h1:=(h.D d hd).JR;have h2:=(h.D d hd).red;omega,fun d hd y hy=>ago ((h.D d hd).aeT y hy) (by decide)⟩,
   fun c hc=>ago (h.W c hc) (by decide),fun d hd=>⟨((h.D d hd).body.bd).ok,hs d hd⟩⟩,fun d hd=>⟨(h.D d hd).body.bd,hs d hd⟩⟩
inductive BZ{α β:Type}(R:α→β→Prop):List α→List β→Prop
 |nil:BZ R [] []
 |cons {x:α} {y:β} {l:List α} {r:List β}:R x y→BZ R l r→BZ R (x::l) (y::r)
structure OQ(s:ByteArray)(d x:aG):Prop where
 name:x.aq=d.aq
 type:x.aC=d.aC
 fold:x.cG=d.cG
 no:lJ s x.bq
theorem AA{s:agV}{D:aG}(hs:(bL D.aq==bL s)=true)(hD:lJ s D.bq):∀(l r:agU aG),cN (gu D) l= .ok r→pj s l=false→BZ (OQ s) l r
 |[],r,h,_=>by cases h;exact .nil
 |x::l,r,h,hb=>by
  rw[cN]at h;unfold pj at hb;rw[agR,agT]at hb;cases h1:gu D x with
  |error q=>rw[h1]at h;cases h
  |ok y=>
   rw[h1]at h;dsimp only at h;cases h2:cN (gu D) l with
   |error q=>rw[h2]at h;cases h
   |ok r'=>
    rw[h2]at h;cases h;refine .cons ?_ (AA hs hD l r' h2 hb.2);unfold gu at h1;cases h3:fI D (SizeOf.sizeOf x.bq+1) x.bq with
    |error q=>rw[h3]at h1;cases h1
    |ok b=>
     rw[h3]at h1;cases h1;refine⟨rfl,rfl,rfl,Sa hs hD _ _ _ h3 fun y hy=> ?_⟩;have:=List.any_eq_false.1 hb.1 y hy
     rwa [Bool.not_eq_true]at this
theorem Hn(N:Nat)(hN:1000<N)(Q:aY)(e:Int)(s:agV)(c:Bool)(at_:Nat)(ex:qL N=some true)(hQ:Q.ay.length≤1000)(hv:∀x∈Q.ay,lI x.bq=0):
 ∀(l r:agU aG)(k m:Nat),BZ (OQ s) l r→(∀i d,l[i]?=some d→(bL d.aq==bL s)=decide (k+i=at_))→Q.ay.drop m=iS c at_ k r→m≤Q.ay.length→
  nG N (Q,e) s c l k (m:Int)=some true
 |[],r,k,m,h,_,hd,hm=>by
  cases h
  rw[nG,ex];have h1:=congrArg List.length hd;rw[iS,List.length_drop,agi]at h1;rw[show((m:Int)==(Q.ay.length:Int))=true from beq_iff_eq.2 (by omega)];rfl
 |d::l,r,k,m,h,hn,hd,hm=>by
  cases h with
  |cons hp ht=>
   next x r'=>
   rw[nG,hn 0 d rfl,Nat.add_zero];have eD:∀i y,l[i]?=some y→(bL y.aq==bL s)=decide (k+1+i=at_):=fun i y hy=>by
     rw[show k+1+i=k+(i+1) by omega];exact hn (i+1) y (by rw[agH];exact hy)
   rw[iS]at hd;have go:Q.ay.drop m=x::iS c at_ (k+1) r'→(Option.bind (bif (decide ((m:Int)≥(Q.ay.length:Int)))then some true else bif (decide ((0:Int)≤(m:Int)))then
      Option.bind (Q.ay[((m:Int)).toNat]?) fun v21=>
      (bif (bL v21.aq==bL d.aq)then(bif ((v21.aC.bW==d.aC.bW)&&((v21.aC.ca==d.aC.ca)&&((v21.aC.cF==d.aC.cF)&&((v21.aC.cE==d.aC.cE)&&((v21.aC.cJ==d.aC.cJ)&&true)))))then(bif (v21.cG !=d.cG)then some true else Option.bind (vY N v21.bq) fun cY=>
      Option.bind (lu N cY s) fun cz=>
      some cz)else some true)else some true)
      else none) fun v24=>
      bif v24 then
       some false
      else
       (fun bE=>nG N (Q,e) s c l (k+1) bE) (a8 ((m:Int)+(1:Int))))=some true:=fun hd=>by
     have hg:=bS hd;have aN:m<Q.ay.length:=vG hd;have hx:x∈Q.ay:=tO hg;rw[show decide ((m:Int)≥(Q.ay.length:Int))=false from agO (by omega),show decide ((0:Int)≤(m:Int))=true from agN (by omega),agx,hg];simp only[cond_false,cond_true,af4];rw[hp.name,hp.type,hp.fold,Zr N (hv x hx),af4,ug,Wd hp.no];simp only[agP,Bool.and_self,bne_self_eq_false,cond_true,cond_false,af4];rw[show a8 ((m:Int)+1)=((m+1:Nat):Int) by unfold a8;rw[IntKind.wrap_i64];omega];exact Hn N hN Q e s c at_ ex hQ hv l r' (k+1) (m+1) ht eD (pc hd) aN
   cases hk:decide (k=at_)with
   |true=>
    have iX:k=at_:=of_decide_eq_true hk;cases hc:c with
    |true=>
     rw[hc,Bool.or_true,cond_true]at hd;rw[hc]at go;exact go hd
    |false=>
     have nR:(k==at_)=true:=beq_iff_eq.2 iX;rw[hc,nR]at hd;have ih:=Hn N hN Q e s c at_ ex hQ hv l r' (k+1) m ht eD (by rw[hc];exact hd) hm;rw[hc]at ih;exact ih
   |false=>
    have iX:(k==at_)=false:=beq_eq_false_iff_ne.2 (of_decide_eq_false hk);rw[iX,Bool.not_false,Bool.true_or,cond_true]at hd;exact go hd
theorem PV{s:agV}:∀(r:agU aG)(k:Nat),(∀d∈r,(bL d.aq==bL s)=false)→jY r s k= -1
 |[],_,_=>rfl
 |d::r,k,h=>by
  rw[yF,show eH s d=false from h d agb,cond_false,PV r (k+1) fun x hx=>h x (age _ hx)]
theorem M5{s:agV}:∀(r:agU aG)(k:Nat),cC (r.map (·.aq)) s=true→(0:Int)≤jY r s k
 |[],_,h=>by cases h
 |d::r,k,h=>by
  rw[yF];cases h1:eH s d with
  |true=>exact Int.natCast_nonneg k
  |false=>
   have h':(bL d.aq==bL s||cC (r.map (·.aq)) s)=true:=h;unfold eH at h1;rw[h1,Bool.false_or]at h';exact M5 r (k+1) h'
theorem Jr{s:agV}{at_:Nat}:∀(r:agU aG)(k:Nat),(∀i d,r[i]?=some d→(bL d.aq==bL s)=decide (k+i=at_))→∀d∈iS false at_ k r,(bL d.aq==bL s)=false
 |[],_,_,d,h=>by cases h
 |x::r,k,hn,d,h=>by
  rw[iS]at h;have eD:∀i y,r[i]?=some y→(bL y.aq==bL s)=decide (k+1+i=at_):=fun i y hy=>by
    rw[show k+1+i=k+(i+1) by omega];exact hn (i+1) y (by rw[agH];exact hy)
  have h0:=hn 0 x rfl;rw[Nat.add_zero]at h0;cases hk:k==at_ with
  |true=>rw[hk]at h;exact Jr r (k+1) eD d h
  |false=>
   rw[hk]at h;rcases agA.1 h with rfl|h
   ·rw[h0];exact agO (beq_eq_false_iff_ne.1 hk)
   ·exact Jr r (k+1) eD d h
theorem Wu{N:Nat}{p:aY}{s:agV}{r:aY}{x:Int}(h:p6 N p s=some (r,x))(hx:x=0):∃z,rJ N p s=some z∧z=0:=by
 unfold p6 at h;obtain⟨z,h1,h⟩:=au h;refine⟨z,h1,?_⟩;cases hz:z !=0 with
 |false=>exact gN hz
 |true=>
  rw[hz,cond_true]at h;have:=congrArg Prod.snd (agp h);exact Eq.trans this hx
theorem ab8(N:Nat)(p:aY)(s:agV)(hN:2147483648<N)(hd:∀d∈p.ay,jf nD d.bq∧SizeOf.sizeOf d.bq<N)(lq:∀d∈lz p s,2*SizeOf.sizeOf d.bq+2<N):
 Gq N p s=some true:=by
 have ex:qL N=some true:=by
  obtain⟨n,rfl⟩:∃n,N=n+1000:=⟨N-1000,by omega⟩;exact Wa n
 obtain⟨b,l1,l2⟩:=aa1 N 200 (by decide) (by omega) p hd;unfold Gq;have l1:xg N p 200=some b:=l1;rw[l1,af4,ex];cases b with
 |true=>rfl
 |false=>
  simp only[cond_false,af4];cases decide ((s.size:Int)>100)with
  |true=>rfl
  |false=>
   have hS:=l2 rfl;have B:=Z4 hS fun d eh=>(hd d eh).2;obtain⟨r,x,o1,o2,o3,o4,o5⟩:=ad8 hN B s (ago hS.s (by decide)) lq;rw[o1];simp only[cond_false,af4];cases hx:x !=0 with
   |true=>
    rw[o5 fun h=>by rw[h]at hx;cases hx];rfl
   |false=>
    have O7:=gN hx;obtain⟨hr,JW,Br,Gr⟩:=o4 O7;obtain⟨z,c1,hz⟩:=Wu o1 O7;have PU:=aax c1 hz;obtain⟨z',c2,_,c3⟩:=Nu hN B.b s;rw[c1]at c2;cases c2;obtain⟨zj,j,D,hj,hD,hi⟩:=c3 hz;have gD:=zj j D hD;have oX:j<p.ay.length:=(af5.1 hD).1;have noD:=afu hD hi gD PU;have hlen:(lz p s).length=p.ay.length:=by
     have:=congrArg List.length JW
     rwa [aga,aga]at this
    have hm:cN (gu D) p.ay= .ok (lz p s):=by
     have hf:p.ay.find? (eH s)=some D:=by
      rcases wq (eH s) p.ay with⟨h2,_⟩|⟨k,e,h2,h3,h4,_⟩
      ·rw[hj]at h2;cases h2
      ·rw[hj]at h2;cases h2;rw[hD]at h3;cases h3;exact h4
     unfold lz at hlen ⊢;rw[hf]at hlen ⊢;dsimp only at hlen ⊢;cases hq:cN (gu D) p.ay with
     |error e=>rw[hq]at hlen;simp only[agi]at hlen;omega
     |ok y=>rfl
    have hp:=AA hi noD p.ay _ hm PU;have apart:∀i d,p.ay[i]?=some d→(bL d.aq==bL s)=decide (0+i=j):=fun i d eh=>by
     rw[agq];by_cases kC:i=j
     ·subst kC;rw[hD]at eh;cases eh;rw[agN rfl];exact hi
     ·rw[agO kC];refine Bool.eq_false_iff.2 fun h=> ?_;have wW:(bL d.aq==bL D.aq)=true:=by
        unfold eH at hi;rw[beq_iff_eq.1 hi];exact h
      rcases Nat.lt_or_gt_of_ne kC with h1|h1
      ·have:=gD.xv;rw[Bool.eq_false_iff]at this;exact this (List.any_eq_true.2 ⟨d.aq,List.mem_map.2 ⟨d,List.mem_iff_getElem?.2 ⟨i,by rw[List.getElem?_take_of_lt h1];exact eh⟩,rfl⟩,wW⟩)
      ·have:=(zj i d eh).xv;rw[Bool.eq_false_iff]at this;exact this (List.any_eq_true.2 ⟨D.aq,List.mem_map.2 ⟨D,List.mem_iff_getElem?.2 ⟨j,by rw[List.getElem?_take_of_lt h1];exact hD⟩,rfl⟩,by rw[beq_iff_eq.1 wW];exact agP _⟩)
    have NN:r.ay=iS (cC p.cu s) j 0 (lz p s):=by rw[hr];unfold DE;rw[hj]
    have aeQ:r.cu=p.cu:=by rw[hr];rfl
    have A1:decide (jY r.ay s 0≥0)=cC p.cu s:=by
     rw[NN];cases hh:cC p.cu s with
     |true=>
      rw[E0];refine agN (M5 _ 0 ?_);rw[JW];exact List.any_eq_true.2 ⟨D.aq,List.mem_map.2 ⟨D,tO hD,rfl⟩,hi⟩
     |false=>
      have xG:∀i d,(lz p s)[i]?=some d→(bL d.aq==bL s)=decide (0+i=j):=fun i d eh=>by
       have e1:((lz p s).map (·.aq))[i]?=some d.aq:=by rw[agc,eh];rfl
       rw[JW,agc]at e1;cases H3:p.ay[i]? with
       |none=>rw[H3]at e1;cases e1
       |some y=>
        rw[H3]at e1;have e2:y.aq=d.aq:=agp e1;rw[←e2];exact apart i y H3
      rw[PV _ 0 (Jr _ 0 xG)];rfl
    simp only[cond_false];rw[ug,IN,af4,af4,A1,agP,aeQ,aee];simp only[cond_true,af4,Bool.not_true,cond_false];have hQ:r.ay.length≤1000:=Br.b.d;exact Hn N (by omega) r x s (cC p.cu s) j ex hQ (fun y hy=>by
     obtain⟨i,dw,e⟩:=List.mem_iff_getElem.1 hy;exact(Gr i y (by rw[af9 dw,e])).body) p.ay _ 0 0 hp apart (by rw[agF];exact NN) (Nat.zero_le _)
def sA(k:IntKind)(n:Int):Prop:=k.min≤n∧n≤k.max
theorem GK{n:Int}(h:sA .i64 n):∃m:Int64,n=m.toInt:=by
 refine⟨Int64.ofInt n,?_⟩;have h1:a8 n=n:=by
  unfold a8;rw[IntKind.wrap_i64];have h2: -9223372036854775808≤n:=h.1;have h3:n≤9223372036854775807:=h.2;omega
 rw[Int64.toInt_ofInt,←yn];exact h1.symm
theorem RT{p:agU D}:∀{l:agU (agU D)},p∈l→SizeOf.sizeOf p≤SizeOf.sizeOf l.flatten
 |[],h=>by cases h
 |q::l,h=>by
  have app:∀a b:agU D,SizeOf.sizeOf a≤SizeOf.sizeOf (a++b)∧SizeOf.sizeOf b≤SizeOf.sizeOf (a++b):=by
   intro a b
   induction a with
   |nil=>cases b<;>simp only[List.nil_append,List.nil.sizeOf_spec,List.cons.sizeOf_spec]<;>omega
   |cons x a ih=>simp only[List.cons_append,List.cons.sizeOf_spec];omega
  rw[List.flatten_cons];rcases agA.1 h with rfl|h
  ·exact(app _ _).1
  ·exact ago (RT h) (app _ _).2
theorem R2{xs:agU D}(h:dV Tryz.prog 22 xs):∃l:agU agV,xs=[.sl (aB l)]∧(l.length≤140737488355328∧∀a∈l,a.size≤maxLen):=by
 obtain⟨l,rfl,hl,hs⟩:=h.py Tryz.underlying22;obtain⟨r,rfl,hr⟩:=oz (f:=dZ) (Q:=fun a=>a.size≤maxLen) l (fun x hx=>by
  obtain⟨n_x,rfl,w_x⟩:=(hs x hx).tB Tryz.underlying9;exact⟨n_x,rfl,w_x⟩)
 exact⟨r,by rw[k9],by simpa using hl,hr⟩
structure Dl(x:aF):Prop where
 h0:x.aq.size≤maxLen
 h1:True
theorem acv{xs:agU D}(h:dV Tryz.prog 92 xs):∃x:aF,xs=y9 x∧Dl x:=by
 obtain⟨parts,rfl,hl,hx⟩:=h.mT Tryz.underlying92
 match parts,hl with
 |[a0,a1],_=>
 obtain⟨jo,rfl,iF⟩:=(hx 0 _ _ rfl rfl).tB Tryz.underlying9;obtain⟨jh,rfl,jj⟩:=(hx 1 _ _ rfl rfl).nv Tryz.underlying2;obtain⟨HA,rfl⟩:=GK jj;exact⟨⟨jo,HA⟩,rfl,⟨iF,trivial⟩⟩
theorem ach{xs:agU D}(h:dV Tryz.prog 46 xs):∃l:agU aF,xs=[.sl (bJ l)]∧(l.length≤140737488355328∧∀a∈l,Dl a):=by
 obtain⟨l,rfl,hl,hs⟩:=h.py Tryz.underlying46;obtain⟨r,rfl,hr⟩:=oz (f:=y9) (Q:=fun a=>Dl a) l (fun x hx=>acv (hs x hx));exact⟨r,by rw[o8],by simpa using hl,hr⟩
structure oQ(x:aw):Prop where
 h0:True
 h1:x.xL.length≤140737488355328∧∀a∈x.xL,Dl a
theorem AY{xs:agU D}(h:dV Tryz.prog 48 xs):∃x:aw,xs=ki x∧oQ x:=by
 obtain⟨parts,rfl,hl,hx⟩:=h.mT Tryz.underlying48
 match parts,hl with
 |[a0,a1],_=>
 obtain⟨jo,rfl,iF⟩:=(hx 0 _ _ rfl rfl).nv Tryz.underlying2;obtain⟨Kg,rfl⟩:=GK iF;obtain⟨jh,rfl,jj⟩:=ach (hx 1 _ _ rfl rfl);exact⟨⟨Kg,jh⟩,rfl,⟨trivial,jj⟩⟩
structure Ej(x:cv):Prop where
 h0:oQ x.aL
 h1:True
theorem adQ{xs:agU D}(h:dV Tryz.prog 57 xs):∃x:cv,xs=Ak x∧Ej x:=by
 obtain⟨parts,rfl,hl,hx⟩:=h.mT Tryz.underlying57
 match parts,hl with
 |[a0,a1],_=>
 obtain⟨jo,rfl,iF⟩:=AY (hx 0 _ _ rfl rfl);obtain⟨jh,rfl⟩:=(hx 1 _ _ rfl rfl).WI Tryz.underlying4;exact⟨⟨jo,jh⟩,rfl,⟨iF,trivial⟩⟩
theorem Xk{xs:agU D}(h:dV Tryz.prog 23 xs):∃l:agU cv,xs=[.sl (bw l)]∧(l.length≤140737488355328∧∀a∈l,Ej a):=by
 obtain⟨l,rfl,hl,hs⟩:=h.py Tryz.underlying23;obtain⟨r,rfl,hr⟩:=oz (f:=Ak) (Q:=fun a=>Ej a) l (fun x hx=>adQ (hs x hx));exact⟨r,by rw[tI],by simpa using hl,hr⟩
structure D7(x:bn):Prop where
 h0:sA .i64 x.bW
 h1:sA .i64 x.ca
 h2:sA .i64 x.cF
 h3:sA .i64 x.cE
 h4:sA .i64 x.cJ
theorem Ls{xs:agU D}(h:dV Tryz.prog 42 xs):∃x:bn,xs=Db x∧D7 x:=by
 obtain⟨parts,rfl,hl,hx⟩:=h.mT Tryz.underlying42
 match parts,hl with
 |[a0,a1,a2,a3,a4],_=>
 obtain⟨jo,rfl,iF⟩:=(hx 0 _ _ rfl rfl).nv Tryz.underlying3;obtain⟨jh,rfl,jj⟩:=(hx 1 _ _ rfl rfl).nv Tryz.underlying3;obtain⟨ng,rfl,nd⟩:=(hx 2 _ _ rfl rfl).nv Tryz.underlying3;obtain⟨vo,rfl,vc⟩:=(hx 3 _ _ rfl rfl).nv Tryz.underlying3;obtain⟨tU,rfl,tb⟩:=(hx 4 _ _ rfl rfl).nv Tryz.underlying3;exact⟨⟨jo,jh,ng,vo,tU⟩,rfl,⟨iF,jj,nd,vc,tb⟩⟩
theorem RX{xs:agU D}(h:dV Tryz.prog 58 xs):∃l:agU aw,xs=[.sl (cH l)]∧(l.length≤140737488355328∧∀a∈l,oQ a):=by
 obtain⟨l,rfl,hl,hs⟩:=h.py Tryz.underlying58;obtain⟨r,rfl,hr⟩:=oz (f:=ki) (Q:=fun a=>oQ a) l (fun x hx=>AY (hs x hx));exact⟨r,by rw[pN],by simpa using hl,hr⟩
structure FH(x:bN):Prop where
 h0:x.aq.size≤maxLen
 h1:D7 x.aC
 h2:x.aS.length≤140737488355328∧∀a∈x.aS,oQ a
theorem aec{xs:agU D}(h:dV Tryz.prog 60 xs):∃x:bN,xs=zH x∧FH x:=by
 obtain⟨parts,rfl,hl,hx⟩:=h.mT Tryz.underlying60
 match parts,hl with
 |[a0,a1,a2],_=>
 obtain⟨jo,rfl,iF⟩:=(hx 0 _ _ rfl rfl).tB Tryz.underlying9;obtain⟨jh,rfl,jj⟩:=Ls (hx 1 _ _ rfl rfl);obtain⟨ng,rfl,nd⟩:=RX (hx 2 _ _ rfl rfl);exact⟨⟨jo,jh,ng⟩,rfl,⟨iF,jj,nd⟩⟩
theorem aaF{xs:agU D}(h:dV Tryz.prog 24 xs):∃l:agU bN,xs=[.sl (bx l)]∧(l.length≤140737488355328∧∀a∈l,FH a):=by
 obtain⟨l,rfl,hl,hs⟩:=h.py Tryz.underlying24;obtain⟨r,rfl,hr⟩:=oz (f:=zH) (Q:=fun a=>FH a) l (fun x hx=>aec (hs x hx));exact⟨r,by rw[ve],by simpa using hl,hr⟩
structure y8(x:bf):Prop where
 h0:x.aq.size≤maxLen
 h1:oQ x.ep
theorem adR{xs:agU D}(h:dV Tryz.prog 64 xs):∃x:bf,xs=zy x∧y8 x:=by
 obtain⟨parts,rfl,hl,hx⟩:=h.mT Tryz.underlying64
 match parts,hl with
 |[a0,a1],_=>
 obtain⟨jo,rfl,iF⟩:=(hx 0 _ _ rfl rfl).tB Tryz.underlying9;obtain⟨jh,rfl,jj⟩:=AY (hx 1 _ _ rfl rfl);exact⟨⟨jo,jh⟩,rfl,⟨iF,jj⟩⟩
theorem Nl{xs:agU D}(h:dV Tryz.prog 43 xs):∃l:agU bf,xs=[.sl (cm l)]∧(l.length≤140737488355328∧∀a∈l,y8 a):=by
 obtain⟨l,rfl,hl,hs⟩:=h.py Tryz.underlying43;obtain⟨r,rfl,hr⟩:=oz (f:=zy) (Q:=fun a=>y8 a) l (fun x hx=>adR (hs x hx));exact⟨r,by rw[tL],by simpa using hl,hr⟩
structure TA(x:fO):Prop where
 h0:True
 h1:True
theorem acy{xs:agU D}(h:dV Tryz.prog 45 xs):∃x:fO,xs=Xz x∧TA x:=by
 obtain⟨parts,rfl,hl,hx⟩:=h.mT Tryz.underlying45
 match parts,hl with
 |[a0,a1],_=>
 obtain⟨jo,rfl,iF⟩:=(hx 0 _ _ rfl rfl).nv Tryz.underlying2;obtain⟨Kg,rfl⟩:=GK iF;obtain⟨jh,rfl,jj⟩:=(hx 1 _ _ rfl rfl).nv Tryz.underlying2;obtain⟨HA,rfl⟩:=GK jj;exact⟨⟨Kg,HA⟩,rfl,⟨trivial,trivial⟩⟩
structure FA(x:az):Prop where
 h0:oQ x.aL
 h1:x.aV.size≤maxLen
 h2:x.bj.length≤140737488355328∧∀a∈x.bj,oQ a
theorem Xi{xs:agU D}(h:dV Tryz.prog 80 xs):∃x:az,xs=fk x∧FA x:=by
 obtain⟨parts,rfl,hl,hx⟩:=h.mT Tryz.underlying80
 match parts,hl with
 |[a0,a1,a2],_=>
 obtain⟨jo,rfl,iF⟩:=AY (hx 0 _ _ rfl rfl);obtain⟨jh,rfl,jj⟩:=(hx 1 _ _ rfl rfl).tB Tryz.underlying9;obtain⟨ng,rfl,nd⟩:=RX (hx 2 _ _ rfl rfl);exact⟨⟨jo,jh,ng⟩,rfl,⟨iF,jj,nd⟩⟩
theorem ae1{xs:agU D}(h:dV Tryz.prog 49 xs):∃l:agU az,xs=[.sl (bC l)]∧(l.length≤140737488355328∧∀a∈l,FA a):=by
 obtain⟨l,rfl,hl,hs⟩:=h.py Tryz.underlying49;obtain⟨r,rfl,hr⟩:=oz (f:=fk) (Q:=fun a=>FA a) l (fun x hx=>Xi (hs x hx));exact⟨r,by rw[pa],by simpa using hl,hr⟩
inductive ua:ar→Prop
 |mk (x:ar) (h0:sA .i64 x.aQ) (h1:x.aq.size≤maxLen) (h2:TA x.dm) (h3:D7 x.aC) (h4:oQ x.aL) (h5:x.xIdx.length≤140737488355328∧∀a∈x.xIdx,FA a) (h6:x.a7.length≤140737488355328) (g6:∀a∈x.a7,ua a):ua x
theorem Od:∀(n:Nat)(xs:agU D),SizeOf.sizeOf xs<n→dV Tryz.prog 52 xs→∃x:ar,xs=cB x∧ua x
 |0,_,h,_=>absurd h (agy _)
 |n+1,xs,hn,h=>by
  obtain⟨parts,rfl,hl,hx⟩:=h.mT Tryz.underlying52
  match parts,hl with
  |[a0,a1,a2,a3,a4,a5,a6],_=>
  obtain⟨jo,rfl,iF⟩:=(hx 0 _ _ rfl rfl).nv Tryz.underlying3;obtain⟨jh,rfl,jj⟩:=(hx 1 _ _ rfl rfl).tB Tryz.underlying9;obtain⟨ng,rfl,nd⟩:=acy (hx 2 _ _ rfl rfl);obtain⟨vo,rfl,vc⟩:=Ls (hx 3 _ _ rfl rfl);obtain⟨tU,rfl,tb⟩:=AY (hx 4 _ _ rfl rfl);obtain⟨LB,rfl,I1⟩:=ae1 (hx 5 _ _ rfl rfl);obtain⟨l_,rfl,Xc,XI⟩:=(hx 6 _ _ rfl rfl).py Tryz.underlying50;obtain⟨r_,rfl,hr_⟩:=oz (f:=cB) (Q:=ua) l_ (fun x hx=>Od n x (by have h1:=List.sizeOf_lt_of_mem hx;have h2:SizeOf.sizeOf [D.sl l_]<n+1:=Nat.lt_of_le_of_lt (RT (by simp)) hn;simp only[List.cons.sizeOf_spec,D.sl.sizeOf_spec,List.nil.sizeOf_spec]at h2;omega) (XI x hx));refine⟨⟨jo,jh,ng,vo,tU,LB,r_⟩,?_, .mk _ iF jj nd vc tb I1 (by simpa using Xc) hr_⟩;show _=cB _;unfold cB;rw[lf];rfl
theorem Zd{xs:agU D}(h:dV Tryz.prog 52 xs):∃x:ar,xs=cB x∧ua x:=Od _ xs (agS _) h
structure FV(x:aG):Prop where
 h0:x.aq.size≤maxLen
 h1:D7 x.aC
 h2:x.aS.length≤140737488355328∧∀a∈x.aS,y8 a
 h3:x.bI.length≤140737488355328∧∀a∈x.bI,y8 a
 h4:sA .i64 x.cG
 h5:ua x.bq
theorem aeA{xs:agU D}(h:dV Tryz.prog 54 xs):∃x:aG,xs=b6 x∧FV x:=by
 obtain⟨parts,rfl,hl,hx⟩:=h.mT Tryz.underlying54
 match parts,hl with
 |[a0,a1,a2,a3,a4,a5],_=>
 obtain⟨jo,rfl,iF⟩:=(hx 0 _ _ rfl rfl).tB Tryz.underlying9;obtain⟨jh,rfl,jj⟩:=Ls (hx 1 _ _ rfl rfl);obtain⟨ng,rfl,nd⟩:=Nl (hx 2 _ _ rfl rfl);obtain⟨vo,rfl,vc⟩:=Nl (hx 3 _ _ rfl rfl);obtain⟨tU,rfl,tb⟩:=(hx 4 _ _ rfl rfl).nv Tryz.underlying3;obtain⟨LB,rfl,I1⟩:=Zd (hx 5 _ _ rfl rfl);exact⟨⟨jo,jh,ng,vo,tU,LB⟩,rfl,⟨iF,jj,nd,vc,tb,I1⟩⟩
theorem Zo{xs:agU D}(h:dV Tryz.prog 25 xs):∃l:agU aG,xs=[.sl (bP l)]∧(l.length≤140737488355328∧∀a∈l,FV a):=by
 obtain⟨l,rfl,hl,hs⟩:=h.py Tryz.underlying25;obtain⟨r,rfl,hr⟩:=oz (f:=b6) (Q:=fun a=>FV a) l (fun x hx=>aeA (hs x hx));exact⟨r,by rw[me],by simpa using hl,hr⟩
structure S5(x:aY):Prop where
 h0:x.bu.length≤140737488355328∧∀a∈x.bu,a.size≤maxLen
 h1:x.cM.length≤140737488355328∧∀a∈x.cM,Ej a
 h2:x.bk.length≤140737488355328∧∀a∈x.bk,FH a
 h3:x.ay.length≤140737488355328∧∀a∈x.ay,FV a
 h4:x.cu.length≤140737488355328∧∀a∈x.cu,a.size≤maxLen
theorem Xm{xs:agU D}(h:dV Tryz.prog 27 xs):∃x:aY,xs=aex x∧S5 x:=by
 obtain⟨parts,rfl,hl,hx⟩:=h.mT Tryz.underlying27
 match parts,hl with
 |[a0,a1,a2,a3,a4],_=>
 obtain⟨jo,rfl,iF⟩:=R2 (hx 0 _ _ rfl rfl);obtain⟨jh,rfl,jj⟩:=Xk (hx 1 _ _ rfl rfl);obtain⟨ng,rfl,nd⟩:=aaF (hx 2 _ _ rfl rfl);obtain⟨vo,rfl,vc⟩:=Zo (hx 3 _ _ rfl rfl);obtain⟨tU,rfl,tb⟩:=R2 (hx 4 _ _ rfl rfl);exact⟨⟨jo,jh,ng,vo,tU⟩,rfl,⟨iF,jj,nd,vc,tb⟩⟩
def aaw:agU TypeId:=[2,3,4,9,22,23,24,25,27,42,43,45,46,48,49,50,52,54,57,58,60,64,80,92]
theorem afj:Ic Tryz.prog aaw=true:=by kernel_rfl
theorem Xr{e:ar}(h:ua e):jf nD e:=by
 induction h with
 |mk x h0 h1 h2 h3 h4 h5 h6 g6 ih=>
  intro y hy;rcases agA.1 hy with rfl|hy
  ·exact⟨h4.h1.1,h5.1,fun z hz=>⟨(h5.2 z hz).h0.h1.1,(h5.2 z hz).h2.1,fun l hl=>((h5.2 z hz).h2.2 l hl).h1.1⟩,h6⟩
  ·obtain⟨a,ha,hy⟩:=um hy;exact ih a ha y hy
theorem RA{d:aG}{l:agU aG}(h:d∈l):SizeOf.sizeOf d.bq<SizeOf.sizeOf l:=by
 have h1:=List.sizeOf_lt_of_mem h;have h2:SizeOf.sizeOf d.bq<SizeOf.sizeOf d:=by cases d;simp only[aG.mk.sizeOf_spec];omega
 omega
theorem ac1(p:aY)(s:agV)(h:S5 p)(_:s.size≤maxLen):bA Tryz.prog 5 [aZ p,bp s] (·= .d (.v (.bool true))):=by
 refine YZ (2147483649+2*SizeOf.sizeOf p.ay+2*SizeOf.sizeOf (lz p s)) p s true (ab8 _ p s (by omega) (fun d hd=>⟨Xr (h.h3.2 d hd).h5,?_⟩) fun d hd=> ?_)
 ·have:=RA hd;omega
 ·have:=RA hd;omega
end Go.Proofs.YtphmhnabilhbgaaGreatDoor
