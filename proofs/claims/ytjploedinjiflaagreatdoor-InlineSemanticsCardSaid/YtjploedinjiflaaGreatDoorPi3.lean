/-
  Part 3 of the proof.
-/
import Derived.Test.YtjploedinjiflaaGreatDoorPi2
import Derived.WalkKit
import Derived.Laws.CopyOwn
import Derived.Deep.AppendLies
import Derived.Lib.AppendZerosOnto
import Derived.Lib.Overlaps
import Derived.Lib.Hide
import Derived.ProofKit
import Derived.DataOpen
import Derived.SizedLaws
set_option linter.defProp false
namespace Go.Proofs.YtjploedinjiflaaGreatDoor
open Go.RowKit
mutual
def AV.gi(b:Nat)(ds:U D):AV->AV
 | .ptr n off=>bif n==b then .bm [ds] 0 off else .ptr n off
 | .agg cs=>.agg (AV.xF b ds cs)
 | .bw cs=>.bw (AV.xF b ds cs)
 | .fn f cs=>.fn f (AV.xF b ds cs)
 |x=>x
def AV.xF(b:Nat)(ds:U D):U AV->U AV
 |[]=>[]
 |x::l=>x.gi b ds::AV.xF b ds l
end
def G7(b:Nat)(d:U D):∀l,AV.xF b d l=l.map (AV.gi b d)
 |[]=>by simp [AV.xF]
 |x::l=>by simp [AV.xF,G7 b d l]
def ao.gi(b:Nat)(d:U D):ao->ao
 | .cells cs=>.cells (cs.map (AV.gi b d))
 | .lp f p as bd cs=>.lp f p as bd (cs.map (AV.gi b d))
 | .it i cs=>.it i (cs.map (AV.gi b d))
 | .gu T cs=>.gu T (cs.map (AV.gi b d))
 | .vec e k cs=>.vec e k (cs.map (·.map (AV.gi b d)))
 |B=>B
def yR(s:St)(b:Nat):O St:=
 match s.h[b]? with
 |some (.cells cs)=>match pg cs with
  |some d=>some ⟨s.n,s.t.map λp=>(p.1,p.2.gi b d),(s.h.map (ao.gi b d)).set b .gone⟩
  |none=>none
 |_=>none
def y4(f:AV->AV)(b:f .dead= .dead):∀(t:U (Nat×AV))(i:Nat),bE (t.map λp=>(p.1,f p.2)) i=f (bE t i)
 |[],i=>by simp [bE,b]
 |(k,x)::l,i=>by
  simp only[ZY,mN,y4 f b l i];split<;>rfl
def aM.gi{G G':Gh}{w:Zy}{b:Nat}{M:U D}(hE:cf G.N G w G' w)(hN:G'.N=G.N)(B:∀off,aM G' w (.pointer (some ⟨G.bn b,off,none⟩)) (.bm [M] 0 off)){u:oZ}{x:AV}(h:aM G w u x):aM G' w u (x.gi b M):=by
 have keep:∀{u:oZ}{x:AV},aM G w u x->aM G' w u x:=λh=>h.keep hE (Nat.le_of_eq hN.symm);have R:∀(p:Array oZ)(cs:U AV),(∀(i:Nat)(u:oZ)(c:AV),p[i]?=some u->cs[i]?=some c->aM G' w u (c.gi b M))->∀(i:Nat)(u:oZ)(c:AV),p[i]?=some u->(AV.xF b M cs)[i]?=some c->aM G' w u c:=by
  intro p cs q i u c hu F;rw[G7,Zm]at F;cases J:cs[i]? with
  |none=>rw[J]at F;cases F
  |some x=>rw[J]at F;cases F;exact q i u x hu J
 induction h with
 |agg p cs v _ q=>rw[AV.gi];exact .agg p _ (by rw[G7,Zw];exact v) (R p cs q)
 |bw p cs v _ q=>rw[AV.gi];exact .bw p _ (by rw[G7,Zw];exact v) (R p cs q)
 |fn f p cs v _ q=>rw[AV.gi];exact .fn f p _ (by rw[G7,Zw];exact v) (R p cs q)
 |ptr n off h=>
  rw[AV.gi,cond_eq_ite];split;{next e=>rw[TC]at e;subst e;exact B off};{exact keep (.ptr n off h)}
 |own n xs h B hle z=>simp only[AV.gi];exact keep (.own n xs h B hle z)
 |d h=>simp only[AV.gi];exact keep (.d h)
 |bm xs i off b o u x J hS hu=>simp only[AV.gi];exact keep (.bm xs i off b o u x J hS hu)
 |full xs B z=>simp only[AV.gi];exact keep (.full xs B z)
 |row n off len cap k h v hm=>simp only[AV.gi];exact keep (.row n off len cap k h v hm)
 |mp n h=>simp only[AV.gi];exact keep (.mp n h)
 |cD n h=>simp only[AV.gi];exact keep (.cD n h)
 |vec n o len L k h hs hL z=>simp only[AV.gi];exact keep (.vec n o len L k h hs hL z)
 |dU n i j L k h hs hL z=>simp only[AV.gi];exact keep (.dU n i j L k h hs hL z)
 |hid h h1=>simp only[AV.gi];exact keep (.hid h h1)
 |dead u=>simp only[AV.gi];exact .dead u
def X2:∀(cs:U AV)(b:U D),pg cs=some b->cs.length=b.length/\∀(i:Nat)(c:AV)(d:D),cs[i]?=some c->b[i]?=some d->c.yW=some d
 |[],b,h=>by unfold pg at h;cases h;exact⟨rfl,λi c d e=>by simp at e⟩
 |x::cs,b,h=>by
  unfold pg at h;split at h
  ·next d l k p=>
   cases h
   obtain⟨q,u⟩:=X2 cs l p;refine⟨by simp [q],λi c v e f=> ?_⟩
   match i with
   |0=>simp only[List.getElem?_cons_zero,Vg]at e f;subst e;subst f;exact k
   |i+1=>exact u i c v (by simpa using e) (by simpa using f)
  ·cases h
def aM.al8{G:Gh}{w:Zy}{u:oZ}{x:AV}{d:D}(h:aM G w u x)(b:x.yW=some d):dR G.S w u d:=by
 cases h with
 |d h=>cases b;exact h.xH
 |own n xs h e=>cases b;exact e
 |full xs e=>cases b;exact e
 |_=>cases b
def dk.yR{G:Gh}{w:Zy}{a:Act}{s s':St}{b:Nat}(F:dk G w a s)(h:yR s b=some s'):∃G',cf G.N G w G' w/\G'.N=G.N/\dk G' w a s':=by
 unfold Go.Proofs.YtjploedinjiflaaGreatDoor.yR at h;split at h
 ·next cs hb=>
  split at h
  ·next ds sX=>
   cases h
   obtain⟨z1,z2,vs,T,z3,z4,z5⟩:=F.inv.dN b _ hb;obtain⟨d1,d2⟩:=X2 cs ds sX;have mV:cu s.h G b=some (G.bn b):=eN hb;obtain⟨S,M⟩:∃S:Nat->Nat->Prop,S=λb' o=>G.S b' o\/(b'=G.bn b/\o<ds.length):=⟨_,rfl⟩;have hE:cf G.N G w {G with S:=S} w:=⟨Zx _,λb o h=>by show S b o;rw[M];exact .inl h,λ_ _ _=>rfl,λ_ _=>rfl,λ_ _=>.inl ⟨rfl,rfl⟩,iJ rfl,λ_ _=>rfl,rfl,rfl,rfl,λb' o F=>by
    have q:S b' o:=F;rw[M]at q;rcases q with h|⟨rfl,_⟩
    ·exact .inl h
    ·exact .inr z1⟩
   have hp:∀off,aM {G with S:=S} w (.pointer (some ⟨G.bn b,off,none⟩)) (.bm [ds] 0 off):=λoff=>by
    have:=aM.bm (G:={G with S:=S}) (w:=w) [ds] 0 off (G.bn b) 0 (λj=>vs.getD j undef) ds rfl (λj hj=> ?_) (λj d hd=> ?_);{rwa [ZQ]at this}
    ·have jw:j<vs.size:=by rw[z4,d1];exact hj
     refine⟨by show S _ _;rw[M];exact .inr ⟨rfl,by rw[ZQ];exact hj⟩,?_⟩;rw[ZQ,cell_of_row w (G.bn b) j vs T (0,0) z3];simp [Array.getD,jw]
    ·have hj:j<ds.length:=(Zj.1 hd).1;have jw:j<vs.size:=by rw[z4,d1];exact hj
     have f:cs[j]?=some cs[j]:=Zd (by rw[d1];exact hj);have hv:=z5 j vs[j] _ (ZI jw) f;have e:vs.getD j undef=vs[j]:=by simp [Array.getD,jw]
     rw[e];exact(hv.al8 (d2 j _ d f hd)).keep hE.S hE.cell
   have hv:∀{u:oZ}{x:AV},aM G w u x->aM {G with S:=S} w u (x.gi b ds):=λh=>h.gi hE rfl hp;have aoh:=(Zj.1 hb).1;have fQ:∀(n:Nat)(B:ao),((s.h.map (ao.gi b ds)).set b .gone)[n]?=some B->(n=b/\B= .gone)\/(n≠b/\∃B',s.h[n]?=some B'/\B=B'.gi b ds):=λn B hB=>by
    by_cases e:b=n;{subst e;rw[ZB (by rw[Zw];exact aoh)]at hB;cases hB;exact .inl ⟨rfl,rfl⟩}
    ·rw[Z7 e,Zm]at hB;cases v:s.h[n]? with
     |none=>rw[v]at hB;cases hB
     |some B'=>rw[v]at hB;cases hB;exact .inr ⟨λh=>e h.symm,B',rfl,rfl⟩
   have fg:∀n x,cu ((s.h.map (ao.gi b ds)).set b .gone) {G with S:=S} n=some x->n≠b/\cu s.h G n=some x:=λn x v=>by
    obtain⟨B,hn,v⟩:=nv v;rcases fQ n _ hn with⟨_,e⟩|⟨R,B',J,rfl⟩
    ·subst e;cases v
    ·refine⟨R,?_⟩;rw[eN J,<-v];cases B'<;>rfl
   refine⟨{G with S:=S},hE,rfl,F.size,λi=> ?_,⟨by rw[Zf,Zw];exact F.inv.len,F.inv.z,λb' o h=> ?_,λn B hB=> ?_,λm n x J h2=>F.inv.inj m n x (fg m x J).2 (fg n x h2).2,F.inv.gl.keep hE⟩,F.df⟩;{show aM _ _ _ (bE (s.t.map λp=>(p.1,p.2.gi b ds)) i);rw[y4 (AV.gi b ds) (by simp [AV.gi])];exact hv (F.tmp i)}
   ·have q:S b' o:=h;rw[M]at q;rcases q with h|⟨rfl,_⟩
    ·exact F.inv.S b' o h
    ·exact(ZP.1 z3).1
   ·rcases fQ n B hB with⟨rfl,rfl⟩|⟨R,B',J,rfl⟩
    ·trivial
    ·have eO:=F.inv.dN n B' J;cases B' with
     |gone=>trivial
     |map kv=>exact fj.keep (G':={G with S:=S}) (F.inv.lt J) hE (Zx _) ⟨rfl,rfl,rfl⟩ (λc f=>⟨rfl,λo kL L=>by
      have q:S c o:=L;rw[M]at q;rcases q with h|⟨e,_⟩
      ·exact kL h
      ·exact R (F.inv.inj n b _ ((eN J).trans f) (by rw[e];exact mV))⟩) eO
     |l7 kv=>exact fj.keep (G':={G with S:=S}) (F.inv.lt J) hE (Zx _) ⟨rfl,rfl,rfl⟩ (λc f=>⟨rfl,λo kL L=>by
      have q:S c o:=L;rw[M]at q;rcases q with h|⟨e,_⟩
      ·exact kL h
      ·exact R (F.inv.inj n b _ ((eN J).trans f) (by rw[e];exact mV))⟩) eO
     |front e k len=>exact fj.keep (G':={G with S:=S}) (F.inv.lt J) hE (Zx _) ⟨rfl,rfl,rfl⟩ (λc f=>⟨rfl,λo kL L=>by
      have q:S c o:=L;rw[M]at q;rcases q with h|⟨e,_⟩
      ·exact kL h
      ·exact R (F.inv.inj n b _ ((eN J).trans f) (by rw[e];exact mV))⟩) eO
     |jC e b2=>exact fj.keep (G':={G with S:=S}) (F.inv.lt J) hE (Zx _) ⟨rfl,rfl,rfl⟩ (λc f=>⟨rfl,λo kL L=>by
      have q:S c o:=L;rw[M]at q;rcases q with h|⟨e,_⟩
      ·exact kL h
      ·exact R (F.inv.inj n b _ ((eN J).trans f) (by rw[e];exact mV))⟩) eO
     |cells cw=>
      obtain⟨c1,c2,gM,T',c3,c4,c5⟩:=eO;have np:cu s.h G n=some (G.bn n):=eN J;refine⟨c1,λo L=> ?_,gM,T',c3,by rw[Zw];exact c4,λi u c hu f=> ?_⟩
      ·have q:S (G.bn n) o:=L;rw[M]at q;rcases q with h|⟨e,_⟩
       ·exact c2 o h
       ·exact R (F.inv.inj n b _ np (by rw[e];exact mV))
      ·rw[Zm]at f;cases v:cw[i]? with
       |none=>rw[v]at f;cases f
       |some x=>rw[v]at f;cases f;exact hv (c5 i u x hu v)
     |lp ls p as bd cw=>
      obtain⟨c1,c2,fn,gM,T',c3,c4,c5⟩:=eO;have np:cu s.h G n=some (G.bn n):=eN J;refine⟨c1,λo L=> ?_,fn,gM,T',c3,by rw[Zw];exact c4,λi u c hu f=> ?_⟩
      ·have q:S (G.bn n) o:=L;rw[M]at q;rcases q with h|⟨e,_⟩
       ·exact c2 o h
       ·exact R (F.inv.inj n b _ np (by rw[e];exact mV))
      ·rw[Zm]at f;cases v:cw[i]? with
       |none=>rw[v]at f;cases f
       |some x=>rw[v]at f;cases f;exact hv (c5 i u x hu v)
     |it sn cw=>
      obtain⟨c1,c2,fn,gM,T',c3,c4,c5⟩:=eO;have np:cu s.h G n=some (G.bn n):=eN J;refine⟨c1,λo L=> ?_,fn,gM,T',c3,by rw[Zw];exact c4,λi u c hu f=> ?_⟩
      ·have q:S (G.bn n) o:=L;rw[M]at q;rcases q with h|⟨e,_⟩
       ·exact c2 o h
       ·exact R (F.inv.inj n b _ np (by rw[e];exact mV))
      ·rw[Zm]at f;cases v:cw[i]? with
       |none=>rw[v]at f;cases f
       |some x=>rw[v]at f;cases f;exact hv (c5 i u x hu v)
     |gu T0 cw=>
      obtain⟨c1,c2,fn,gM,T',c3,c4,c5⟩:=eO;have np:cu s.h G n=some (G.bn n):=eN J;refine⟨c1,λo L=> ?_,fn,gM,T',c3,by rw[Zw];exact c4,λi u c hu f=> ?_⟩
      ·have q:S (G.bn n) o:=L;rw[M]at q;rcases q with h|⟨e,_⟩
       ·exact c2 o h
       ·exact R (F.inv.inj n b _ np (by rw[e];exact mV))
      ·rw[Zm]at f;cases v:cw[i]? with
       |none=>rw[v]at f;cases f
       |some x=>rw[v]at f;cases f;exact hv (c5 i u x hu v)
     |vec e k cw=>
      obtain⟨c1,c2,c3,c4⟩:=eO;refine⟨by rw[Zw];exact c1,by rw[Zw];exact c2,λc f=> ?_,?_⟩;{obtain⟨x,v,rfl⟩:=UZ.1 f;rw[Zw];exact c3 x v}
      ·rcases c4 with⟨d1,d2,A,d3⟩|⟨g,cap,cur,d1,d2,d3,d4,d5,d6,d7,d8,d9⟩
       ·exact .inl ⟨d1,by rw[d2];rfl,A,d3⟩
       ·have np:cu s.h G n=some g:=(eN J).trans d1;refine .inr ⟨g,cap,cur,d1,by rw[Zw];exact d2,d3,d4,by rw[Zw];exact d5,d6,d7,λo L=> ?_,λi j c x u f v hu=> ?_⟩
        ·have q:S g o:=L;rw[M]at q;rcases q with h|⟨e,_⟩
         ·exact d8 o h
         ·exact R (F.inv.inj n b _ np (by rw[e];exact mV))
        ·rw[Zm]at f;cases hy:cw[i]? with
         |none=>rw[hy]at f;cases f
         |some y=>
          rw[hy]at f;cases f
          rw[Zm]at v;cases hw:y[j]? with
          |none=>rw[hw]at v;cases v
          |some z=>rw[hw]at v;cases v;exact hv (d9 i j y z u hy hw hu)
  ·cases h
 ·cases h
def UG{P:eG}{r:O Nat}{N0:Nat}{c:Code}{s s':St}{Q:Exit->St->Prop}(b:Nat)(e:yR s b=some s')(h:bM P r N0 c Q s'):bM P r N0 c Q s:=by
 constructor
 intro G w a n f d;obtain⟨i,k,p,q⟩:=f.yR e;exact wpIn_mono (h.run i w a n q (by rw[p];exact d)) λ_ _ _ u=>u.trans (k.less d)
def D.qS:D->Bool
 | .v u=>u.oneCell'
 | .sl _=>true
 | .ag _=>false
mutual
def AV.kill(b:Nat):AV->AV
 | .vec n o len L k=>bif n==b then .dead else .vec n o len L k
 | .dU n i j L k=>bif n==b then .dead else .dU n i j L k
 | .agg cs=>.agg (AV.LG b cs)
 | .bw cs=>.bw (AV.LG b cs)
 | .fn f cs=>.fn f (AV.LG b cs)
 |x=>x
def AV.LG(b:Nat):U AV->U AV
 |[]=>[]
 |x::l=>x.kill b::AV.LG b l
end
def ao.jr(f:AV->AV):ao->ao
 | .cells cs=>.cells (cs.map f)
 | .lp b p as bd cs=>.lp b p as bd (cs.map f)
 | .it d cs=>.it d (cs.map f)
 | .gu T cs=>.gu T (cs.map f)
 | .vec e k cs=>.vec e k (cs.map (·.map f))
 |B=>B
def X3{G:Gh}{w:Zy}{h:U ao}(hi:cp G w h){b:Nat}{S:Nat->Nat->Prop}{f:AV->AV}(hE:cf G.N G w {G with S:=S} w)(hS:∀c o,S c o->G.S c o\/cu h G b=some c)(hv:∀{u:oZ}{x:AV},aM G w u x->aM {G with S:=S} w u (f x)):
 cp {G with S:=S} w ((h.map (ao.jr f)).set b .gone):=by
 have fQ:∀(n:Nat)(B:ao),((h.map (ao.jr f)).set b .gone)[n]?=some B->(n=b/\B= .gone)\/(n≠b/\∃B',h[n]?=some B'/\B=B'.jr f):=λn B F=>by
  by_cases e:b=n;{subst e;have a8:=(Zj.1 F).1;rw[Zf]at a8;rw[ZB a8]at F;cases F;exact .inl ⟨rfl,rfl⟩}
  ·rw[Z7 e,Zm]at F;cases q:h[n]? with
   |none=>rw[q]at F;cases F
   |some B'=>rw[q]at F;cases F;exact .inr ⟨λh=>e h.symm,B',rfl,rfl⟩
 have fg:∀n x,cu ((h.map (ao.jr f)).set b .gone) {G with S:=S} n=some x->n≠b/\cu h G n=some x:=λn x q=>by
  obtain⟨B,hn,q⟩:=nv q;rcases fQ n _ hn with⟨_,e⟩|⟨cV,B',v,rfl⟩
  ·subst e;cases q
  ·refine⟨cV,?_⟩;rw[eN v,<-q];cases B'<;>rfl
 refine⟨by rw[Zf,Zw];exact hi.len,hi.z,λc o hs=> ?_,λn B F=> ?_,λm n x v h2=>hi.inj m n x (fg m x v).2 (fg n x h2).2,hi.gl.keep hE⟩
 ·rcases hS c o hs with v|v
  ·exact hi.S c o v
  ·exact hi.kR v
 ·rcases fQ n B F with⟨rfl,rfl⟩|⟨cV,B',v,rfl⟩
  ·trivial
  ·have J:=hi.dN n B' v;have L:∀c,B'.fv G n=some c->∀o,¬G.S c o->¬S c o:=λc d o kL hq=>by
    rcases hS c o hq with h2|h2
    ·exact kL h2
    ·exact cV (hi.inj n b c ((eN v).trans d) h2)
   cases B' with
   |gone=>trivial
   |map kv=>exact fj.keep (G':={G with S:=S}) (hi.lt v) hE (Zx _) ⟨rfl,rfl,rfl⟩ (λc d=>⟨rfl,L c d⟩) J
   |l7 kv=>exact fj.keep (G':={G with S:=S}) (hi.lt v) hE (Zx _) ⟨rfl,rfl,rfl⟩ (λc d=>⟨rfl,L c d⟩) J
   |front e k len=>exact fj.keep (G':={G with S:=S}) (hi.lt v) hE (Zx _) ⟨rfl,rfl,rfl⟩ (λc d=>⟨rfl,L c d⟩) J
   |jC e b2=>exact fj.keep (G':={G with S:=S}) (hi.lt v) hE (Zx _) ⟨rfl,rfl,rfl⟩ (λc d=>⟨rfl,L c d⟩) J
   |cells M=>
    obtain⟨R,c2,gM,T',c3,c4,c5⟩:=J;refine⟨R,λo=>L _ rfl o (c2 o),gM,T',c3,by rw[Zw];exact c4,λi u c hu d=> ?_⟩;rw[Zm]at d;cases q:M[i]? with
    |none=>rw[q]at d;cases d
    |some x=>rw[q]at d;cases d;exact hv (c5 i u x hu q)
   |lp ls p as bd M=>
    obtain⟨R,c2,fn,gM,T',c3,c4,c5⟩:=J;refine⟨R,λo=>L _ rfl o (c2 o),fn,gM,T',c3,by rw[Zw];exact c4,λi u c hu d=> ?_⟩;rw[Zm]at d;cases q:M[i]? with
    |none=>rw[q]at d;cases d
    |some x=>rw[q]at d;cases d;exact hv (c5 i u x hu q)
   |it sn M=>
    obtain⟨R,c2,fn,gM,T',c3,c4,c5⟩:=J;refine⟨R,λo=>L _ rfl o (c2 o),fn,gM,T',c3,by rw[Zw];exact c4,λi u c hu d=> ?_⟩;rw[Zm]at d;cases q:M[i]? with
    |none=>rw[q]at d;cases d
    |some x=>rw[q]at d;cases d;exact hv (c5 i u x hu q)
   |gu T0 M=>
    obtain⟨R,c2,fn,gM,T',c3,c4,c5⟩:=J;refine⟨R,λo=>L _ rfl o (c2 o),fn,gM,T',c3,by rw[Zw];exact c4,λi u c hu d=> ?_⟩;rw[Zm]at d;cases q:M[i]? with
    |none=>rw[q]at d;cases d
    |some x=>rw[q]at d;cases d;exact hv (c5 i u x hu q)
   |vec e k M=>
    obtain⟨R,c2,c3,c4⟩:=J;refine⟨by rw[Zw];exact R,by rw[Zw];exact c2,λc d=> ?_,?_⟩;{obtain⟨x,q,rfl⟩:=UZ.1 d;rw[Zw];exact c3 x q}
    ·rcases c4 with⟨d1,d2,A,d3⟩|⟨g,cap,cur,d1,d2,d3,d4,d5,d6,d7,d8,d9⟩
     ·exact .inl ⟨d1,by rw[d2];rfl,A,d3⟩
     ·refine .inr ⟨g,cap,cur,d1,by rw[Zw];exact d2,d3,d4,by rw[Zw];exact d5,d6,d7,λo=>L g d1 o (d8 o),λi j c x u d q hu=> ?_⟩;rw[Zm]at d;cases hy:M[i]? with
      |none=>rw[hy]at d;cases d
      |some y=>
       rw[hy]at d;cases d
       rw[Zm]at q;cases hw:y[j]? with
       |none=>rw[hw]at q;cases q
       |some z=>rw[hw]at q;cases q;exact hv (d9 i j y z u hy hw hu)
mutual
def AV.du(b kk:Nat)(xs:U (U D)):AV->AV
 | .vec n o len L k=>bif n==b then(bif L==xs.length&&k==kk then .d (.sl ((xs.drop o).take len))else .dead)else .vec n o len L k
 | .dU n i j L k=>bif n==b then .dead else .dU n i j L k
 | .agg cs=>.agg (AV.rS b kk xs cs)
 | .bw cs=>.bw (AV.rS b kk xs cs)
 | .fn f cs=>.fn f (AV.rS b kk xs cs)
 |x=>x
def AV.rS(b kk:Nat)(xs:U (U D)):U AV->U AV
 |[]=>[]
 |x::l=>x.du b kk xs::AV.rS b kk xs l
end
def s8(b d:Nat)(xs:U (U D)):∀l,AV.rS b d xs l=l.map (AV.du b d xs)
 |[]=>by simp [AV.rS]
 |x::l=>by simp [AV.rS,s8 b d xs l]
def aM.du{G G':Gh}{w:Zy}{b R:Nat}{xs:U (U D)}(hE:cf G.N G w G' w)(hN:G'.N=G.N)(F:∀(u:oZ)(o len:Nat),aM G w u (.vec b o len xs.length R)->dR G'.S w u (.sl ((xs.drop o).take len))){u:oZ}{x:AV}(h:aM G w u x):aM G' w u (x.du b R xs):=by
 have keep:∀{u:oZ}{x:AV},aM G w u x->aM G' w u x:=λh=>h.keep hE (Nat.le_of_eq hN.symm);have fY:∀(p:Array oZ)(cs:U AV),(∀(i:Nat)(u:oZ)(c:AV),p[i]?=some u->cs[i]?=some c->aM G' w u (c.du b R xs))->∀(i:Nat)(u:oZ)(c:AV),p[i]?=some u->(AV.rS b R xs cs)[i]?=some c->aM G' w u c:=by
  intro p cs z i u c hu J;rw[s8,Zm]at J;cases M:cs[i]? with
  |none=>rw[M]at J;cases J
  |some x=>rw[M]at J;cases J;exact z i u x hu M
 induction h with
 |agg p cs B _ z=>rw[AV.du];exact .agg p _ (by rw[s8,Zw];exact B) (fY p cs z)
 |bw p cs B _ z=>rw[AV.du];exact .bw p _ (by rw[s8,Zw];exact B) (fY p cs z)
 |fn f p cs B _ z=>rw[AV.du];exact .fn f p _ (by rw[s8,Zw];exact B) (fY p cs z)
 |vec n o len L k h hs hL v=>
  rw[AV.du,cond_eq_ite];split
  ·next e=>
   have e:n=b:=by simpa using e
   subst e;rw[cond_eq_ite];split
   ·next e2=>
    rw[Zo,TC,TC]at e2;obtain⟨rfl,rfl⟩:=e2;exact .d (F _ o len (.vec n o len _ _ h hs hL v))
   ·exact .dead _
  ·exact keep (.vec n o len L k h hs hL v)
 |dU n i j L k h hs hL v=>
  rw[AV.du,cond_eq_ite];split;{exact .dead _};{exact keep (.dU n i j L k h hs hL v)}
 |ptr n q h=>simp only[AV.du];exact keep (.ptr n q h)
 |own n xs h F hle v=>simp only[AV.du];exact keep (.own n xs h F hle v)
 |d h=>simp only[AV.du];exact keep (.d h)
 |bm xs i q b o u x M hS hu=>simp only[AV.du];exact keep (.bm xs i q b o u x M hS hu)
 |full xs F v=>simp only[AV.du];exact keep (.full xs F v)
 |row n q len cap k h B hm=>simp only[AV.du];exact keep (.row n q len cap k h B hm)
 |mp n h=>simp only[AV.du];exact keep (.mp n h)
 |cD n h=>simp only[AV.du];exact keep (.cD n h)
 |hid h h1=>simp only[AV.du];exact keep (.hid h h1)
 |dead u=>simp only[AV.du];exact .dead u
def dk.Q8{G:Gh}{w:Zy}{a:Act}{s:St}(J:dk G w a s)(xs:U (U D)){b e k:Nat}(hb:s.h[b]?=some (.vec e k (bf xs)))(gL:∀c∈xs,c.all D.qS=true)
 :∃G',cf G.N G w G' w/\G'.N=G.N/\dk G' w a ⟨s.n,s.t.map λp=>(p.1,p.2.du b k xs),(s.h.map (ao.jr (AV.du b k xs))).set b .gone⟩:=by
 obtain⟨L,hL⟩:∃L,xs.length=L:=⟨_,rfl⟩;have iU:(bf xs).length=L:=by unfold bf;rw[Zw];exact hL
 have jb:=zb J.inv hb;have kf:∀d∈xs,d.length=k:=λd F=>by
  have:=jb (d.map .d) (by unfold bf;exact UZ.2 ⟨d,F,rfl⟩)
  rwa [Zw]at this
 obtain⟨S,hS⟩:∃S:Nat->Nat->Prop,S=λc o=>G.S c o\/(cu s.h G b=some c/\o<L*k):=⟨_,rfl⟩;have hE:cf G.N G w {G with S:=S} w:=⟨Zx _,λb o h=>by show S b o;rw[hS];exact .inl h,λ_ _ _=>rfl,λ_ _=>rfl,λ_ _=>.inl ⟨rfl,rfl⟩,iJ rfl,λ_ _=>rfl,rfl,rfl,rfl,λc o hq=>by
  have cA:S c o:=hq;rw[hS]at cA;rcases cA with h|⟨h,_⟩
  ·exact .inl h
  ·obtain⟨B,hB,gY⟩:=nv h;exact .inr ((J.inv.dN b B hB).mD gY)⟩
 have IP:∀(u:oZ)(o len:Nat),aM G w u (.vec b o len xs.length k)->dR S w u (.sl ((xs.drop o).take len)):=λu o len s9=>by
  rw[hL]at s9;have mi:=s9.ud J.inv hb iU;obtain⟨yi,⟨A,cc,q1,q2,q3,q4,q5⟩,_⟩:=mi;generalize hy:(xs.drop o).take len=ys;have rF:ys.length=len:=by rw[<-hy,b6,ca];omega
  rw[q1,<-rF];show dR S w _ _;by_cases hh0:True
  ·skip
   by_cases h0:len=0;{have:ys=[]:=VC k7;subst this;exact .sl A 0 0 cc 0 [] (λ_ _=>undef) (λh=>absurd rfl h) (Wl _) q3 (λ_ h=>absurd h Yt) (λi j M=>absurd M (ZJ _)) (λi j x d z=>by simp at z)}
   ·obtain⟨g,cap,s1,rfl,s3⟩:=q5 k7;obtain⟨g',Ab,cur,r1,r2,r3,r4,r5,r6,r7,r8,r9⟩:=Ah J.inv hb (λe=>by rw[e]at iU;simp at iU;omega);rw[r2]at s1;cases s1
    have mV:cu s.h G b=some g:=(eN hb).trans r1;have jU:∀i,i<len->ys[i]?=xs[o+i]?:=λi eK=>by rw[<-hy,List.getElem?_take_of_lt eK,List.getElem?_drop]
    have ia:∀i j,i<len->j<k->o*k+i*k+j<cur.size:=λi j M R=>by
     have:=lX (i:=o+i) (k:=k) (L:=(bf xs).length) (j:=j) k7 R;rw[Ya]at this;have h2:(bf xs).length*k<=cap*k:=Xs k k7;rw[r7];omega
    have oF:∀(i j:Nat)(x:U D)(d:D),i<len->ys[i]?=some x->x[j]?=some d->aM G w (cur.getD (o*k+i*k+j) undef) (.d d):=λi j x d M z F=>by
     rw[jU i M]at z;have R:j<k:=by rw[<-kf x (ZZ z)];exact(Zj.1 F).1
     refine r9 (o+i) j (x.map .d) (.d d) _ (by unfold bf;rw[Zm,z];rfl) (by rw[Zm,F];rfl) ?_;have hc:=ia i j M R;rw[show(o+i)*k+j=o*k+i*k+j by rw[Ya]];simp [Array.getD,hc]
    refine .sl _ g (o*k) cc k ys (λi j=>cur.getD (o*k+i*k+j) undef) (λ_=>rfl) k7 q3 (λx z=> ?_) (λi j M R=>⟨?_,?_,?_⟩) (λi j x d z F=> ?_);{rw[<-hy]at z;exact kf x (a6 (List.mem_of_mem_take z))};{rw[hS];refine .inr ⟨mV,?_⟩;have:=lX (i:=o+i) (k:=k) (L:=(bf xs).length) (j:=j) k7 R;rw[Ya]at this;exact this};{rw[cell_of_row w g _ cur e (0,0) r4];have hc:=ia i j k7 R;simp [Array.getD,hc]}
    ·have eK:i<len:=by omega
     obtain⟨x,z⟩:∃x,ys[i]?=some x:=⟨_,Zd M⟩;have CI:=z;rw[jU i eK]at CI;have jd:=ZZ CI;obtain⟨d,F⟩:∃d,x[j]?=some d:=⟨_,Zd (by rw[kf x jd];exact R)⟩;refine(oF i j x d eK z F).kW ?_;have h1:=gL x jd;rw[Zc]at h1;have h2:=h1 d (ZZ F);cases d with
     |v u=>exact h2
     |sl l=>rfl
     |ag l=>exact absurd h2 Bool.false_ne_true
    ·have eK:i<len:=by rw[<-rF];exact(Zj.1 z).1
     have:=oF i j x d eK z F;generalize cur.getD (o*k+i*k+j) undef=q at this;cases this with|d h=>exact h.keep hE.S hE.cell
  ·exact(hh0 trivial).elim
 have hinv:=X3 (b:=b) (f:=AV.du b k xs) J.inv hE (λc o hq=>by rw[hS]at hq;exact hq.imp id And.left) (λhq=>hq.du hE rfl IP);have cA:dk {G with S:=S} w a ⟨s.n,s.t.map λp=>(p.1,p.2.du b k xs),(s.h.map (ao.jr (AV.du b k xs))).set b .gone⟩:=by
  refine⟨J.size,λi=> ?_,hinv,J.df⟩;show aM _ _ _ (bE (s.t.map λp=>(p.1,p.2.du b k xs)) i);rw[y4 (AV.du b k xs) (by simp [AV.du])];exact(J.tmp i).du hE rfl IP
 exact⟨_,hE,rfl,cA⟩
def zK(P:eG)(b:U ResultVar)(m:Nat)(s:St):O (AV×U ao):=
 match vr P s b with
 |some l=>bif cF m s.h.length&&((ly l).bK m).aN m&&(((s.h.take m).map (ao.bK m)).all (ao.aN m))then some (((ly l).bK m).nrm,((s.h.take m).map (ao.bK m)).map ao.sy)else none
 |none=>none
def wL(P:eG)(fn:Func)(m:Nat)(R:AV)(H:U ao):Exit->St->Prop
 | .normal,s=>zK P fn.results.toList m s=some (R,H)
 | .ret,s=>zK P fn.results.toList m s=some (R,H)
 |_,_=>False
def X1{P:eG}{s:St}{fn:Func}{m:Nat}{R:AV}{H:U ao}(h:zK P fn.results.toList m s=some (R,H)):tC P fn m (λr h'=>r.nrm=R/\h'.map ao.sy=H) s:=by
 unfold zK at h;split at h
 ·next l e=>
  obtain⟨b,d⟩:=eY h;cases d
  simp only[Zo,dT]at b;exact JN _ _ _ e ⟨b.1.1,b.1.2,b.2,rfl,rfl⟩
 ·cases h
def jQ{P:eG}{s:St}{fn:Func}{m:Nat}{R:AV}{H:U ao}(h:zK P fn.results.toList m s=some (R,H)):wL P fn m R H .ret s:=h
def sJ{P:eG}{f:FuncId}{fn:Func}{c:Code}{args:U AV}{h H:U ao}{R:AV}(m:Nat)(i:P.funcs[f]?=some fn)(k:fn.body=some c)(p:(fn.name== "runtime.NumGoroutine")=false)(q:h.length<=m)
 (u:bM P none h.length c (wL P fn m R H) {n:=args.length+(fn.ntmps-args.length),t:=nh 0 args,h:=h}):da P f args h λz h1=>z=R/\h1=H:=by
 have h0:=we (P:=P) (f:=f) (args:=args) (h:=h) (K:=λr d=>r.nrm=R/\d.map ao.sy=H) m i k p q (u.mono λe s b=>by
  cases e with
  |normal=>exact X1 b
  |ret=>exact X1 b
  |_=>exact b.elim)
 refine⟨h0.1,λG w B F J L=>(h0.2 G w B F J L).mono λe w' M=> ?_⟩;obtain⟨v,N,x,d,rfl,hE,hN,eK,hv,rfl,rfl⟩:=M;exact⟨v,N,x.nrm,_,rfl,hE,hN,VZ eK,hv.nrm,rfl,rfl⟩
def j0{P:eG}{r:O Nat}{N0:Nat}{c:Code}{s s':St}{Q:Exit->St->Prop}(e:s=s')(h:bM P r N0 c Q s'):bM P r N0 c Q s:=e▸h
def ic{b:Type}:U (so×b)->so->b->b
 |[],_,d=>d
 |(k,v)::l,s,d=>bif bL k==bL s then v else ic l s d
def nj{b:Type}:U (so×b)->so->Bool
 |[],_=>false
 |(k,_)::l,s=>bif bL k==bL s then true else nj l s
def fV(l:U (so×Int)):U (so×D):=l.map λp=>(p.1,.v (.int .i64 p.2))
def B8(l:U (so×Bool)):U (so×D):=l.map λp=>(p.1,.v (.bool p.2))
def X0{b:Type}(f:b->D):∀(l:U (so×b))(s:so)(d:b),mH (l.map λp=>(p.1,f p.2)) s=bif nj l s then some (f (ic l s d))else none
 |[],s,d=>rfl
 |(k,v)::l,s,d=>by
  simp only[ZY,mH,nj,ic];cases bL k==bL s with
  |true=>rfl
  |false=>simp only[Tf];exact X0 f l s d
def XV{b:Type}:∀(l:U (so×b))(s:so)(d:b),nj l s=false->ic l s d=d
 |[],s,d,_=>rfl
 |(k,v)::l,s,d,h=>by
  unfold nj at h;unfold ic;cases e:bL k==bL s with
  |true=>rw[e]at h;cases h
  |false=>rw[e]at h;simp only[Tf];exact XV l s d h
def Vb{b:Type}(f:b->D)(F:b->AV)(i:∀x,M6 (f x)=F x)(z:oZ)(d0:b)(k:BU z=F d0)(ok:Bool)(l:U (so×b))(s:so):
 tI ok z (mH (l.map λp=>(p.1,f p.2)) s)=bif ok then .bw [F (ic l s d0),.d (.v (.bool (nj l s)))]else F (ic l s d0):=by
 rw[X0 f l s d0];cases e:nj l s with
 |true=>cases ok<;>simp only[tI,Tj,Tf,i]
 |false=>rw[XV l s d0 e];cases ok<;>simp only[tI,Tj,Tf,k]
def HB(ok:Bool)(l:U (so×Int))(s:so):tI ok (.int .i64 0) (mH (fV l) s)=bif ok then .bw [.d (.v (.int .i64 (ic l s 0))),.d (.v (.bool (nj l s)))]else .d (.v (.int .i64 (ic l s 0))):=
 Vb (λn=>.v (.int .i64 n)) (λn=>.d (.v (.int .i64 n))) (λ_=>rfl) _ 0 rfl ok l s
def an4(ok:Bool)(l:U (so×Bool))(s:so):tI ok (.bool false) (mH (B8 l) s)=bif ok then .bw [.d (.v (.bool (ic l s false))),.d (.v (.bool (nj l s)))]else .d (.v (.bool (ic l s false))):=
 Vb (λn=>.v (.bool n)) (λn=>.d (.v (.bool n))) (λ_=>rfl) _ false rfl ok l s
def cv{α:Type}(f:α->U D)(l:U (so×α)):U (so×D):=l.map λp=>(p.1,.ag (f p.2))
def arP{α:Type}(f:α->U D)(z:oZ)(d0:α)(b:BU z= .agg ((f d0).map .d))(ok:Bool)(l:U (so×α))(s:so):
 tI ok z (mH (cv f l) s)=bif ok then .bw [.agg ((f (ic l s d0)).map .d),.d (.v (.bool (nj l s)))]else .agg ((f (ic l s d0)).map .d):=
 Vb (λx=>.ag (f x)) (λx=>.agg ((f x).map .d)) (λ_=>rfl) _ d0 b ok l s
def avj{α:Type}{f:α->U D}{l:U (so×α)}(h:Nat.blt l.length 9223372036854775807=true):(Sd.lt (cv f l).length).ok:=by
 unfold cv;rw[Zw];exact Zh h
def SQ{l:U (so×Int)}(h:Nat.blt l.length 9223372036854775807=true):(Sd.lt (fV l).length).ok:=by
 unfold fV;rw[Zw];exact Zh h
def atN{l:U (so×Bool)}(h:Nat.blt l.length 9223372036854775807=true):(Sd.lt (B8 l).length).ok:=by
 unfold B8;rw[Zw];exact Zh h
def gI(g:Nat):U Int:=((B3 DK g).getD []).map λv=>match v with| .int _ n=>n|_=>0
def aqD(l:U Int):so:=⟨(l.map λn=>UInt8.ofNat n.toNat).toArray⟩
def aje{α:Type}{c:Bool}{x y z:α}(h:(bif c then x else y)=z):(c=true/\x=z)\/(c=false/\y=z):=by
 cases c with
 |true=>exact .inl ⟨rfl,h⟩
 |false=>exact .inr ⟨rfl,h⟩
inductive HD
 |same
 |push (B:ao)
 |set (n:Nat) (B:ao)
def HD.app:HD->U ao->U ao
 | .same,h=>h
 | .push B,h=>h++[B]
 | .set n B,h=>h.set n B
def zN:Int->O Nat
 | .ofNat n=>some n
 | .negSucc _=>none
def Ff{z:Int}{n:Nat}(h:zN z=some n):0<=z/\z.toNat=n:=by
 cases z with
 |ofNat m=>cases h;exact⟨Int.natCast_nonneg _,rfl⟩
 |negSucc m=>cases h
def wC(ρ:Operand->AV)(d:Nat):O Operand->O Nat
 |none=>some d
 |some y=>match (ρ y).int? with
  |some z=>zN z
  |none=>none
def IQ(k:Nat)(xs:U (U D)):Bool:=xs.all λc=>c.length==k
def MD(P:eG)(T:TypeId)(x i:AV):O AV:=
 match fF P T with
 |some (_,k)=>match x with
  | .row n f p _ u=>match i.int? with
    |some z=>match zN z with
     |some q=>bif u==k&&cF (q+1) p then some (.ptr n (f+q*k))else none
     |none=>none
    |none=>none
  |x=>match x.gV,i.int? with
   |some xs,some z=>match zN z with
    |some q=>match xs[q]? with
     |some c=>bif c.length==k then some (.bm [c] 0 0)else none
     |none=>none
    |none=>none
   |_,_=>none
 |none=>match wY P T,x,i.int? with
  |some (n,_,k),.ptr b f,some z=>match zN z with
   |some q=>bif cF (q+1) n then some (.ptr b (f+q*k))else none
   |none=>none
  |some (n,_,k),.bm xs e f,some z=>match zN z with
   |some q=>bif k==1&&cF (q+1) n then match xs[e]? with
    |some c=>match c[f+q]? with
     |some d=>some (.bm [[d]] 0 0)
     |none=>none
    |none=>none
    else none
   |none=>none
  |_,_,_=>none
def ar4{P:eG}{T:TypeId}{x i y:AV}{K:AV->Prop}(h:MD P T x i=some y)(L:K y):uB P T x i K:=by
 unfold MD at h;unfold uB;split at h
 ·next e k M=>
  simp only[M];split at h
  ·next n v R cap k'=>
   simp only;split at h
   ·next z ez=>
    simp only[ez];split at h
    ·next q p=>
     obtain⟨h0,u⟩:=Ff p;obtain⟨f,B⟩:=eY h;rw[Zo,dT]at f;refine cm.2 ⟨f.1,h0,by omega,?_⟩;rw[u,B];exact L
    ·cases h
   ·cases h
  ·next x' mb=>
   split at h
   ·next xs z F J=>
    split at h
    ·next q p=>
     obtain⟨h0,u⟩:=Ff p;split at h
     ·next c N=>
      obtain⟨f,B⟩:=eY h;simp only[F,J];refine⟨h0,?_⟩;rw[u,N];exact⟨by simpa using f,by rw[B];exact L⟩
     ·cases h
    ·cases h
   ·cases h
 ·next M=>
  simp only[M];split at h
  ·next n e k b v z F J=>
   simp only[F,J];split at h
   ·next q p=>
    obtain⟨h0,u⟩:=Ff p;obtain⟨f,B⟩:=eY h;rw[dT]at f;exact⟨h0,by omega,by rw[u,B];exact L⟩
   ·cases h
  ·next n e0 k xs e v z F J=>
   simp only[F,J];split at h
   ·next q p=>
    obtain⟨h0,u⟩:=Ff p;obtain⟨f,h⟩:=lR h;rw[Zo,dT]at f;split at h
    ·next c N=>
     split at h
     ·next d ed=>
      cases h
      refine cm.2 ⟨f.1,h0,by omega,?_⟩;rw[N];simp only;rw[u,ed];exact L
     ·cases h
    ·cases h
   ·cases h
  ·cases h
def avr(P:eG)(T:TypeId)(ρ:Operand->AV)(x:AV)(lo hi f:O Operand):O AV:=
 match f with
 |none=>
  match x with
  | .d (.v (.string b))=>match wC ρ b.size hi,wC ρ 0 lo with
    |some h,some l=>bif jc P T&&cF h b.size&&cF l h then some (.d (.v (.string (b.extract l h))))else none
    |_,_=>none
  | .ptr n e=>match wY P T with
    |some (m,_,k)=>match wC ρ m hi,wC ρ 0 lo with
     |some h,some l=>bif cF m 4096&&cF h m&&(cF l h&& !cF m l)then some (.row n (e+l*k) (h-l) (m-l) k)else none
     |_,_=>none
    |none=>none
  |x=>match x.gV,fF P T with
   |some xs,some (_,k)=>match wC ρ xs.length hi,wC ρ 0 lo with
    |some h,some l=>bif IQ k xs&&cF h xs.length&&cF l h then some (.d (.sl ((xs.take h).drop l)))else none
    |_,_=>none
   |_,_=>none
 |some m=>match lo,hi with
  |none,some y=>match x.gV,fF P T with
   |some xs,some (_,k)=>match wC ρ 0 (some m),wC ρ 0 (some y)with
    |some c,some h=>bif IQ k xs&&cF c xs.length&&h==c then some (.full (xs.take h))else none
    |_,_=>none
   |_,_=>none
  |_,_=>none
def avy(P:eG)(T:TypeId)(h:U ao)(x y:AV):O (AV×HD):=
 match fF P T with
 |some (e,k)=>match jY P e,uj P e with
  |some z,some f=>match J6 h k y with
   |some b=>bif cF 1 k&&z.cells.toList.length==k&&IQ k b then
    match x with
    | .own n xs=>match h[n]? with
      |some (.front p q i)=>bif p==e&&q==k&&i==xs.length&&IQ k xs&&cF (xs.length+b.length) maxLen&&cF ((xs.length+b.length)*f) 140737488355328 then some (.own n (xs++b),.set n (.front e k (xs.length+b.length)))else none
      |_=>none
    | .d (.v (.slice none 0 0))=>bif cF b.length maxLen&&cF (b.length*f) 140737488355328 then some (.own h.length b,.push (.front e k b.length))else none
    | .full xs=>bif IQ k xs&&cF (xs.length+b.length) maxLen&&cF ((xs.length+b.length)*f) 140737488355328 then some (.own h.length (xs++b),.push (.front e k (xs.length+b.length)))else none
    |_=>none
    else none
   |none=>none
  |_,_=>none
 |none=>none
def XI:U (U D)->O (U Int)
 |[]=>some []
 |[.v (.int .u8 n)]::l=>match XI l with
  |some b=>some (n::b)
  |none=>none
 |_=>none
def RD:O (AV×In)->O AV
 |some (x,.none)=>some x
 |some (x,.nz b)=>bif b==0 then none else some x
 |some (x,.nn b)=>match zN b with
  |some _=>some x
  |none=>none
 |some (x,.cat n)=>bif cF n maxLen then some x else none
 |_=>none
def anP{r:O (AV×In)}{x:AV}(P:eG)(h:RD r=some x):∃i,r=some (x,i)/\OK P i .ok:=by
 unfold RD at h;split at h;{cases h;exact⟨_,rfl,.none⟩}
 ·next b=>
  cases d:b==0 with
  |true=>rw[d]at h;cases h
  |false=>rw[d]at h;cases h;exact⟨_,rfl,.nz (by simpa using d)⟩
 ·next b=>
  split at h;{next e=>cases h;exact⟨_,rfl,.nn (Ff e).1⟩};{cases h}
 ·obtain⟨d,f⟩:=eY h;cases f
  exact⟨_,rfl,.cat (dT.1 d)⟩
 ·cases h
def pX(r:O AV):O (AV×HD):=
 match r with
 |some x=>some (x,.same)
 |none=>none
def avC(P:eG)(b f:TypeId)(x:AV):O AV:=
 match JR P b f x .none with
 |some (y,.none)=>some y
 |_=>match x.gV,fF P b with
  |some xs,some (e,_)=>match XI xs with
   |some i=>match x with
    | .d (.v _)=>none
    |_=>bif Fo P e&&jc P f then some (.d (.v (.string (aqD i))))else none
   |none=>none
  |_,_=>none
def nP(P:eG)(B:Op)(ρ:Operand->AV)(h:U ao):O (AV×HD):=
 match B with
 | .move x| .assign x=>some (ρ x,.same)
 | .pick c x y=>match ρ c with
   | .d (.v (.bool b))=>some (bif b then ρ x else ρ y,.same)
   |_=>none
 | .alloc e=>match jY P e with
   |some z=>some (.ptr h.length 0,.push (.cells (z.cells.toList.map λu=>.d (.v u))))
   |none=>none
 | .box _ x=>bif (ρ x).kQ then some (.ptr h.length 0,.push (.cells (ρ x).cells))else none
 | .load t p=>match AW h (ρ p)with
   |some (cs,q)=>pX (DN P t cs q)
   |none=>none
 | .store t p x=>match ρ p with
   | .ptr n q=>match h[n]? with
     |some (.cells cs)=>match ZH P t with
      |some k=>bif k==(ρ x).cells.length&&(ρ x).kQ&&cF (q+(ρ x).cells.length) cs.length then some (.d (.v undef),.set n (.cells (jn cs q (ρ x).cells)))else none
      |none=>none
     |_=>none
   |_=>none
 | .nilCheck x=>match ρ x with
   | .ptr n q=>some (.ptr n q,.same)
   | .bm xs i q=>some (.bm xs i q,.same)
   | .fn f cs=>some (.fn f cs,.same)
   |_=>none
 | .fieldAddr S x f=>match uI P S f with
   |some (J,_,_)=>match ρ x with
    | .ptr n q=>some (.ptr n (q+J),.same)
    | .bm xs i q=>some (.bm xs i (q+J),.same)
    |_=>none
   |none=>none
 | .field T x f=>pX (Lp P T (ρ x) f)
 | .indexAddr T x i=>pX (MD P T (ρ x) (ρ i))
 | .extract x i=>match ρ x with
   | .bw cs=>match cs[i]? with
     |some c=>some (c,.same)
     |none=>none
   |_=>none
 | .makeFunc (.func f) first L=>match first.toList with
   |[]=>some (.fn f (L.toList.map ρ),.same)
   |_=>none
 | .binOp B T x y _=>pX (RD (N1 P T B (ρ x) (ρ y)))
 | .unOp B _ x=>match ρ x with
   | .d (.v u)=>match MB B u with
     |some v=>some (.d (.v v),.same)
     |none=>none
   |_=>none
 | .call c=>match c.callee with
   | .builtin .len=>match c.args.toList,c.argTypes.toList with
     |[x],[T]=>match ρ x with
      | .d (.v (.string s))=>bif jc P T then some (.d (.v (.int .i64 s.size)),.same)else none
      | .row _ _ F _ _=>bif (fF P T).isSome then some (.d (.v (.int .i64 F)),.same)else none
      |x=>match x.gV with
       |some xs=>bif (fF P T).isSome then some (.d (.v (.int .i64 xs.length)),.same)else none
       |none=>none
     |_,_=>none
   |_=>none
 |_=>none
def KS{r:O AV}{x:AV}{d:HD}(h:pX r=some (x,d)):r=some x/\d= .same:=by
 unfold pX at h;split at h;{cases h;exact⟨rfl,rfl⟩};{cases h}
def VP{P:eG}{o:Oper}{ρ:Operand->AV}{h:U ao}{x:AV}{d:HD}{C:AV->U ao->Prop}(h1:nP P o.op ρ h=some (x,d))(f:C x (d.app h)):dg P o ρ h C:=by
 obtain⟨F,op,type,J,after,guard⟩:=o;simp only at h1;unfold nP at h1;unfold dg;split at h1;{cases h1;exact f};{cases h1;exact f}
 ·next c y z=>
  split at h1
  ·next b e=>
   cases h1
   simp only[e];cases b with
   |true=>exact⟨λ_=>f,λh=>Bool.noConfusion h⟩
   |false=>exact⟨λh=>Bool.noConfusion h,λ_=>f⟩
  ·cases h1
 ·split at h1
  ·next z e=>cases h1;simp only[e];exact f
  ·cases h1
 ·obtain⟨q,u⟩:=eY h1;cases u;exact cm.2 ⟨q,f⟩
 ·split at h1
  ·next cs v e=>
   obtain⟨p,rfl⟩:=KS h1;exact UU e p f
  ·cases h1
 ·split at h1
  ·next n v e=>
   split at h1
   ·next cs p=>
    split at h1;{next k L=>obtain⟨q,u⟩:=eY h1;cases u;simp only[e,Ae,p,L];exact cm.2 ⟨q,f⟩};{cases h1}
   ·cases h1
  ·cases h1
 ·split at h1
  ·next e=>cases h1;simp only[e];exact f
  ·next e=>cases h1;simp only[e];exact f
  ·next e=>cases h1;simp only[e];exact f
  ·cases h1
 ·split at h1
  ·next e=>
   simp only[e];split at h1;{next p=>cases h1;simp only[p];exact f};{next p=>cases h1;simp only[p];exact f};{cases h1}
  ·cases h1
 ·obtain⟨e,rfl⟩:=KS h1;exact X8 e f
 ·obtain⟨e,rfl⟩:=KS h1;exact ar4 e f
 ·split at h1
  ·next e=>
   split at h1;{next p=>cases h1;simp only[e,p];exact f};{cases h1}
  ·cases h1
 ·split at h1
  ·next e=>cases h1;simp only[e];exact f
  ·cases h1
 ·obtain⟨e,rfl⟩:=KS h1;obtain⟨i,p,M⟩:=anP P e;exact X9 p M f
 ·unfold zR;split at h1
  ·next e=>
   split at h1;{next p=>cases h1;simp only[e,p];exact f};{cases h1}
  ·cases h1
 ·next c=>
  split at h1
  ·next N=>
   simp only[N];split at h1
   ·next y T R p=>
    simp only[R,p];unfold vn;split at h1;{next s e=>obtain⟨q,u⟩:=eY h1;cases u;simp only[e];exact cm.2 ⟨q,f⟩};{next e=>obtain⟨q,u⟩:=eY h1;cases u;simp only[e];exact cm.2 ⟨q,f⟩}
    ·next n1 n2=>
     split at h1
     ·next xs e=>
      obtain⟨q,u⟩:=eY h1;cases u;split;{next s B=>exact absurd B (n1 s)};{next B=>exact absurd B (n2 _ _ _ _ _)};{simp only[e];exact cm.2 ⟨q,f⟩}
     ·cases h1
   ·cases h1
  ·cases h1
 ·cases h1
def dL(n:Nat)(t:U (Nat×AV)):U AV:=(List.range n).map (bE t)
def arA{n:Nat}{t:U (Nat×AV)}{i:Nat}{c:AV}(h:(dL n t)[i]?=some c):bE t i=c:=by
 unfold dL at h;rw[Zm]at h;by_cases b:i<n;{rw[List.getElem?_range b]at h;exact Zl h};{rw[Z1 (by simpa using b)]at h;cases h}
def RO(P:eG)(N0:Nat)(Q:Exit->St->Prop)(s:St):LS->Prop
 | .ready=>Q .normal s
 | .done c=>bM P none N0 c Q s
 | .busy=>False
def au0{P:eG}{N0:Nat}{s:St}{Q:Exit->St->Prop}{g:Operand}{p:Nat}{assign body:Code}{gf:FuncId}{dz:U AV}(hg:ev s g= .fn gf dz)
 (k:da P gf (.cD s.h.length::dz) (s.h++[.lp .ready p assign body (dL s.n s.t)]) λ_ h'=>∃(J:LS)(p1:Nat)(vf vx:Code)(zo:U AV),h'[s.h.length]?=some (.lp J p1 vf vx zo)/\RO P N0 Q ⟨s.n,s.t,h'.set s.h.length .gone⟩ J):
 bM P none N0 (.rangeFunc g #[p] assign body) Q s:=by
 constructor
 intro G w a n d hN;have hv:=d.ev g;rw[hg]at hv;obtain⟨q,ea,hl,hr⟩:∃q:Array oZ,a.eval g= .func (.func gf) #[] q/\q.size=dz.length/\∀(i:Nat)(u:oZ)(c:AV),q[i]?=some u->dz[i]?=some c->aM G w u c:=by
  generalize a.eval g=u at hv;cases hv with|fn _ vs _ hl hr=>exact⟨vs,rfl,hl,hr⟩
 obtain⟨zF,kZ⟩:=k;refine wpIn_rangeFunc (F:=WF none) ?_;intro fn _;obtain⟨Gc,L⟩:=ao8 d.inv;obtain⟨G0,mu⟩:∃G0:Gh,G0={G with Z:=λb=>G.Z b\/b=w.heap.size}:=⟨_,rfl⟩;obtain⟨w0,sZ⟩:∃w0,w0=w.alloc (.deferred (some [])):=⟨_,rfl⟩;rw[<-mu,<-sZ]at Gc L;have cW:G0.N=G.N:=by rw[mu]
 have M:w0.heap.size=w.heap.size+1:=by rw[sZ];simp
 obtain⟨R,ZE,Tu⟩:=akp L fn a.tmps w.heap.size p assign body (dL s.n s.t) (by simp [dL,d.size]) λi u c f k=>by
  have h9:=d.tmp i;rw[arA k]at h9;have e:a.tmps.getD i undef=u:=by
   have a8:=(ZP.1 f).1;rw[ZI a8]at f;simp [Array.getD,a8];exact Zl f
  rw[e]at h9;exact h9.keep Gc (Nat.le_of_eq cW.symm)
 obtain⟨w1,P1⟩:∃w1,w1=w0.alloc (.loop {state:= .ready,pending:=none,fn:=fn,tmps:=a.tmps,params:= #[p],assign:=assign,body:=body,defers:=w.heap.size}):=⟨_,rfl⟩;obtain⟨G1,Ux⟩:∃G1:Gh,G1=G0.fz w0.heap.size:=⟨_,rfl⟩;rw[<-P1,<-Ux]at R ZE Tu;have iv:G1.N=G.N+1:=by rw[Ux,<-cW];rfl
 have asE:G1.bn s.h.length=w.heap.size+1:=by rw[Ux,d.inv.len,<-cW];simp [Gh.fz,M]
 rw[M]at Tu;have ahy:cf G.N G w G1 w1:=Gc.trans (R.less (Nat.le_of_eq cW.symm));refine⟨w.heap.size+1,[{target:= .collected w.heap.size,args:= #[]}],w1,{target:= .fn (.func gf) q,args:= #[.func (.yield (w.heap.size+1)) #[] #[]]},w1,gf, #[.func (.yield (w.heap.size+1)) #[] #[]]++q,w1,?_,?_,λ_ _=>trivial,?_,λh=>(by simp [WF,Fence.wide]at h),?_⟩;{rw[P1,sZ];exact run_enterLoop_outer _ _ _ _ _};{simp only[resolve,ea];simp [Deferred.ofValue,go_sem]};{simp [invoke,QI zF]}
 have hK:=kZ G1 w1 (#[.func (.yield (w.heap.size+1)) #[] #[]]++q) ZE (by simp [hl];omega) (λi u c f k=>by
  match i with
  |0=>
   rw[Array.getElem?_append_left gj]at f;simp at f k;subst f;subst k;exact Tu
  |i+1=>
   rw[Array.getElem?_append_right gj]at f;simp at f k;exact(hr i u c f k).keep ahy (by rw[iv];exact cG _))
 refine CallsIn.mono (F:=WF none) (callsIn_wide (n:=n-1).2 hK) ?_;rintro e w2 ⟨v,G2,r,h',rfl,mh,hN2,hI2,_,J,p1,vf,vx,zo,hk,VL⟩;have Cm:s.h.length<G1.N:=by rw[d.inv.len,iv];exact ZC _
 have CW:G2.bn s.h.length=w.heap.size+1:=(mh.bn _ Cm).trans asE;obtain⟨_,fn2,tm2,D2,g3,g4,g5,aa7⟩:=Ml hI2 hk;rw[CW]at g3;have hEa:cf G.N G w G2 w2:=ahy.trans (mh.less (by rw[iv];exact cG _));have P2:G.N<=G2.N:=by rw[iv]at hN2;omega
 obtain⟨B,mV⟩:∃B:Obj,B= .loop {state:= .exhausted,pending:=J.pd,fn:=fn2,tmps:=tm2,params:= #[p1],assign:=vf,body:=vx,defers:=D2}:=⟨_,rfl⟩;obtain⟨zE,zI⟩:=apX hI2 hk B;rw[CW]at zE zI;have I9:cf G.N G w G2 (w2.putObj (w.heap.size+1) B):=hEa.trans (zE.less P2);have hM:=d.inv.gl.2;have En:G0.Z w.heap.size:=by rw[mu];exact .inr rfl
 have hDZ:G2.Z w.heap.size:=mh.Z.1.1 _ (R.Z.1.1 _ En);have hDh:(w2.putObj (w.heap.size+1) B).heap[w.heap.size]?=some (.deferred (some [])):=by
  rw[zE.old _ hDZ,mh.old _ (R.Z.1.1 _ En),R.old _ En,sZ];exact World.alloc_heap_new w _
 have cA:dk G2 (w2.putObj (w.heap.size+1) B) {a with defers:=[{target:= .collected w.heap.size,args:= #[]}]++a.defers} ⟨s.n,s.t,h'.set s.h.length .gone⟩:=by
  refine⟨d.size,λi=>(d.tmp i).keep I9 P2,zI,?_⟩;obtain⟨l,l1,l2,l3⟩:=d.df.keep I9;obtain⟨l',l1',Zv,l3'⟩:=d.df;have iU:l=l':=by
   rw[l2]at Zv;have asq:∀(x y:U Nat),x.map (λD=>({target:= .collected D,args:= #[]}:Deferred))=y.map (λD=>{target:= .collected D,args:= #[]})->x=y:=by
     intro x
     induction x with
     |nil=>intro y h;cases y with
      |nil=>rfl
      |cons b y=>simp at h
     |cons a x ih=>intro y h;cases y with
      |nil=>simp at h
      |cons b y=>simp at h;rw[h.1,ih y (by simpa using h.2)]
   exact asq _ _ Zv
  refine⟨w.heap.size::l,?_,by rw[ZY,<-l2];rfl,λD hD=> ?_⟩;{rw[List.nodup_cons];exact⟨λh=>Yu _ (d.inv.z _ (l3' _ (iU▸h)).2.1),l1⟩}
  ·rcases Za.1 hD with rfl|hD
   ·exact⟨by rw[I9.Z.2];exact hM,hDZ,hDh⟩
   ·exact l3 D hD
 subst mV;have EH:=λhb=>run_endLoop (P:=P) g3 hb;cases J with
 |busy=>exact VL.elim
 |ready=>
  refine⟨_,_,EH (by simp [LS.st]),?_⟩;exact⟨G2,_,I9.less hN,Ze hN P2,cA,VL⟩
 |done c=>
  refine⟨_,_,EH (by simp [LS.st]),?_⟩;refine wpIn_mono (VL.run G2 _ _ n (cA) (Ze hN P2)) λ_ _ _ hn=> ?_;exact hn.trans (I9.less hN)
set_option linter.unusedSimpArgs false
set_option linter.unusedVariables false
mutual
def Nz:∀x:AV,x.ba id=x
 | .agg cs=>by rw[AV.ba,uW cs]
 | .bw cs=>by rw[AV.ba,uW cs]
 | .fn f cs=>by rw[AV.ba,uW cs]
 | .own .. =>by simp [AV.ba]
 | .d _=>by simp [AV.ba]
 | .ptr .. =>by simp [AV.ba]
 | .bm .. =>by simp [AV.ba]
 | .full _=>by simp [AV.ba]
 | .row .. =>by simp [AV.ba]
 | .mp _=>by simp [AV.ba]
 | .cD _=>by simp [AV.ba]
 | .vec .. =>by simp [AV.ba]
 | .dU .. =>by simp [AV.ba]
 | .hid _=>by simp [AV.ba]
 | .dead=>by simp [AV.ba]
def uW:∀l:U AV,AV.ij id l=l
 |[]=>by simp [AV.ij]
 |x::l=>by rw[AV.ij,Nz x,uW l]
end
def Xj(B:ao):B.ba id=B:=by
 cases B with
 |cells cs=>simp only[ao.ba,uW]
 |lp b p as d cs=>simp only[ao.ba,uW]
 |it f cs=>simp only[ao.ba,uW]
 |gu i cs=>simp only[ao.ba,uW]
 |vec e k cs=>simp only[ao.ba];congr 1;exact(Z5 λx _=>uW x).trans (List.map_id _)
 |_=>rfl
def aM.low{G:Gh}{w:Zy}{u:oZ}{x:AV}(h:aM G w u x):x.aN G.N=true:=by
 have lt:∀{n:Nat},n<G.N->(!cF G.N n)=true:=fun{n} B=>by
  rw[UC,<-Uj,dT];omega
 have p:∀(b:Array oZ)(cs:U AV),b.size=cs.length->(∀(i:Nat)(u:oZ)(c:AV),b[i]?=some u->cs[i]?=some c->c.aN G.N=true)->AV.lN G.N cs=true:=λb cs d h=>by
  rw[ox,Zc];intro c v;obtain⟨i,z,rfl⟩:=ak.1 v;exact h i b[i] _ (ZI k7) (Zd z)
 induction h with
 |agg b cs d _ e=>rw[AV.aN];exact p b cs d e
 |bw b cs d _ e=>rw[AV.aN];exact p b cs d e
 |fn f b cs d _ e=>rw[AV.aN];exact p b cs d e
 |ptr n q h=>rw[AV.aN];exact lt h
 |own n xs h=>rw[AV.aN];exact lt h
 |row n q len cap k h=>rw[AV.aN];exact lt h
 |mp n h=>rw[AV.aN];exact lt h
 |cD n h=>rw[AV.aN];exact lt h
 |vec n o len L k h=>rw[AV.aN];exact lt h
 |dU n i j L k h=>rw[AV.aN];exact lt h
 |_=>simp [AV.aN]
def j6(N0:Nat)(s s':St):Prop:=∀(G:Gh)(w:Zy)(a:Act),N0<=G.N->dk G w a s->∃G',cf N0 G w G' w/\N0<=G'.N/\dk G' w a s'
def j6.refl(N0:Nat)(s:St):j6 N0 s s:=λG _ _ b d=>⟨G,cf.refl _ _ _,b,d⟩
def j6.trans{N0:Nat}{s1 b s3:St}(h:j6 N0 s1 b)(k:j6 N0 b s3):j6 N0 s1 s3:=λG w a d e=>by
 obtain⟨f,i,p,q⟩:=h G w a d e;obtain⟨u,v,x,z⟩:=k f w a p q;exact⟨u,i.trans v,x,z⟩
def j6.of_eq{N0:Nat}{s s':St}(h:ky s s'):j6 N0 s s':=λG _ _ d b=>
 ⟨G,cf.refl _ _ _,d,b.size.trans h.n,λi=>by rw[<-h.t i];exact b.tmp i,by rw[<-h.h];exact b.inv,b.df⟩
def j6.ba{N0:Nat}{s s':St}(σ τ:Nat->Nat)(hn:s.n=s'.n)(k:s'.h.length=s.h.length)(a8:∀i,i<s.h.length->σ i<s.h.length)(F:∀i,i<s.h.length->τ i<s.h.length)
 (q:∀i,i<s.h.length->τ (σ i)=i) (J:∀i,i<s.h.length->σ (τ i)=i) (NI:∀i,i<N0->σ i=i)
 (ht:∀i,(bE s.t i).aN s.h.length=true->bE s'.t i=(bE s.t i).ba σ\/bE s'.t i= .dead) (hh:∀i,i<s.h.length->s'.h[σ i]?=(s.h[i]?).map (ao.ba σ)):j6 N0 s s':=λG w a hN f=>by
 have hl:s.h.length=G.N:=f.inv.len;rw[hl]at a8 F q J hh k ht;have L:∀i,i<N0->τ i=i:=λi hi=>by
  have d:=q i k7;rw[NI i hi]at d;exact d
 let G':Gh:={G with bn:=λn=>G.bn (τ n),sg:=λn=>G.sg (τ n),ow:=λn=>G.ow (τ n),fl:=λn=>G.fl (τ n)}
 have M:s7 σ G G':=⟨a8,λn h=>by show G.bn (τ (σ n))=_;rw[q n h],λn h=>by show G.sg (τ (σ n))=_;rw[q n h],λn h=>by show G.fl (τ (σ n))=_;rw[q n h],λn h=>by show G.ow (τ (σ n))=_;rw[q n h],λ_ _=>Iff.rfl⟩;have R:cf N0 G w G' w:=⟨Zx _,λ_ _ h=>h,λ_ _ _=>rfl,λn h=>by show G.bn (τ n)=_;rw[L n h],λn h=>.inl ⟨by show G.fl (τ n)=_;rw[L n h],by show G.sg (τ n)=_;rw[L n h]⟩,iJ rfl,λ_ _=>rfl,rfl,rfl,rfl,λ_ _ h=>.inl h⟩;have fQ:∀(n:Nat)(B:ao),s'.h[n]?=some B->∃m B0,m<G.N/\σ m=n/\s.h[m]?=some B0/\B=B0.ba σ:=λn B u=>by
  have v:n<G.N:=by have:=(Zj.1 u).1;omega
  have d:=hh (τ n) (F n v);rw[J n v,u]at d;cases h2:s.h[τ n]? with
  |none=>rw[h2]at d;cases d
  |some B0=>rw[h2]at d;cases d;exact⟨τ n,B0,F n v,J n v,h2,rfl⟩
 have fg:∀(n b:Nat),cu s'.h G' n=some b->∃m,m<G.N/\σ m=n/\cu s.h G m=some b:=λn b p=>by
  obtain⟨B,u,p⟩:=nv p;obtain⟨m,B0,k1,k2,x,rfl⟩:=fQ n B u;subst k2;rw[RN M k1]at p;exact⟨m,k1,rfl,by rw[eN x];exact p⟩
 refine⟨G',R,hN,f.size.trans hn,λi=> ?_,⟨k,f.inv.z,f.inv.S,λn B u=> ?_,λm n b hm v=> ?_,f.inv.gl.keep R⟩,f.df.keep R⟩
 ·have hv:=f.tmp i;rcases ht i hv.low with e|e
  ·rw[e];exact hv.ba M
  ·rw[e];exact .dead _
 ·obtain⟨m,B0,k1,k2,x,rfl⟩:=fQ n B u;subst k2;have p:=f.inv.dN m B0 x;exact fj.ba M k1 (λb d=>p.mD d) p
 ·obtain⟨m',k1,k2,x⟩:=fg m b hm;obtain⟨n',j1,j2,j3⟩:=fg n b v;have:=f.inv.inj m' n' b x j3;rw[<-k2,<-j2,this]
def ku(h0:Nat)(p:U Nat)(i:Nat):Nat:=bif cF h0 i then p.getD (i-h0) i else i
structure pv(ks:List Nat)(s0 s:St):Prop where
 n:s.n=s0.n
 t:∀d,d ∉ ks->bE s.t d=bE s0.t d
def pv.refl(ks:U Nat)(s:St):pv ks s s:=⟨rfl,λ_ _=>rfl⟩
def pv.put{ks:U Nat}{s0 s:St}(h:pv ks s0 s)(h1:U ao){d:O Nat}(x:AV)(f:∀k,d=some k->k∈ks):pv ks s0 ((s.wh h1).put d x):=
 ⟨by rw[tA];exact h.n,λi b=>by
  rw[vP,af];{exact h.t i b}
  ·rintro⟨e,_⟩;exact b (f i e)⟩
def JI(N0:Nat)(K:St->Prop):Prop:=∀s s',j6 N0 s s'->K s'->K s
def JI.c{N0:Nat}{K:St->Prop}(h:JI N0 K):tt K:=λs s' e b=>h s' s (j6.of_eq e.symm) b
def QX{P:eG}{r:O Nat}{N0:Nat}{s:St}{Q:Exit->St->Prop}{m:Bool}{id:Nat}{ops:Array Oper}(f:P.follows .mixedOrders=true)
 (h:N0<=s.h.length->(∀i,(bE s.t i).aN s.h.length=true)->mB m P ops (λs1=>∃b,j6 N0 s1 b/\Q .normal b) ops.size (Array.replicate ops.size false) s):bM P r N0 (.region id ops true) Q s:=by
 constructor
 intro G w a n d e;obtain⟨k,p⟩:=d.drew;refine wpIn_region_any f ?_;have q:=d.inv.len;refine Ji (G:=G) (w:=w) (N0:=N0) (K:=λs1=>∃b,j6 N0 s1 b/\Q .normal b) (λu w' v=> ?_) ops.size _ G _ a s (k.less e) e p (h k7 λi=>by rw[q];exact(d.tmp i).low);obtain⟨x,s',z,B,F,b,J,L⟩:=v;obtain⟨M,N,R,y3⟩:=J x w' u B F;exact⟨M,b,z.trans N,R,y3,L⟩
def Wi{N0:Nat}(Q:St->Prop):JI N0 (λs1=>∃b,j6 N0 s1 b/\Q b):=λ_ _ h ⟨b,d,e⟩=>⟨b,h.trans d,e⟩
def Bf(f:Nat->Bool):Nat->Nat
 |0=>0
 |n+1=>bif f n then Bf f n|||(1<<<n)else Bf f n
def Jd(f:Nat->Bool):∀(n j:Nat),Nat.testBit (Bf f n) j=(decide (j<n)&&f j)
 |0,j=>by simp [Bf]
 |n+1,j=>by
  unfold Bf;have b:=Jd f n j;cases d:f n with
  |true=>
   simp only[Tj,Nat.testBit_or,b,Nat.one_shiftLeft,Nat.testBit_two_pow];by_cases e:n=j;{subst e;simp [d]}
   ·have:decide (j<n+1)=decide (j<n):=by simp;omega
    rw[this];simp [e]
  |false=>
   simp only[Tf,b];by_cases e:n=j;{subst e;simp [d]}
   ·have:decide (j<n+1)=decide (j<n):=by simp;omega
    rw[this]
def fN{α:Type}(n:Nat)(f:Nat->α):α:=Nat.casesOn (Nat.succ n) (f 0) f
def Da{α:Type}(n:Nat)(f:Nat->α):fN n f=f n:=rfl
def fL{α:Type}:U Nat->(U Nat->α)->α
 |[],f=>f []
 |n::l,f=>fN n λn=>fL l λl=>f (n::l)
def AU{α:Type}:∀(l:U Nat)(f:U Nat->α),fL l f=f l
 |[],_=>rfl
 |n::l,f=>by rw[fL,Da,AU l]
section
variable (ops:Array Oper)
def Cv(o:Oper)(n j:Nat):Bool:=o.after.any λe=>Region.binds .any e&&(e.on==j||(j==n&&cF n e.on))
def OA(k:Nat):Nat:=match ops[k]? with
 |some o=>Bf (Cv o ops.size) (ops.size+1)
 |none=>1<<<ops.size
def Tc(m:Bool)(M:Array Nat)(k j:Nat):Bool:= !(j==k)&&(!((M.getD j 0).testBit k)&&match ops[k]?,ops[j]? with
 |some b,some d=> !(b.apart ops d&&Ee m b d)
 |_,_=>true)
def xC(m:Bool)(M:Array Nat)(k:Nat):Nat:=Bf (Tc ops m M k) ops.size
def qV:Nat->Nat->U Nat
 |_,0=>[]
 |k,n+1=>OA ops k::qV (k+1) n
def lY(m:Bool)(M:Array Nat):Nat->Nat->U Nat
 |_,0=>[]
 |k,n+1=>xC ops m M k::lY m M (k+1) n
end
def sK:U Nat->Nat->Nat->U Nat
 |[],_,_=>[]
 |a::A,L,k=>bif !(Nat.testBit L k)&&(L&&&a==a)then k::sK A L (k+1)else sK A L (k+1)
def y8(C:U Nat)(L:Nat):U Nat->O Nat
 |[]=>none
 |k::r=>bif (C.getD k 0)|||L==L then some k else y8 C L r
section
variable (ops:Array Oper) (st:Oper->St->O St) (h0:Nat) (ks A C:U Nat)
def ra:U Oper->U Nat
 |[]=>[]
 |o::l=>match o.dst with
  |some d=>d::ra l
  |none=>ra l
end
def P0:∀{l:U Oper}{o:Oper},o∈l->∀d,o.dst=some d->d∈ra l
 |[],_,h,_,_=>by cases h
 |a::l,o,h,d,b=>by
  unfold ra;rcases Za.1 h with rfl|h
  ·rw[b];simp
  ·split
   ·exact Zk _ (P0 h d b)
   ·exact P0 h d b
def Hl(ops:Array Oper):∀(n k i:Nat),(qV ops k n)[i]?=if i<n then some (OA ops (k+i))else none
 |0,k,i=>by simp [qV]
 |n+1,k,0=>by simp [qV]
 |n+1,k,i+1=>by rw[qV,Yx,Hl ops n (k+1) i];simp only[Nat.add_lt_add_iff_right];rw[show k+1+i=k+(i+1) by omega]
def Qm(ops:Array Oper)(m:Bool)(M:Array Nat):∀(n k i:Nat),(lY ops m M k n)[i]?=if i<n then some (xC ops m M (k+i))else none
 |0,k,i=>by simp [lY]
 |n+1,k,0=>by simp [lY]
 |n+1,k,i+1=>by rw[lY,Yx,Qm ops m M n (k+1) i];simp only[Nat.add_lt_add_iff_right];rw[show k+1+i=k+(i+1) by omega]
def Jb{L:Nat}:∀(A:U Nat)(k i:Nat),i∈sK A L k↔k<=i/\Nat.testBit L i=false/\∃a,A[i-k]?=some a/\L&&&a=a
 |[],k,i=>by simp [sK]
 |a::A,k,i=>by
  have v:=Jb (L:=L) A (k+1) i;unfold sK;have u:i∈sK A L (k+1)↔k<i/\Nat.testBit L i=false/\∃b,(a::A)[i-k]?=some b/\L&&&b=b:=by
   rw[v];constructor;{rintro⟨e,d,b,f,p⟩;refine⟨e,d,b,?_,p⟩;rw[show i-k=(i-(k+1))+1 by omega,Yx];exact f};{rintro⟨e,d,b,f,p⟩;refine⟨e,d,b,?_,p⟩;rw[show i-k=(i-(k+1))+1 by omega,Yx]at f;exact f}
  cases q:(!(Nat.testBit L k)&&(L&&&a==a))with
  |true=>
   simp only[Tj,Za,u];simp only[Zo,UC,TC]at q;constructor
   ·rintro(rfl|⟨e,d⟩)
    ·exact⟨Zx _,q.1,a,by simp,q.2⟩
    ·exact⟨by omega,d⟩
   ·rintro⟨e,d⟩;rcases Nat.lt_or_eq_of_le e with h|h
    ·exact .inr ⟨h,d⟩
    ·exact .inl h.symm
  |false=>
   simp only[Tf,u];constructor;{rintro⟨e,d⟩;exact⟨by omega,d⟩}
   ·rintro⟨e,d,b,f,p⟩;rcases Nat.lt_or_eq_of_le e with h|h
    ·exact⟨h,d,b,f,p⟩
    ·subst h;simp at f;subst f;rw[d]at q;simp at q;exact absurd p q
def I6{C:U Nat}{L:Nat}:∀{r:U Nat}{k:Nat},y8 C L r=some k->k∈r/\(C.getD k 0)|||L=L
 |[],k,h=>by cases h
 |a::r,k,h=>by
  unfold y8 at h;cases b:((C.getD a 0)|||L==L)with
  |true=>rw[b]at h;cases h;exact⟨by simp,by simpa using b⟩
  |false=>rw[b]at h;have:=I6 h;exact⟨Zk _ this.1,this.2⟩
structure LM(ops:Array Oper)(L:Nat)(listed:Array Bool):Prop where
 sz:listed.size=ops.size
 b:∀i,Nat.testBit L i=listed.getD i false
def LM.set{ops:Array Oper}{L:Nat}{listed:Array Bool}(h:LM ops L listed){k:Nat}(d:k<ops.size):LM ops (L|||(1<<<k)) (listed.setIfInBounds k true):=by
 refine⟨by simp [h.sz],λi=> ?_⟩;rw[Nat.testBit_or,Nat.one_shiftLeft,Nat.testBit_two_pow,h.b i];by_cases e:k=i
 ·subst e;have:k<listed.size:=by rw[h.sz];exact d
  simp [this]
 ·rw[getD_set_ne false e];simp [e]
def LM.ready{ops:Array Oper}{L:Nat}{listed:Array Bool}(h:LM ops L listed)(i:Nat):i∈Region.ready .any ops listed↔i∈sK (qV ops 0 ops.size) L 0:=by
 rw[mem_ready,Jb];simp only[Wl,true_and,Nat.sub_zero,Hl,ZQ];have J:∀j,ops.size<=j->Nat.testBit L j=false:=λj f=>by
   rw[h.b,Array.getD_eq_getD_getElem?,Array.getElem?_eq_none (by rw[h.sz];exact f)];rfl
 constructor
 ·rintro⟨u,o,p,v⟩;have q:=(ZP.1 p).1;have R:listed.getD i false=false:=by
   have x:i<listed.size:=by rw[h.sz];exact q
   simpa [x]using u
  refine⟨by rw[h.b];exact R,_,by rw[ae q],?_⟩;apply Nat.eq_of_testBit_eq;intro j;rw[Nat.testBit_and];unfold OA;rw[p];simp only[Jd];cases d:(decide (j<ops.size+1)&&Cv o ops.size j)with
  |false=>simp
  |true=>
   simp only[Bool.and_true];rw[Zo]at d;have d:=d.2;unfold Cv at d;rw[Array.any_eq_true']at d;obtain⟨e,z,d⟩:=d;simp only[Zo,bh,TC,dT]at d;have B:=v e z d.1;have:e.on<ops.size:=by
    rcases Nat.lt_or_ge e.on ops.size with k|k
    ·exact k
    ·have:=J e.on k;rw[h.b]at this;rw[this]at B;cases B
   rcases d.2 with f|⟨_,f⟩
   ·rw[<-f,h.b];exact B
   ·omega
 ·rintro⟨u,a,F,v⟩;split at F
  ·next q=>
   cases F
   have p:ops[i]?=some ops[i]:=ZI q;refine⟨?_,ops[i],p,λe z DZ=> ?_⟩
   ·rw[h.b]at u;have x:i<listed.size:=by rw[h.sz];exact q
    simpa [x]using u
   ·have M:∀j,j<ops.size+1->Cv ops[i] ops.size j=true->Nat.testBit L j=true:=λj f hf=>by
     have:=congrArg (λn=>Nat.testBit n j) v;simp only[Nat.testBit_and]at this;unfold OA at this;rw[p]at this;simp only[Jd]at this;rw[hf]at this
     simpa [f]using this
    have N:∀j,(e.on==j||(j==ops.size&&cF ops.size e.on))=true->Cv ops[i] ops.size j=true:=λj f=>by
     unfold Cv;rw[Array.any_eq_true'];exact⟨e,z,by rw[DZ,f];rfl⟩
    rcases Nat.lt_or_ge e.on ops.size with k|k
    ·rw[<-h.b];exact M e.on k7 (N _ gj)
    ·have:=M ops.size k7 (N _ (by simp [dT.2 k]));rw[J _ (Zx _)]at this;cases this
  ·cases F
section
variable {P:eG} {ops:Array Oper} {st:Oper->St->O St} {h0:Nat} {m:Bool} {N0:Nat} {K:St->Prop} {s0:St}
end
inductive aar
 |n
 |r
 |x (id:Nat)
def Td{α:Type}(n:Nat)(f:Nat->α):α:=Nat.casesOn (Nat.succ n) (f 0) f
def auN{α:Type}(n:Nat)(f:Nat->α):Td n f=f n:=rfl
def AV.force{α:Type}(x:AV)(f:AV->α):α:=
 match x with
 | .d (.v (.int k (.ofNat n)))=>Td n λn=>f (.d (.v (.int k (.ofNat n))))
 | .d (.v (.bool b))=>bif b then f (.d (.v (.bool true)))else f (.d (.v (.bool false)))
 |x=>f x
def AV.force_eq{α:Type}(x:AV)(f:AV->α):x.force f=f x:=by
 unfold AV.force;split;{rw[auN]};{next b=>cases b<;>rfl};{rfl}
def P6{α:Type}:U ao->(U ao->α)->α
 |[],f=>f []
 |b::l,f=>P6 l λr=>f (b::r)
def Pn{α:Type}:∀(l:U ao)(f:U ao->α),P6 l f=f l
 |[],_=>rfl
 |b::l,f=>by rw[P6,Pn l]
abbrev RE:=Bool->Nat->Code->St->O (aar×St)
abbrev Re:=FuncId->U AV->O (O AV)
def avt:O (O AV)->Bool
 |some none=>true
 |_=>false
mutual
def AV.ae6:AV->U Nat
 | .fn _ cs=>AV.T8 cs
 |_=>[]
def AV.T8:U AV->U Nat
 |[]=>[]
 | .ptr n _::l=>n::AV.T8 l
 |x::l=>x.ae6++AV.T8 l
end
def Mc:U Nat->AV->U ao->O (AV×U ao)
 |[],r,h=>some (r,h)
 |b::l,r,h=>match h[b]? with
  |some (.cells cs)=>match pg cs with
   |some d=>Mc l (r.gi b d) ((h.map (ao.gi b d)).set b .gone)
   |none=>none
  |_=>none
def Kd:AV->O D
 | .d x=>some x
 |_=>none
def PB:U AV->O (U D)
 |[]=>some []
 |x::l=>match Kd x,PB l with
  |some d,some r=>some (d::r)
  |_,_=>none
def OO:U (U AV)->O (U (U D))
 |[]=>some []
 |x::l=>match PB x,OO l with
  |some d,some r=>some (d::r)
  |_,_=>none
mutual
def AV.Z2:AV->Bool
 | .vec .. =>true
 | .agg cs=>AV.Ka cs
 | .bw cs=>AV.Ka cs
 | .fn _ cs=>AV.Ka cs
 |_=>false
def AV.Ka:U AV->Bool
 |[]=>false
 |x::l=>x.Z2||AV.Ka l
end
def xl:U Nat->AV->U ao->AV×U ao
 |[],r,h=>(r,h)
 |b::l,r,h=>match h[b]? with
  |some (.vec _ k cs)=>match OO cs with
   |some xs=>bif xs.all (λc=>c.all D.qS)then(r.du b k xs).force λr=>P6 ((h.map (ao.jr (AV.du b k xs))).set b .gone) λh=>xl l r h else xl l r h
   |none=>xl l r h
  |_=>xl l r h
def alL(h:U ao):U Nat:=(List.range h.length).reverse++(List.range h.length).reverse
def Nj(r:AV)(h:U ao):O AV:=
 match Mc r.ae6 r h with
 |some (r,_)=>some (r.bK 0)
 |none=>none
def YZ(r:AV)(h:U ao):O AV:=
 bif r.Z2 then(match xl (alL h) r h with|(r,h)=>Nj r h)else Nj r h
section
variable (run:RE) (P:eG) (Y7:Re)
def aX(lo:Nat)(f:FuncId)(args:U AV)(h:U ao):O (AV×U ao):=
 match P.funcs[f]? with
 |some b=>match b.body with
  |some c=>Td (args.length+(b.ntmps-args.length)) λn=>match run true lo c ⟨n,nh 0 args,h⟩with
   |some (.x _,_)=>none
   |some (_,s)=>match vr P s b.results.toList with
    |some l=>some (ly l,s.h)
    |none=>none
   |none=>none
  |none=>none
 |none=>none
end
section
variable {run:RE} {P:eG} {Y7:Re} {lo:Nat} {s s':St}
end
mutual
def Cf(m:Nat):∀x:AV,x.aN m=true->x.bK m=x
 | .own n xs,h=>by
   rw[AV.aN]at h;rw[AV.bK];cases e:cF m n with
   |true=>rw[e]at h;cases h
   |false=>rfl
 | .agg cs,h=>by rw[AV.aN]at h;rw[AV.bK,M7 m cs h]
 | .bw cs,h=>by rw[AV.aN]at h;rw[AV.bK,M7 m cs h]
 | .fn f cs,h=>by rw[AV.aN]at h;rw[AV.bK,M7 m cs h]
 | .d _,_=>by simp only[AV.bK]
 | .ptr ..,_=>by simp only[AV.bK]
 | .bm ..,_=>by simp only[AV.bK]
 | .full _,_=>by simp only[AV.bK]
 | .row ..,_=>by simp only[AV.bK]
 | .mp _,_=>by simp only[AV.bK]
 | .cD _,_=>by simp only[AV.bK]
 | .vec ..,_=>by simp only[AV.bK]
 | .dU ..,_=>by simp only[AV.bK]
 | .hid _,_=>by simp only[AV.bK]
 | .dead,_=>by simp only[AV.bK]
def M7(m:Nat):∀l:U AV,AV.lN m l=true->AV.rO m l=l
 |[],_=>by simp [AV.rO]
 |x::l,h=>by
  rw[AV.lN,Zo]at h;rw[AV.rO,Cf m x h.1,M7 m l h.2]
end
def amg{m:Nat}{B:ao}(h:B.aN m=true):B.bK m=B:=by
 cases B with
 |cells cs=>
  simp only[ao.aN,Zc]at h;simp only[ao.bK]
  congr 1
  exact(Z5 λx d=>Cf m x (h x d)).trans (List.map_id _)
 |lp u p as v cs=>
  simp only[ao.aN,Zc]at h;simp only[ao.bK]
  congr 1
  exact(Z5 λx d=>Cf m x (h x d)).trans (List.map_id _)
 |it z cs=>
  simp only[ao.aN,Zc]at h;simp only[ao.bK]
  congr 1
  exact(Z5 λx d=>Cf m x (h x d)).trans (List.map_id _)
 |gu F cs=>
  simp only[ao.aN,Zc]at h;simp only[ao.bK]
  congr 1
  exact(Z5 λx d=>Cf m x (h x d)).trans (List.map_id _)
 |vec e k cs=>
  simp only[ao.aN,Zc]at h;simp only[ao.bK]
  congr 1
  exact(Z5 λx d=>(Z5 λy f=>Cf m y (h x d y f)).trans (List.map_id _)).trans (List.map_id _)
 |front e k i=>rfl
 |jC e b=>rfl
 |map q=>rfl
 |l7 q=>rfl
 |gone=>rfl
def TG{m:Nat}{h:U ao}(e:h.all (ao.aN m)=true):h.map (ao.bK m)=h:=
 (Z5 λB b=>amg (Zc.1 e B b)).trans (List.map_id _)
section
variable {P:eG} {r:O Nat} {n N0:Nat} {G:Gh} {w:Zy} {a:Act} {s:St} {o:Oper} {Q:Exit->St->Prop}
end
def da.cut{P:eG}{f:FuncId}{args:U AV}{h h':U ao}{r:AV}(m:Nat)(d:da P f args h λb h1=>b=r/\h1=h')(h1:h.length<=m)(k:m<=h'.length)(p:(((h'.take m).map (ao.bK m)).all (ao.aN m))=true)(q:(r.bK m).aN m=true):
 da P f args h λb h1=>b=r.bK m/\h1=(h'.take m).map (ao.bK m):=by
 refine⟨d.1,λG w u i x z=>(d.2 G w u i x z).mono λe w' B=> ?_⟩;obtain⟨v,G',_,_,rfl,F,L,J,Ut,rfl,rfl⟩:=B;exact⟨v,G'.cut m,_,_,rfl,F.trans (rP _ _ _ _),by rw[<-i.len];exact h1,SS J k p,(Ut.bK m).cut q,rfl,rfl⟩
section
variable {run:RE} {P:eG} {Y7:Re} {lo:Nat} {s s':St}
def da.chg{f:FuncId}{args:U AV}{h0 h h2:U ao}{r b:AV}{tl:U (Nat×AV)}(k:da P f args h0 λd h1=>d=r/\h1=h)
 (u:∀(G:Gh)(w:Zy)(a:Act),dk G w a ⟨1,[(0,r)],h⟩->∃G',cf G.N G w G' w/\G'.N=G.N/\dk G' w a ⟨1,(0,b)::tl,h2⟩):da P f args h0 λd h1=>d=b/\h1=h2:=by
 refine⟨k.1,λG w x z B F=>(k.2 G w x z B F).mono λe w' J=> ?_⟩;obtain⟨v,G',_,_,rfl,L,p,M,R,rfl,rfl⟩:=J;obtain⟨G2,e1,e2,q⟩:=u G' w' {tmps:= #[v],defers:=[]} ⟨rfl,λi=>by
  show aM G' w' _ (bE [(0,_)] i);rw[mN];split;{next ei=>subst ei;exact R}
  ·exact .dead _,M,ux.nil _ _⟩
 exact⟨v,G2,b,h2,rfl,L.trans (e1.less p),by rw[e2];exact p,q.inv,q.tmp 0,rfl,rfl⟩
def Zq{f:FuncId}{args:U AV}{h0:U ao}:∀(l:U Nat){h d:U ao}{r i:AV},(da P f args h0 λk h1=>k=r/\h1=h)->Mc l r h=some (i,d)->da P f args h0 λk h1=>k=i/\h1=d
 |[],h,d,r,i,p,e=>by cases e;exact p
 |b::l,h,d,r,i,p,e=>by
  unfold Mc at e;split at e
  ·next cs q=>
   split at e
   ·next x u=>
    refine Zq l (da.chg (tl:=[]) p λG w a v=> ?_) e;refine v.yR (b:=b) ?_;simp only[Go.Proofs.YtjploedinjiflaaGreatDoor.yR,q,u];rfl
   ·cases e
  ·cases e
def XR:∀{l:U AV}{b:U D},PB l=some b->l=b.map AV.d
 |[],b,h=>by cases h;rfl
 |x::l,b,h=>by
  unfold PB at h;split at h
  ·next d r e f=>
   cases h
   rw[XR f];cases x<;>simp [Kd]at e
   subst e;rfl
  ·cases h
def Kc:∀{l:U (U AV)}{xs:U (U D)},OO l=some xs->l=bf xs
 |[],xs,h=>by cases h;rfl
 |x::l,xs,h=>by
  unfold OO at h;split at h;{next d r b e=>cases h;rw[Kc e,XR b];rfl};{cases h}
def HP{f:FuncId}{args:U AV}{h0:U ao}:∀(l:U Nat){h:U ao}{r:AV},(da P f args h0 λi h1=>i=r/\h1=h)->da P f args h0 λi h1=>i=(xl l r h).1/\h1=(xl l r h).2
 |[],h,r,d=>d
 |b::l,h,r,d=>by
  unfold xl;split
  ·next e k cs p=>
   split
   ·next xs q=>
    rw[AV.force_eq,Pn,cond_eq_ite];split
    ·next h1=>
     refine HP l (da.chg (tl:=[]) d λG w a u=> ?_);have v:=Kc q;exact u.Q8 xs (by show h[b]?=_;rw[p,v]) (λc d=>Zc.1 h1 c d)
    ·exact HP l d
   ·exact HP l d
  ·exact HP l d
def Qx{f:FuncId}{args:U AV}{h:U ao}{r i:AV}(b:da P f args [] λd h1=>d=r/\h1=h)(e:YZ r h=some i)(p:i.aN 0=true):gq P f args (·=i):=by
 have q:∀{r:AV}{h:U ao},(da P f args [] λd h1=>d=r/\h1=h)->(r.bK 0).aN 0=true->gq P f args (·=r.bK 0):=λb p=>
  (b.cut 0 (Zx _) (Wl _) gj p).mono λd h1 ⟨u,v⟩=>⟨by simpa using v,u⟩
 have k:∀{r:AV}{h:U ao},(da P f args [] λd h1=>d=r/\h1=h)->Nj r h=some i->gq P f args (·=i):=λb e=>by
  unfold Nj at e;split at e
  ·next z B x=>
   cases e
   exact q (Zq _ b x) p
  ·cases e
 unfold YZ at e;rcases aje e with⟨_,e⟩|⟨_,e⟩
 ·exact k (HP _ b) e
 ·exact k b e
end
def Ex:∀(H' H e:U ao),H'.length=H.length->iX (List.range H.length) H' (H++e)=H'++e:=by
 intro H' H e p;have k:∀(n:Nat)(a b B r:U ao),b.length=n->B.length=n->iX ((List.range n).map (a.length+·)) B (a++(b++r))=a++(B++r):=by
  intro n
  induction n with
  |zero=>intro a b B r d f;rw[List.length_eq_zero_iff.1 d,List.length_eq_zero_iff.1 f];simp [iX]
  |succ n q=>
   intro a b B r d f;cases b with
   |nil=>simp at d
   |cons u b=>
    cases B with
    |nil=>simp at f
    |cons i B=>
     rw[List.range_succ_eq_map,ZY,List.map_map,iX];have v:(a++(u::b++r)).set (a.length+0) i=(a++[i])++(b++r):=by
       rw[Nat.add_zero,List.set_append_right _ _ (Zx _),Nat.sub_self];simp
     have z:(λx=>a.length+x)∘Nat.succ=λx=>(a++[i]).length+x:=by
      funext x
      simp only[Function.comp_apply,Zi,Zp,Zg];omega
     rw[v,z,q (a++[i]) b B r (by simpa using d) (by simpa using f)];simp
 have:=k H.length [] H H' e rfl p
 simpa using this
def N9{P:eG}{k:Nat}{x:AV}{H:U ao}{C:Bool->U ao->Prop}(q:YS P k x H C)(e:U ao)(N:H.all (ao.aN H.length)=true)(R:x.aN H.length=true)
 (hC:∀b h',C b h'->h'.length=H.length/\h'.all (ao.aN H.length)=true):YS P k x (H++e) λb h'=>∃H',C b H'/\h'=H'++e:=by
 intro G w v r n hi hv;have f:∀i,i<H.length->rn (List.range H.length) (H++e).length i=i:=λi h=>Cb (List.range H.length) _ i i (by rw[List.getElem?_range h]);have BW:∀y:AV,y.aN H.length=true->y.ba (rn (List.range H.length) (H++e).length)=y:=λy q=>(CR (τ:=id) f y q).trans (Nz y);have IT:∀B:ao,B.aN H.length=true->B.ba (rn (List.range H.length) (H++e).length)=B:=λB u=>(WS (τ:=id) f B u).trans (Xj B);obtain⟨G0,z,uJ,F,RM⟩:=YV (H:=H) (l:=List.range H.length) (h:=H++e) List.nodup_range (λj hj=>by have:=List.mem_range.1 hj;simp;omega) (λi j J=>by
  obtain⟨L,rfl⟩:i<H.length/\j=i:=by
   have d:=(Zj.1 J).1;rw[List.length_range]at d;rw[List.getElem?_range d]at J;exact⟨d,(Zl J).symm⟩
  rw[ZT L,Zd L,ZG,IT _ (Zc.1 N _ (List.getElem_mem L))]) gj N hi
 obtain⟨M,p,as,bd,fn,tm,D,d,h2⟩:=q G0 w v r n uJ (aM.uG F (by rw[BW x R];exact hv) x rfl (by rw[z];exact R));have gO:k<H.length:=z▸M;have lx:G.bn k=G0.bn k:=by
  have:=F.bn k M
  rwa [f k gO]at this
 refine⟨by have:=F.lt k M;rwa [f k gO]at this,p,as,bd,fn,tm,D,by rw[lx];exact d,?_⟩;rw[lx];refine h2.mono λe1 w' hp=> ?_;obtain⟨b,G1,H',rfl,hE,iv,lk,hc⟩:=hp;rw[z]at hE iv;obtain⟨G2,a1,a2,a3,_⟩:=RM G1 w' H' hE iv lk;obtain⟨c1,c2⟩:=hC b H' hc;refine⟨b,G2,H'++e,rfl,a1,a2,?_,H',hc,rfl⟩;have hm:H'.map (ao.ba (rn (List.range H.length) (H++e).length))=H':=(Z5 λB u=>IT B (Zc.1 c2 B u)).trans (List.map_id _);rw[hm,Ex H' H e c1]at a3;exact a3
def nf(P:eG)(k:Nat):U AV->(Bool->U ao->Prop)->U ao->Prop
 |[],C,h=>C true h
 |x::l,C,h=>YS P k x h λb d=>(d.length=h.length/\d.all (ao.aN h.length)=true)/\bif b then nf P k l C d else C false d
def afP{P:eG}{k:Nat}:∀(l:U AV){C e:Bool->U ao->Prop}{h:U ao},(∀b h1,C b h1->e b h1)->nf P k l C h->nf P k l e h
 |[],_,_,_,d,f=>d _ _ f
 |x::l,C,e,h,d,f=>YS.mono f λb h1 ⟨p,i⟩=>⟨p,by
  cases b with
  |true=>exact afP l d i
  |false=>exact d _ _ i⟩
def ad2{P:eG}{k:Nat}:∀(l d:U AV){C:Bool->U ao->Prop}{h:U ao},nf P k (l++d) C h->nf P k l (λb h1=>bif b then nf P k d C h1 else C false h1) h
 |[],_,_,_,e=>e
 |x::l,d,C,h,e=>YS.mono e λb h1 ⟨i,f⟩=>⟨i,by
  cases b with
  |true=>exact ad2 l d f
  |false=>exact f⟩
def qv(h h1:U ao):Prop:=h1.length=h.length/\h1.all (ao.aN h.length)=true
def Dy(P:eG)(gf:FuncId)(dz:U AV)(xs:U AV):Prop:=∀(k:Nat)(h:U ao)(C:Bool->U ao->Prop),h.all (ao.aN h.length)=true->k<h.length->nf P k xs C h->da P gf (.cD k::dz) h λ_ d=>∃b,C b d
def aaQ(P:eG)(T:TypeId):U AV:=match jY P T with|some z=>z.cells.toList.map λu=>.d (.v u)|none=>[]
section
variable {P:eG} {r:O Nat} {N0:Nat} {Q:Exit->St->Prop} {ops:Array Oper} {o o1 o2 o3 o4 o5:Oper} {s:St} {K:St->Prop} {id:Nat}
def bX{rest:U Oper}(b:o.guard=none)(h:qW P o (vT P ops rest K) s):vT P ops (o::rest) K s:=by
 unfold vT jO;rw[b];exact h
def Bq{n d:Nat}{t:U (Nat×AV)}{h h':U ao}{x:AV}{b:HD}(i:nP P o.op (ev ⟨n,t,h⟩) h=some (x,b))(k:o.dst=some d)(f:Nat.ble n d=false)(p:b.app h=h')(q:K ⟨n,(d,x)::t,h'⟩):qW P o K ⟨n,t,h⟩:=by
 refine .inr (.inr (.inl (VP i ?_)));show K ((St.wh ⟨n,t,h⟩ (b.app h)).put o.dst x);rw[k,p];have u:d<n:=Nat.lt_of_not_le λe=>by rw[X7 e]at f;cases f
 rw[uc (s:=St.wh ⟨n,t,h⟩ h') u];exact q
def cP{n d:Nat}{t:U (Nat×AV)}{h:U ao}{x:AV}(b:nP P o.op (ev ⟨n,t,h⟩) h=some (x,.same))(e:o.dst=some d)(f:Nat.ble n d=false)(i:K ⟨n,(d,x)::t,h⟩):qW P o K ⟨n,t,h⟩:=Bq b e f rfl i
def AS{n d:Nat}{t:U (Nat×AV)}{h:U ao}{x:AV}(e:o.dst=some d)(f:Nat.ble n d=false)(i:K ⟨n,(d,x)::t,h⟩)(b:nP P o.op (ev ⟨n,t,h⟩) h=some (x,.same):=by kernel_rfl):qW P o K ⟨n,t,h⟩:=cP b e f i
def Qe{n:Nat}{t:U (Nat×AV)}{h h':U ao}{x:AV}{b:HD}(d:nP P o.op (ev ⟨n,t,h⟩) h=some (x,b))(e:o.dst=none)(f:b.app h=h')(i:K ⟨n,t,h'⟩):qW P o K ⟨n,t,h⟩:=by
 refine .inr (.inr (.inl (VP d ?_)));show K ((St.wh ⟨n,t,h⟩ (b.app h)).put o.dst x);rw[e,f];exact i
def amG{h l:U ao}{i off:Nat}{cs:U AV}(hi:l[i]?=some (.cells cs)):AW (h++l) (.ptr (h.length+i) off)=some (cs,off):=by
 unfold AW;simp only;rw[ZK (Yp _ _),Nat.add_sub_cancel_left,hi]
def zH{ρ:Operand->AV}{h l:U ao}{T:TypeId}{p:Operand}{i off:Nat}{cs:U AV}{x:AV}(b:ρ p= .ptr (h.length+i) off)(hi:l[i]?=some (.cells cs))(d:DN P T cs off=some x):nP P (.load T p) ρ (h++l)=some (x,.same):=by
 unfold nP;simp only[b,amG hi,d,pX]
def ahS{ρ:Operand->AV}{h l:U ao}{T:TypeId}{y:Operand}{v:AV}(b:ρ y=v)(d:v.kQ=true):nP P (.box T y) ρ (h++l)=some (.ptr (h.length+l.length) 0,.push (.cells v.cells)):=by
 subst b;unfold nP;simp only[d,Tj,Zi]
def VT{ρ:Operand->AV}{h l:U ao}{T:TypeId}(b:(jY P T).isSome=true):nP P (.alloc T) ρ (h++l)=some (.ptr (h.length+l.length) 0,.push (.cells (aaQ P T))):=by
 unfold nP aaQ;cases e:jY P T with
 |none=>rw[e]at b;cases b
 |some z=>simp only[e,Zi]
def Jj{h l:U ao}{B:ao}:(HD.push B).app (h++l)=h++(l++[B]):=by simp [HD.app]
def Wm{ρ:Operand->AV}{h l:U ao}{T:TypeId}{p y:Operand}{i off k:Nat}{cs:U AV}{v:AV}(b:ρ p= .ptr (h.length+i) off)(hi:l[i]?=some (.cells cs))(e:ZH P T=some k)(f:ρ y=v)(q:(k==v.cells.length&&v.kQ&&cF (off+v.cells.length) cs.length)=true){cw:U AV}(u:jn cs off v.cells=cw):
 nP P (.store T p y) ρ (h++l)=some (.d (.v undef),.set (h.length+i) (.cells cw)):=by
 subst f u;unfold nP;simp only[b,e];rw[ZK (Yp _ _),Nat.add_sub_cancel_left,hi];simp only[q,Tj]
def Sj{ρ:Operand->AV}{h:U ao}{T:TypeId}{a i:Operand}{xs:U (U D)}{q e k:Nat}{c:U D}(b:ρ a= .d (.sl xs))(hi:ρ i= .d (.v (.int .i64 (Int.ofNat q))))(f:fF P T=some (e,k))(p:xs[q]?=some c)(u:(c.length==k)=true):nP P (.indexAddr T a i) ρ h=some (.bm [c] 0 0,.same):=by
 unfold nP;simp only[b,hi];unfold MD;simp only[f,AV.gV,AV.int?,zN,p,u,Tj,pX]
def Vm{h l:U ao}{B:ao}{i:Nat}:(HD.set (h.length+i) B).app (h++l)=h++l.set i B:=by
 simp only[HD.app];rw[List.set_append_right _ _ (Yp _ _),Nat.add_sub_cancel_left]
def wz{n d:Nat}{t:U (Nat×AV)}{h:U ao}{T:TypeId}{x y:Operand}{p:TypeId}{xs:U (U D)}{q:TypeId×Nat}(f:o.op= .binOp .eql T x y p)(i:(ev ⟨n,t,h⟩ x).gV=some xs)(k:ev ⟨n,t,h⟩ y= .d (.v (.slice none 0 0)))(u:fF P T=some q)(z:o.dst=some d)(e:Nat.ble n d=false)
 (h1:xs=[]->K ⟨n,(d,.d (.v (.bool true)))::t,h⟩) (B:K ⟨n,(d,.d (.v (.bool false)))::t,h⟩):qW P o K ⟨n,t,h⟩:=by
 refine .inr (.inl ?_);have F:d<n:=Nat.lt_of_not_le λb=>by rw[X7 b]at e;cases e
 unfold I4;simp only[f,i,k,u,yB,z,uc (s:=⟨n,t,h⟩) F];exact⟨h1,B⟩
def Bi{n d k:Nat}{t:U (Nat×AV)}{h:U ao}{c:Call}{f:Operand}{x:AV}(p:o.op= .call c)(q:c.callee= .value f)(u:ev ⟨n,t,h⟩ f= .cD k)(z:c.args.toList.map (ev ⟨n,t,h⟩)=[x])(B:o.dst=some d)(i:Nat.ble n d=false)
 (F:YS P k x h λb h'=>K ⟨n,(d,.d (.v (.bool b)))::t,h'⟩):qW P o K ⟨n,t,h⟩:=by
 refine .inr (.inr (.inr (.inl ?_)));unfold NA;simp only[p,q,u,z];refine F.mono λb h' J=> ?_;have L:d<n:=Nat.lt_of_not_le λe=>by rw[X7 e]at i;cases i
 rw[B,uc (s:=St.wh ⟨n,t,h⟩ h') L];exact J
def Fi{n:Nat}{t:U (Nat×AV)}{h:U ao}{c:Call}{f:Operand}{g:FuncId}{dz:U AV}(b:o.op= .call c)(d:c.callee= .value f)(e:ev ⟨n,t,h⟩ f= .fn g dz)
 (i:da P g (c.args.toList.map (ev ⟨n,t,h⟩)++dz) h λx h'=>K ((St.wh ⟨n,t,h⟩ h').put o.dst x)):qW P o K ⟨n,t,h⟩:=by
 refine .inr (.inr (.inl ?_));unfold tz dg;simp only[b,d,e];exact i
end
def akO{P:eG}{f:FuncId}{args:U AV}{H:U ao}{K:AV->U ao->Prop}(N:da P f args H K)(e:U ao)(q:H.all (ao.aN H.length)=true)(u:args.all (AV.aN H.length)=true)
 (R:∀r h',K r h'->h'.length=H.length/\h'.all (ao.aN H.length)=true/\r.aN H.length=true):da P f args (H++e) λr h'=>∃H',K r H'/\h'=H'++e:=by
 have v:∀i,i<H.length->rn (List.range H.length) (H++e).length i=i:=λi h=>Cb (List.range H.length) _ i i (by rw[List.getElem?_range h]);have z:∀y:AV,y.aN H.length=true->y.ba (rn (List.range H.length) (H++e).length)=y:=λy hy=>(CR (τ:=id) v y hy).trans (Nz y);have F:∀B:ao,B.aN H.length=true->B.ba (rn (List.range H.length) (H++e).length)=B:=λB b=>(WS (τ:=id) v B b).trans (Xj B);have:=N.Zz (l:=List.range H.length) (h:=H++e) List.nodup_range (λj hj=>by have:=List.mem_range.1 hj;simp;omega) (λi j d=>by
  obtain⟨k,rfl⟩:i<H.length/\j=i:=by
   have p:=(Zj.1 d).1;rw[List.length_range]at p;rw[List.getElem?_range p]at d;exact⟨p,(Zl d).symm⟩
  rw[ZT k,Zd k,ZG,F _ (Zc.1 q _ (List.getElem_mem k))]) gj u q
 have ea:args.map (AV.ba (rn (List.range H.length) (H++e).length))=args:=(Z5 λx hx=>z x (Zc.1 u x hx)).trans (List.map_id _);rw[ea]at this;refine this.mono λr' h' ⟨r,H',J,L,M⟩=> ?_;obtain⟨c1,c2,c3⟩:=R r H' J;have hm:H'.map (ao.ba (rn (List.range H.length) (H++e).length))=H':=(Z5 λB b=>F B (Zc.1 c2 B b)).trans (List.map_id _);rw[hm,Ex H' H e c1]at M;rw[z r c3]at L;exact⟨H',by rw[L];exact J,M⟩
def auB{h:U ao}{p:AV}{K K':U AV->Nat->Prop}(d:∀cs off,K cs off->K' cs off)(b:uE h p K):uE h p K':=by
 unfold uE at b ⊢;split at b
 ·next n off=>
  split at b;{next cs e=>(try simp only[e]);exact d _ _ b};{exact b.elim}
 ·next xs i off=>
  split at b;{next cs e=>(try simp only[e]);exact d _ _ b};{exact b.elim}
 ·exact b.elim
def ak1{P:eG}{T:TypeId}{h:U ao}{p:AV}{K K':AV->Prop}(f:∀x,K x->K' x)(i:qE P T h p K):qE P T h p K':=
 auB (λcs q b=>by
  split at b
  ·next k d e=>
   try simp only[d,e]
   exact cm.2 ⟨(cm.1 b).1,f _ (cm.1 b).2⟩
  ·next k d e=>
   try simp only[d,e]
   split at b;{next c u=>(try simp only[u]);exact f _ b};{exact b.elim}
  ·exact b.elim) i
def amk{P:eG}{fn:Func}{n:Nat}{t:U (Nat×AV)}{H l:U ao}{K:AV->U ao->Prop}(k:H.all (ao.aN H.length)=true)(u:oS P ⟨n,t,H++l⟩ fn.results.toList λd=>((ly d).bK H.length).aN H.length=true/\K ((ly d).bK H.length) H):tC P fn H.length K ⟨n,t,H++l⟩:=by
 have v:(((H++l).take H.length).map (ao.bK H.length))=H:=by rw[List.take_left];exact TG k
 unfold tC;show oS P ⟨n,t,H++l⟩ fn.results.toList λd=>H.length<=(H++l).length/\_;simp only[v];have f:∀(b:U ResultVar){C C':U AV->Prop},(∀x,C x->C' x)->oS P ⟨n,t,H++l⟩ b C->oS P ⟨n,t,H++l⟩ b C':=by
  intro b
  induction b with
  |nil=>intro C C' e h;exact e _ h
  |cons x b q=>
   intro C C' e h;cases x with
   |tmp t=>exact q (λy i=>e _ i) h
   |cell p t=>exact ak1 (λx h=>q (λy i=>e _ i) h) h
 exact f _ (λd ⟨z,B⟩=>⟨by simp,z,k,B⟩) u
def Cu{n:Nat}{t:U (Nat×AV)}{H l:U ao}(live:U Nat)(b:H.all (ao.aN H.length)=true):(⟨n,t,H++l⟩:St).mask live H.length=⟨n,live.map λk=>(k,(bE t k).bK H.length),H⟩:=by
 unfold St.mask;rw[show((H++l).take H.length).map (ao.bK H.length)=H by rw[List.take_left];exact TG b]
def BQ{n:Nat}{t:U (Nat×AV)}{H l:U ao}(live:U Nat)(b:H.all (ao.aN H.length)=true)(d:(live.all λk=>((bE t k).bK H.length).aN H.length)=true):(⟨n,t,H++l⟩:St).BD live H.length:=
 ⟨by simp,d,by rw[show((H++l).take H.length).map (ao.bK H.length)=H by rw[List.take_left];exact TG b];exact b⟩
def Km{n:Nat}{t:U (Nat×AV)}{H:U ao}(live:U Nat)(b:H.all (ao.aN H.length)=true):(⟨n,t,H⟩:St).mask live H.length=⟨n,live.map λk=>(k,(bE t k).bK H.length),H⟩:=by
 have:=Cu (n:=n) (t:=t) (l:=[]) live b
 rwa [ZW]at this
def L5{n:Nat}{t:U (Nat×AV)}{H:U ao}(live:U Nat)(b:H.all (ao.aN H.length)=true)(d:(live.all λk=>((bE t k).bK H.length).aN H.length)=true):(⟨n,t,H⟩:St).BD live H.length:=by
 have:=BQ (n:=n) (t:=t) (l:=[]) live b d
 rwa [ZW]at this
def CA{k m:Nat}(h:k<m):((AV.cD k).bK m).aN m=true:=by simp [AV.bK,AV.aN,cF];omega
structure xB(s:St)(m:Nat)(s':St):Prop where
 cut:∀{G:Gh}{w:World}{a:Act},dk G w a s->dk (G.cut m) w a s'
def xB.S{s s':St}{live:U Nat}{m:Nat}(h:k8 s live m=some s'):xB s m s':=⟨λb=>b.k8 h⟩
def am7{P:eG}{r:O Nat}{N0 m:Nat}{c:Code}{s:St}{R b:Exit->St->Prop}(f:N0<=m)(h:bM P r N0 c R s)(i:∀e d,R e d->∃s',xB d m s'/\b e s'):bM P r N0 c b s:=by
 constructor
 intro G w a n k p;refine wpIn_mono (h.run G w a n k p) λe F J q=> ?_;obtain⟨G1,s1,u,_,v,x⟩:=q;obtain⟨s',z,B⟩:=i e s1 x;exact⟨G1.cut m,s',u.trans (rP _ _ _ _),f,z.cut v,B⟩
def HL(m:Nat)(n:Nat)(T:U (Nat×AV))(LP:ao)(next:U ao->Prop)(Q:Exit->St->Prop)(e:Exit)(s:St):Prop:=
 ∃b,b.length=m/\b.all (ao.aN (m+1))=true/\xB s (m+1) ⟨s.n,[],b++[LP]⟩/\match e with
  | .normal=>next b
  | .ret=>Q .ret ⟨n,T,b++[.gone]⟩
  | .exit i=>Q (.exit i) ⟨n,T,b++[.gone]⟩
  |_=>False
def ya{P:eG}{N0 n m:Nat}{T:U (Nat×AV)}{H:U ao}{Q:Exit->St->Prop}{g:Operand}{p:Nat}{as f:Code}{gf:FuncId}{dz:U AV}(hg:ev ⟨n,T,H⟩ g= .fn gf dz){α:Type}{enc:α->AV}{xs:U α}(hI:Dy P gf dz (xs.map enc))
 {ι:Type} (q:ι->U ao) (d:ι->U α->Prop) (u:ι) (h0:H=q u) (uJ:d u xs) (J:∀i,(q i).length=m) (lO:∀i,(q i).all (ao.aN (m+1))=true) (hT:(dL n T).all (AV.aN (m+1))=true) (hp:Nat.ble n p=false)
 (round:∀i x l,d i (x::l)->∀(N:Nat)(a b:Code),bM P (some N) (m+1) as (jG (λs1=>∃k e,k.length=m/\s1.h=k++ .lp .ready p a b (dL n T)::e/\
  bM P (some N) (m+1) f (HL m n T (.lp .busy p a b (dL n T)) (λcA=>∃i',cA=q i'/\d i' l) Q) ⟨s1.n,s1.t,k++ .lp .busy p a b (dL n T)::e⟩) (λ_ _=>False)) ⟨n,(p,enc x)::nh 0 (dL n T),q i++[.lp .ready p a b (dL n T)]⟩)
 (done:∀i,d i []->Q .normal ⟨n,T,q i++[.gone]⟩):bM P none N0 (.rangeFunc g #[p] as f) Q ⟨n,T,H⟩:=by
 subst h0;have L:(q u).length=m:=J u;have x8:(dL n T).length=n:=by simp [dL]
 have R:∀v,(ao.lp v p as f (dL n T)).aN (m+1)=true:=λv=>hT;refine au0 hg ?_;show da P gf (.cD (q u).length::dz) (q u++[.lp .ready p as f (dL n T)]) _;have Ek:∀(k:U ao)(B B':ao),k.length=m->(k++[B]).set m B'=k++[B']:=λk B B' h=>by
  rw[List.set_append_right _ _ (Nat.le_of_eq h),h,Nat.sub_self];rfl
 have fQ:∀(k:U ao)(B:ao)(e:U ao),k.length=m->(k++B::e)[m]?=some B:=λk B e h=>by
  rw[ZK (Nat.le_of_eq h),h,Nat.sub_self];rfl
 have seq:∀(l:U α)(i:ι),d i l->nf P m (l.map enc) (λb h1=>∃(k:U ao)(v:LS),k.length=m/\h1=k++[.lp v p as f (dL n T)]/\RO P N0 Q ⟨n,T,k++[.gone]⟩ v) (q i++[.lp .ready p as f (dL n T)]):=by
  intro l
  induction l with
  |nil=>intro i hi;exact⟨q i,.ready,J i,rfl,done i hi⟩
  |cons x l ih=>
   intro i hi;have M:(q i++[ao.lp .ready p as f (dL n T)]).length=m+1:=by simp [J i]
   refine aoC ⟨p,as,f,dL n T,fQ _ _ [] (J i),?_,λN=> ?_⟩;{rw[x8];exact Nat.lt_of_not_le λhle=>by rw[X7 hle]at hp;cases hp}
   ·rw[M,x8];refine(round i x l hi N as f).mono λe s1 fW=> ?_;cases e with
    |normal=>
     obtain⟨k,e',F,k2,k3⟩:=fW;refine⟨p,as,f,dL n T,by rw[k2];exact fQ _ _ _ F,?_⟩;have hse:s1.h.set m (.lp .busy p as f (dL n T))=k++ .lp .busy p as f (dL n T)::e':=by
      rw[k2,List.set_append_right _ _ (Nat.le_of_eq F),F,Nat.sub_self];rfl
     rw[hse];refine am7 (Zx _) k3 λe2 s2 hr=> ?_;obtain⟨zj,z,c5,c3,c4⟩:=hr;refine⟨_,c3,?_⟩;have gn:∀B,B.aN (m+1)=true->(zj++[B]).all (ao.aN (m+1))=true:=λB hB=>by
       rw[List.all_append,c5];simp [hB]
     have zT:(zj++[ao.lp .busy p as f (dL n T)])[m]?=some (.lp .busy p as f (dL n T)):=fQ _ _ [] z;cases e2 with
     |normal=>
      obtain⟨i',rfl,eK⟩:=c4;refine⟨p,as,f,dL n T,zT,?_⟩;simp only[Ek _ _ _ z];exact⟨⟨by simp [J],gn _ (R _)⟩,ih i' eK⟩
     |ret=>
      refine⟨p,as,f,dL n T,zT,?_⟩;simp only[Ek _ _ _ z];exact⟨⟨by simp [z],gn _ (R _)⟩,zj,.done .ret,z,rfl,cT c4⟩
     |exit j=>
      refine⟨p,as,f,dL n T,zT,?_⟩;simp only[Ek _ _ _ z];exact⟨⟨by simp [z],gn _ (R _)⟩,zj,.done (.exit j),z,rfl,mA c4⟩
     |_=>exact c4.elim
    |_=>exact fW.elim
 have YF:(q u++[ao.lp .ready p as f (dL n T)]).length=m+1:=by simp [L]
 refine(hI (q u).length _ _ (by rw[YF,List.all_append,lO u];simp [R]) (by rw[YF,L];exact ZC m) (by rw[L];exact seq xs u uJ)).mono λ_ h1 hb=> ?_;obtain⟨b,k,v,F,rfl,k2⟩:=hb;refine⟨v,p,as,f,dL n T,?_,?_⟩
 ·show(k++[ao.lp v p as f (dL n T)])[(q u).length]?=_;rw[L];exact fQ _ _ [] F
 ·show RO P N0 Q ⟨n,T,(k++[ao.lp v p as f (dL n T)]).set (q u).length .gone⟩ v;rw[L,Ek _ _ _ F];exact k2
section
variable {m n:Nat} {T:U (Nat×AV)} {LP:ao} {next:U ao->Prop} {Q:Exit->St->Prop} {s:St}
def zA(b:U ao)(d:b.length=m)(e:b.all (ao.aN (m+1))=true)(f:k8 s [] (m+1)=some ⟨s.n,[],b++[LP]⟩)(i:next b):HL m n T LP next Q .normal s:=⟨b,d,e,.S f,i⟩
def DC(b:U ao)(d:b.length=m)(e:b.all (ao.aN (m+1))=true)(f:k8 s [] (m+1)=some ⟨s.n,[],b++[LP]⟩)(i:Q .ret ⟨n,T,b++[.gone]⟩):HL m n T LP next Q .ret s:=⟨b,d,e,.S f,i⟩
def aoI{i:Nat}(b:U ao)(d:b.length=m)(e:b.all (ao.aN (m+1))=true)(f:k8 s [] (m+1)=some ⟨s.n,[],b++[LP]⟩)(k:Q (.exit i) ⟨n,T,b++[.gone]⟩):HL m n T LP next Q (.exit i) s:=⟨b,d,e,.S f,k⟩
end
abbrev Lf:=St×U Nat×U (Nat×U (In×ct))
def yd(d:Nat->O (U Lf)):U Nat->O (U Lf)
 |[]=>some []
 |k::r=>match d k with
  |some a=>match yd d r with
   |some b=>some (a++b)
   |none=>none
  |none=>none
def Bn(P:eG)(ops:Array Oper)(A C:U Nat)(as:U (Nat×ct)):Nat->Nat->U Nat->U (Nat×U (In×ct))->St->O (U Lf)
 |0,L,d,b,s=>match sK A L 0 with
  |[]=>some [(s,d,b)]
  |_=>none
 |f+1,L,d,b,s=>match sK A L 0 with
  |[]=>some [(s,d,b)]
  |e::r=>yd (λk=>match ops[k]? with
     |some o=>match pz P ops true o k as s with
      |some (s1,l)=>fN (L|||(1<<<k)) λL=>Bn P ops A C as f L (d++List.replicate (s1.h.length-s.h.length) k) ((k,l)::b) s1
      |none=>none
     |none=>none) (match y8 C L (e::r)with
      |some k=>[k]
      |none=>e::r)
def acI{i:Nat->O (U Lf)}:∀{l:U Nat}{e:U Lf},yd i l=some e->∀k∈l,∃a,i k=some a/\∀x∈a,x∈e
 |[],_,_,k,d=>by cases d
 |j::r,e,h,k,d=>by
  unfold yd at h;split at h
  ·next a p=>
   split at h
   ·next b q=>
    cases h
    rcases Za.1 d with rfl|d
    ·exact⟨a,p,λx f=>aq _ f⟩
    ·obtain⟨u,v,z⟩:=acI q k d;exact⟨u,v,λx f=>aa _ (z x f)⟩
   ·cases h
  ·cases h
section
variable {P:eG} {ops:Array Oper} {as:U (Nat×ct)} {K:St->Prop} {s0:St}
def aqu{o:Oper}{j:Nat}{dr:Bool}{s s1:St}{l:U (In×ct)}(h:pz P ops dr o j as s=some (s1,l))(f:o∈ops.toList)(k:pv (ra ops.toList) s0 s):pv (ra ops.toList) s0 s1:=by
 have x:∀{i a r l},wc i a r=some (s1,l)->∃m,r=some (s1,m):=fun{i a r l} h=>by
  unfold wc at h;split at h;{exact⟨_,h⟩}
  ·split at h
   ·cases h;exact⟨_,rfl⟩
   ·cases h
 have p:∀{m r l},s6 m r=some (s1,l)->∃m,r=some (s1,m):=fun{m r l} h=>by
  unfold s6 at h;split at h;{cases h;exact⟨_,rfl⟩};{cases h}
 have b:pv (ra ops.toList) s0 (G9 o s):=k.put s.h (.d (.v undef)) (P0 f);have st:∀l,pG P dr o j as s=some (s1,l)->pv (ra ops.toList) s0 s1:=λl h=>by
  unfold pG at h;cases u:dr&&Cl (jN as (3*j+1))&& !BP o (jN as (3*j+1))with
  |true=>rw[u]at h;cases h
  |false=>
   rw[u]at h;simp only[Tf]at h;split at h;{split at h<;>(obtain⟨m,e⟩:=x h;cases e;exact k.put _ _ (P0 f))};{cases h}
 unfold pz at h;split at h;{exact st _ h}
 ·split at h
  ·obtain⟨m,e⟩:=p h;revert e;generalize ((_:Bool)==_)=q;intro e;cases q with
   |true=>exact st _ e
   |false=>cases e;exact b
  ·obtain⟨m,e⟩:=p h;cases e;exact b
  ·cases h
def vmV(hK:tt K)(hM:qQ (Region.before ops) ops=true)(t0:U (Nat×AV)):
 ∀(f L:Nat)(listed:Array Bool)(al:U Nat)(B:U (Nat×U (In×ct)))(s:St)(J:U Lf),LM ops L listed->Dn ops listed->Bn P ops (qV ops 0 ops.size) (lY ops false (Region.before ops) 0 ops.size) as f L al B s=some J->
  (∃x,x∈J)/\(∀x∈J,(∀p∈B,p∈x.2.2)/\((∃q,s.t=q++t0)->∃q,x.1.t=q++t0)/\(pv (ra ops.toList) s0 s->pv (ra ops.toList) s0 x.1))/\((∀x∈J,(∀p∈x.2.2,hX P p.2)/\K x.1)->mB false P ops K f listed s)
 |0,L,listed,al,B,s,J,N,hD,h=>by
  unfold Bn at h;split at h
  ·next hr=>
   cases h
   refine⟨⟨_,Zt⟩,λx d=> ?_,λv=>⟨?_,(v _ Zt).2⟩⟩;{rw[ah]at d;subst d;exact⟨λ_ h=>h,λh=>h,λh=>h⟩};{rw[List.eq_nil_iff_forall_not_mem];intro i hi;have:=(N.ready i).1 hi;rw[hr]at this;cases this}
  ·cases h
 |f+1,L,listed,al,B,s,J,N,hD,h=>by
  have mem:∀{k:Nat}{o:Oper},ops[k]?=some o->o∈ops.toList:=λF=>Array.mem_toList_iff.2 (Array.mem_of_getElem? F);unfold Bn at h;split at h
  ·next hr=>
   cases h
   refine⟨⟨_,Zt⟩,λx d=> ?_,λv=>⟨λ_=>(v _ Zt).2,λi hi=> ?_⟩⟩;{rw[ah]at d;subst d;exact⟨λ_ h=>h,λh=>h,λh=>h⟩};{have:=(N.ready i).1 hi;rw[hr]at this;cases this}
  ·next k0 r hr=>
   generalize hgo:(λk:Nat=>(match ops[k]? with
    |some o=>match pz P ops true o k as s with
     |some (s1,l)=>fN (L|||(1<<<k)) λL=>Bn P ops (qV ops 0 ops.size) (lY ops false (Region.before ops) 0 ops.size) as f L (al++List.replicate (s1.h.length-s.h.length) k) ((k,l)::B) s1
     |none=>none
    |none=>none:O (U Lf)))=go at h
   have R:∀k a,k∈Region.ready .any ops listed->go k=some a->∃o s1 l,ops[k]?=some o/\pz P ops true o k as s=some (s1,l)/\(∃x,x∈a)/\(∀x∈a,(∀p∈(k,l)::B,p∈x.2.2)/\((∃q,s.t=q++t0)->∃q,x.1.t=q++t0)/\(pv (ra ops.toList) s0 s->pv (ra ops.toList) s0 x.1))/\
       ((∀x∈a,(∀p∈x.2.2,hX P p.2)/\K x.1)->∃y u,nY false P ops o s y u/\mB false P ops K f (listed.setIfInBounds k true) ((s.wh u).put o.dst y)):=λk a xk xQ=>by
    rw[<-hgo]at xQ;simp only at xQ;split at xQ
    ·next o F=>
     split at xQ
     ·next s1 l hg=>
      rw[Da]at xQ;obtain⟨u,z,h3⟩:=vmV hK hM t0 f _ _ _ _ s1 a (N.set (ZP.1 F).1) (hD.set xk) xQ;refine⟨o,s1,l,F,hg,u,λx d=>⟨(z x d).1,fun⟨q,hp⟩=> ?_,λhB=>(z x d).2.2 (aqu hg (mem F) hB)⟩,λv=> ?_⟩;{obtain⟨⟨p1,M⟩,_⟩:=Qu hg;exact(z x d).2.1 ⟨p1++q,by rw[M,hp,ZU]⟩}
      ·obtain⟨x,d⟩:=u;have hl:hX P l:=(v x d).1 (k,l) ((z x d).1 _ Zt);have h4:=S6 (K:=(·=s1)) hg hl rfl;have h5:=h3 v;have:∃y u,nY false P ops o s y u/\(s.wh u).put o.dst y=s1:=by
        rcases J9 h4 with⟨g,hd⟩|⟨g,hd⟩
        ·obtain⟨y,u,z,h3⟩:=ME hd;exact⟨y,u,.inl ⟨g,z⟩,h3⟩
        ·exact⟨_,s.h,.inr ⟨g,rfl,rfl⟩,hd⟩
       obtain⟨y,hh,q1,rfl⟩:=this;exact⟨y,hh,q1,h5⟩
     ·cases xQ
    ·cases xQ
   cases hf:y8 (lY ops false (Region.before ops) 0 ops.size) L (k0::r)with
   |some k=>
    rw[hf]at h;obtain⟨ko,zg⟩:=I6 hf;have xk:k∈Region.ready .any ops listed:=(N.ready k).2 (by rw[hr];exact ko);unfold yd at h;split at h
    ·next a M=>
     unfold yd at h;simp only[ZW]at h;cases h
     obtain⟨o,s1,l,F,hg,u,z,h3⟩:=R k _ xk M;refine⟨u,λx d=>⟨λp hp=>(z x d).1 p (Zk _ hp),(z x d).2⟩,λv=> ?_⟩;obtain⟨y,hh,q1,q2⟩:=h3 v;refine JS hK hM F f listed s hD (λj oj hj cV sb vp=> ?_) xk q1 q2;have I1:=(ZP.1 hj).1;have qz:=(ZP.1 F).1;have Wf:Nat.testBit L j=false:=by
      rw[N.b];have jw:j<listed.size:=by rw[N.sz];exact I1
      simpa [jw]using sb
     have pJ:Nat.testBit (xC ops false (Region.before ops) k) j=false:=by
      rw[<-Uj];intro hc;have h5:(lY ops false (Region.before ops) 0 ops.size).getD k 0=xC ops false (Region.before ops) k:=by
        rw[List.getD_eq_getElem?_getD,Qm,ae qz,ZQ];rfl
      rw[h5]at zg;have:=congrArg (λn=>Nat.testBit n j) zg;simp only[Nat.testBit_or,hc,Wf]at this;cases this
     unfold xC at pJ;rw[Jd]at pJ;unfold Tc at pJ;rw[vp,F,hj]at pJ;simp [I1,cV]at pJ;exact pJ
    ·cases h
   |none=>
    rw[hf]at h;have Zb:=acI h;have CY:k0∈Region.ready .any ops listed:=(N.ready k0).2 (by rw[hr];simp);have back:∀(l:U Nat)(J:U Lf),yd go l=some J->∀x∈J,∃k∈l,∃a,go k=some a/\x∈a:=by
      intro l
      induction l with
      |nil=>intro J h x d;cases h;cases d
      |cons j r ih=>
       intro J h x d;unfold yd at h;split at h
       ·next a M=>
        split at h
        ·next b e2=>
         cases h
         rcases ZM.1 d with d|d
         ·exact⟨j,Zt,a,M,d⟩
         ·obtain⟨k,v,a',u,z⟩:=ih b e2 x d;exact⟨k,Zk _ v,a',u,z⟩
        ·cases h
       ·cases h
    refine⟨?_,λx d=> ?_,λv=>⟨λe=>(by rw[e]at CY;cases CY),λi hi oi NM=> ?_⟩⟩;{obtain⟨a,M,u⟩:=Zb k0 Zt;obtain⟨o,s1,l,F,hg,⟨x,d⟩,_⟩:=R k0 a CY M;exact⟨x,u x d⟩};{obtain⟨k,v,a,M,hxa⟩:=back _ _ h x d;obtain⟨o,s1,l,F,hg,u,z,h3⟩:=R k a ((N.ready k).2 (by rw[hr];exact v)) M;exact⟨λp hp=>(z x hxa).1 p (Zk _ hp),(z x hxa).2⟩}
    ·have eK:i∈k0::r:=by rw[<-hr];exact(N.ready i).1 hi
     obtain⟨a,M,u⟩:=Zb i eK;obtain⟨o,s1,l,F,hg,_,_,h3⟩:=R i a hi M;rw[F]at NM;cases NM;exact h3 λx d=>v x (u x d)
end
def Ti(k:Nat):U Nat->Nat
 |[]=>0
 |j::l=>bif cF (j+1) k then Ti k l+1 else Ti k l
def WG(k:Nat):U Nat->Nat
 |[]=>0
 |j::l=>bif j==k then WG k l+1 else WG k l
def R9(h0:Nat)(b:U Nat):U Nat->U Nat->U Nat
 |_,[]=>[]
 |pre,k::l=>fN (h0+Ti k b+WG k pre) λq=>q::R9 h0 b (k::pre) l
def aif(q:Nat):U Nat->Nat->Nat
 |[],i=>i
 |x::l,i=>bif x==q then i else aif q l (i+1)
def QR(h0:Nat)(p:U Nat):Nat->Nat->U Nat
 |0,_=>[]
 |n+1,q=>fN (aif q p h0) λi=>i::QR h0 p n (q+1)
def Im(a:Nat×U (In×ct)):U (Nat×U (In×ct))->U (Nat×U (In×ct))
 |[]=>[a]
 |b::l=>bif cF a.1 b.1 then a::b::l else b::Im a l
def IW:U (Nat×U (In×ct))->U (Nat×U (In×ct))
 |[]=>[]
 |a::l=>Im a (IW l)
def Mr:U (Nat×U (In×ct))->U (In×ct)
 |[]=>[]
 |a::l=>a.2++Mr l
def vX(p q:U Nat)(h0:Nat)(h:U ao):Nat->Nat->U ao
 |0,_=>[]
 |n+1,i=>(match h[ku h0 q i]? with|some B=>B.ba (ku h0 p)|none=>.gone)::vX p q h0 h n (i+1)
def BF(h0:Nat)(p:U Nat):Bool:=(List.range p.length).all λi=>p.getD i 0==h0+i
def ajQ{h0:Nat}{p:U Nat}(h:BF h0 p=true):ku h0 p=id:=by
 funext i
 unfold ku;cases e:cF h0 i with
 |false=>rfl
 |true=>
  rw[dT]at e;simp only[Tj,id];by_cases b:i-h0<p.length;{unfold BF at h;rw[Zc]at h;have:=h (i-h0) (List.mem_range.2 b);rw[TC,List.getD_eq_getElem?_getD,Zd b]at this;rw[List.getD_eq_getElem?_getD,Zd b];simp only[Option.getD_some]at this ⊢;omega};{rw[List.getD_eq_getElem?_getD,Z1 k7];rfl}
def aeW(b:U Nat)(s:St)(x:Lf)(p q:U Nat):O (U (Nat×AV)×U ao×U (In×ct)):=bif (x.1.t.take (x.1.t.length-s.t.length)).all (λp=>b.any (·==p.1)||X5 (bE s.t p.1))&&(List.range x.1.h.length).all (λi=>cF (ku s.h.length p i+1) x.1.h.length&&cF (ku s.h.length q i+1) x.1.h.length&&ku s.h.length q (ku s.h.length p i)==i&&ku s.h.length p (ku s.h.length q i)==i)then some (b.map λk=>(k,(bE x.1.t k).ba (ku s.h.length p)),bif BF s.h.length p then x.1.h else vX p q s.h.length x.1.h x.1.h.length 0,Mr (IW x.2.2))else none
def O2(b:U Nat)(s:St)(x:Lf):O (U (Nat×AV)×U ao×U (In×ct)):=fL (R9 s.h.length x.2.1 [] x.2.1) λp=>fL (QR s.h.length p p.length s.h.length) λq=>aeW b s x p q
def JO(d:U Nat)(s:St):U Lf->O (U (U (Nat×AV)×U ao×U (In×ct)))
 |[]=>some []
 |x::l=>match O2 d s x with
  |some a=>match JO d s l with
   |some b=>some (a::b)
   |none=>none
  |none=>none
def BJ(P:eG)(ol:U Oper)(as:U (Nat×ct))(b:U Nat)(s:St):O (U (U (Nat×AV)×U ao×U (In×ct))):=
 bif qQ (Region.before ol.toArray) ol.toArray then fL (qV ol.toArray 0 ol.toArray.size) λA=>fL (lY ol.toArray false (Region.before ol.toArray) 0 ol.toArray.size) λC=>
  match Bn P ol.toArray A C as ol.toArray.size 0 [] [] s with
  |some d=>JO b s d
  |none=>none
 else none
def Ql{d:U Nat}{s:St}:∀{f:U Lf}{r},JO d s f=some r->∀x∈f,∃a∈r,O2 d s x=some a
 |[],_,_,x,e=>by cases e
 |y::l,r,h,x,e=>by
  unfold JO at h;split at h
  ·next a i=>
   split at h
   ·next b k=>
    cases h
    rcases Za.1 e with rfl|e
    ·exact⟨a,Zt,i⟩
    ·obtain⟨p,q,u⟩:=Ql k x e;exact⟨p,Zk _ q,u⟩
   ·cases h
  ·cases h
def afb{a x:Nat×U (In×ct)}:∀{l:U (Nat×U (In×ct))},x∈Im a l↔x=a\/x∈l
 |[]=>by simp [Im]
 |b::l=>by
  unfold Im;cases cF a.1 b.1 with
  |true=>simp
  |false=>
   simp only[Tf,Za,afb (l:=l)];constructor
   ·rintro(h|h|h)
    ·exact .inr (.inl h)
    ·exact .inl h
    ·exact .inr (.inr h)
   ·rintro(h|h|h)
    ·exact .inr (.inl h)
    ·exact .inl h
    ·exact .inr (.inr h)
def aa4{x:Nat×U (In×ct)}:∀{l:U (Nat×U (In×ct))},x∈IW l↔x∈l
 |[]=>by simp [IW]
 |a::l=>by rw[IW,afb,aa4 (l:=l),Za]
def unD{P:eG}:∀{l:U (Nat×U (In×ct))},hX P (Mr l)->∀p∈l,hX P p.2
 |[],_,p,b=>by cases b
 |a::l,h,p,b=>by
  unfold Mr at h;rcases Za.1 b with rfl|b
  ·exact λq d=>h q (aq _ d)
  ·exact unD (λq d=>h q (aa _ d)) p b
def szT{p q:U Nat}{h0:Nat}{h:U ao}:∀(n i j:Nat),(vX p q h0 h n i)[j]?=if j<n then some (match h[ku h0 q (i+j)]? with|some B=>B.ba (ku h0 p)|none=>.gone)else none
 |0,i,j=>by simp [vX]
 |n+1,i,0=>by simp [vX]
 |n+1,i,j+1=>by
  rw[vX,Yx,szT n (i+1) j];simp only[Nat.add_lt_add_iff_right];rw[show i+1+j=i+(j+1) by omega]
def aeH{p q:U Nat}{h0:Nat}{h:U ao}:∀(n i:Nat),(vX p q h0 h n i).length=n
 |0,_=>rfl
 |n+1,i=>by rw[vX,Zp,aeH n]
def pcS{P:eG}{ops:Array Oper}{N0:Nat}{keep:U Nat}{s:St}{x:Lf}{Δ:U (Nat×AV)}{h':U ao}{M:U (In×ct)}(h:O2 keep s x=some (Δ,h',M))(hN:N0<=s.h.length)(sG:∀i,(bE s.t i).aN s.h.length=true)
 (hn:x.1.n=s.n) (hp:∃d,x.1.t=d++s.t) (cn:hX P M):j6 N0 x.1 ⟨s.n,Δ++s.t,h'⟩/\∀p∈x.2.2,hX P p.2:=by
 unfold O2 at h;rw[AU,AU]at h;generalize R9 s.h.length x.2.1 [] x.2.1=p at h;generalize QR s.h.length p p.length s.h.length=q at h;unfold aeW at h;obtain⟨v,he⟩:=eY h;cases he
 rw[Zo]at v;obtain⟨v,u⟩:=v;simp only[Zc,List.mem_range,Zo,TC,dT]at u;have N:∀i,i<s.h.length->ku s.h.length p i=i:=λi b=>by
   unfold ku;have:cF s.h.length i=false:=by rw[<-Uj,dT];omega
   rw[this];rfl
 refine⟨?_,λy F=>unD cn y (aa4.2 F)⟩;refine j6.ba (ku s.h.length p) (ku s.h.length q) hn (by
  cases BF s.h.length p with
  |true=>rfl
  |false=>exact aeH _ _) (λi b=>(u i b).1.1.1) (λi b=>(u i b).1.1.2) (λi b=>(u i b).1.2) (λi b=>(u i b).2) (λi b=>N i k7) (λi _=> ?_) λi b=> ?_
 ·obtain⟨d,R⟩:=hp;have EX:∀(f:Nat->AV),(keep.map λk=>(k,f k)).map (·.1)=keep:=λf=>by rw[List.map_map];exact List.map_id _
  show bE ((keep.map λk=>(k,(bE x.1.t k).ba (ku s.h.length p)))++s.t) i=_\/_;rcases EV (keep.map λk=>(k,(bE x.1.t k).ba (ku s.h.length p))) s.t i with⟨B,J⟩|⟨B,J⟩
  ·rw[EX]at B;rw[J,rT (λk=>(bE x.1.t k).ba (ku s.h.length p)),ae B];exact .inl rfl
  ·rw[EX]at B;show _\/bE ((keep.map λk=>(k,(bE x.1.t k).ba (ku s.h.length p)))++s.t) i=_;rw[J];rw[R,Zi,Nat.add_sub_cancel,List.take_left']at v
   ·rw[R];rcases EV d s.t i with⟨h3,h4⟩|⟨h3,h4⟩
    ·right
     obtain⟨y,F,rfl⟩:=UZ.1 h3;have:=Zc.1 v y F;rw[bh]at this;rcases this with this|this
     ·exfalso;obtain⟨k,hk,e⟩:=List.any_eq_true.1 this;rw[TC]at e;exact B (e▸hk)
     ·generalize bE s.t y.1=z at this;cases z<;>first|rfl|cases this
    ·left
     rw[h4,CR (τ:=id) N _ (sG i),Nz]
   ·rfl
 ·show(bif BF s.h.length p then x.1.h else vX p q s.h.length x.1.h x.1.h.length 0)[ku s.h.length p i]?=_;cases L:BF s.h.length p with
  |true=>rw[ajQ L];simp only[Tj,id];rw[Zd b,ZG,Xj]
  |false=>
  simp only[Tf];rw[szT,ae (Nat.lt_of_succ_le (u i b).1.1.1),ZQ,(u i b).1.2,Zd b];rfl
def agS{P:eG}{ol:U Oper}{as:U (Nat×ct)}{b:U Nat}{s:St}{Δ:U (Nat×AV)}{h':U ao}{f:U (In×ct)}{m N0:Nat}{K:St->Prop}(h:BJ P ol as b s=some (List.replicate m (Δ,h',f)))(u:hX P f)(v:N0<=s.h.length)(z:∀i,(bE s.t i).aN s.h.length=true)(k:JI N0 K)(B:K ⟨s.n,Δ++s.t,h'⟩):
 mB false P ol.toArray K ol.toArray.size (Array.replicate ol.toArray.size false) s:=by
 unfold BJ at h;obtain⟨F,h⟩:=lR h;rw[AU,AU]at h;split at h
 ·next J L=>
  obtain⟨_,p,M⟩:=vmV (s0:=s) k.c F s.t _ 0 (Array.replicate ol.toArray.size false) _ _ s J ⟨by simp,λi=>by
   rw[Nat.zero_testBit,Array.getD_eq_getD_getElem?,Array.getElem?_replicate];split<;>rfl⟩ (λj o ho d=>by
   exfalso;rw[Array.getD_eq_getD_getElem?,Array.getElem?_replicate]at d;split at d<;>simp at d) L
  refine M λx e=> ?_;obtain⟨a,q,N⟩:=Ql h x e;rw[List.mem_replicate]at q;obtain⟨_,rfl⟩:=q;obtain⟨R,k2⟩:=pcS (P:=P) (ops:=ol.toArray) N v z ((p x e).2.2 (pv.refl _ _)).n ((p x e).2.1 ⟨[],rfl⟩) u;exact⟨k2,k _ _ R B⟩
 ·cases h
section
variable {P:eG} {r:O Nat} {N0 id n:Nat} {ol:U Oper} {y:Code} {t:U (Nat×AV)} {h:U ao} {Q Q':Exit->St->Prop}
def rtE(m:Nat)(d:P.follows .mixedOrders=true)(Δ:U (Nat×AV))(h':U ao)(e:∃b:U (Nat×Ob P),BJ P ol (j9 b) (Δ.map (·.1)) ⟨n,t,h⟩=some (List.replicate m (Δ,h',kr b)))(k:bM P r N0 y Q' ⟨n,Δ++t,h'⟩):bM P r N0 (.region id ol.toArray true) (jG (λs=>bM P r N0 y Q' s) Q) ⟨n,t,h⟩:=
 let ⟨b,e⟩:=e
 QX d λf i=>agS e (rX b) f i (Wi _) ⟨_,j6.refl _ _,k⟩
def rt(m:Nat)(d:P.follows .mixedOrders=true)(b:U (Nat×Ob P))(Δ:U (Nat×AV))(h':U ao)(e:BJ P ol (j9 b) (Δ.map (·.1)) ⟨n,t,h⟩=some (List.replicate m (Δ,h',kr b)))(k:bM P r N0 y Q' ⟨n,Δ++t,h'⟩):bM P r N0 (.region id ol.toArray true) (jG (λs=>bM P r N0 y Q' s) Q) ⟨n,t,h⟩:=rtE m d Δ h' ⟨b,e⟩ k
def rte(m:Nat)(d:P.follows .mixedOrders=true)(b:U (Nat×Ob P))(Δ:U (Nat×AV))(h':U ao)(e:BJ P ol (j9 b) (Δ.map (·.1)) ⟨n,t,h⟩=some (List.replicate m (Δ,h',kr b)))(k:Q .normal ⟨n,Δ++t,h'⟩):bM P r N0 (.region id ol.toArray true) Q ⟨n,t,h⟩:=
 QX d λf i=>agS e (rX b) f i (Wi _) ⟨_,j6.refl _ _,k⟩
end
def Be{f:AV->AV}(b:∀d,f (.d d)= .d d)(xs:U (U D)):(bf xs).map (·.map f)=bf xs:=by
 unfold bf;rw[List.map_map];refine Z5 λc _=> ?_;simp only[Function.comp,List.map_map];exact Z5 λd _=>b d
def qC(xs:U (U D)):(bf xs).length=xs.length:=by unfold bf;rw[Zw]
def DE{xs:U (U D)}{i:Nat}{c:U D}(h:xs[i]?=some c):(bf xs)[i]?=some (c.map .d):=by unfold bf;rw[Zm,h];rfl
def aaD(xs:U (U D))(i:Nat)(c:U D):bf (xs.set i c)=(bf xs).set i (c.map .d):=by unfold bf;rw[List.map_set]
def atY(xs ys:U (U D)):bf (xs++ys)=bf xs++bf ys:=by unfold bf;rw[ab]
def cZ{cs:U AV}{l:U ao}(h:VD l):VD (.cells cs::l):=⟨trivial,h⟩
def vC{e k n:Nat}{l:U ao}(h:VD l):VD (.front e k n::l):=⟨trivial,h⟩
def lh{b:U (so×D)}{l:U ao}(h:VD l):VD (.map b::l):=⟨trivial,h⟩
def vV{l:U ao}(h:VD l):VD (.gone::l):=⟨trivial,h⟩
def ao.ub(m:Nat):ao->ao
 | .vec e k cs=>.vec e k cs
 |B=>B.bK m
def ao.CX:ao->ao
 | .vec e k cs=>.vec e k cs
 |B=>B.sy
def ao.CD(m:Nat):ao->Prop
 | .vec _ _ cs=>cs.map (·.map (AV.bK m))=cs/\cs.all (·.all (AV.aN m))=true
 |_=>True
def jf(m:Nat):U ao->Prop
 |[]=>True
 |B::l=>B.CD m/\jf m l
section
variable {m:Nat} {l:U ao}
def fM:jf m []:=trivial
def cC{B:ao}(b:B.CD m)(h:jf m l):jf m (B::l):=⟨b,h⟩
def Sl(xs:U (U D)):(bf xs).all (·.all (AV.aN m))=true:=by simp [bf,AV.aN]
def ZF{e k:Nat}{xs:U (U D)}(h:jf m l):jf m (.vec e k (bf xs)::l):=⟨⟨Be (λd=>by simp [AV.bK]) _,Sl _⟩,h⟩
def vmR{e k i:Nat}{xs:U (U D)}{r:U AV}(h1:r.map (AV.bK m)=r)(f:r.all (AV.aN m)=true)(h:jf m l):jf m (.vec e k ((bf xs).set i r)::l):=by
 refine⟨⟨by rw[List.map_set,Be (λd=>by simp [AV.bK]),h1],?_⟩,h⟩;rw[Zc];intro c b;rcases List.mem_or_eq_of_mem_set b with b|rfl
 ·exact Zc.1 (Sl (m:=m) xs) c b
 ·exact f
def jf.mem:∀{l:U ao},jf m l->∀B∈l,B.CD m
 |[],_,B,b=>by cases b
 |_::_,h,B,b=>by
  rcases Za.1 b with rfl|b
  ·exact h.1
  ·exact jf.mem h.2 B b
end
def atE{m:Nat}{B:ao}(h:B.CD m):B.ub m=B.bK m:=by
 cases B with
 |vec e k cs=>simp only[ao.ub,ao.bK];rw[h.1]
 |_=>rfl
def asw{m:Nat}{B:ao}(h:B.CD m)(b:(B.ub m).yo m=true):(B.bK m).aN m=true:=by
 cases B with
 |vec e k cs=>simp only[ao.bK,ao.aN];rw[h.1];exact h.2
 |_=>exact b
def ad7{G:Gh}{w:Zy}{h:U ao}(hi:cp G w h):cp G w (h.map ao.CX):=by
 have f:∀n,cu (h.map ao.CX) G n=cu h G n:=λn=>by
  unfold cu;rw[Zm];cases h[n]? with
  |none=>rfl
  |some B=>cases B<;>rfl
 have i:=VZ hi;refine⟨by rw[Zw];exact hi.len,hi.z,hi.S,λn B b=> ?_,λm n x p q=>hi.inj m n x (by rw[<-f];exact p) (by rw[<-f];exact q),hi.gl⟩;rw[Zm]at b;cases d:h[n]? with
 |none=>rw[d]at b;cases b
 |some B'=>
  rw[d]at b;cases b
  have u:=i.dN n B'.sy (by rw[Zm,d];rfl);cases B' with
  |vec e k cs=>exact hi.dN n _ d
  |_=>exact u
def xp(kn:U (Nat×Nat))(n:Nat):Nat->U AV->U AV
 |_,[]=>[]
 |i,x::l=>(bif kn.any (λp=>p.1==n&&p.2==i)then x else x.nrm)::xp kn n (i+1) l
def ao.afv(kn:U (Nat×Nat))(n:Nat):ao->ao
 | .cells cs=>.cells (xp kn n 0 cs)
 |B=>B.CX
def rE(kn:U (Nat×Nat)):Nat->U ao->U ao
 |_,[]=>[]
 |n,B::l=>B.afv kn n::rE kn (n+1) l
def aag(kn:U (Nat×Nat))(n:Nat):∀(j:Nat)(cs:U AV),(xp kn n j cs).length=cs.length
 |_,[]=>rfl
 |j,x::l=>by rw[xp,Zp,aag kn n (j+1) l,Zp]
def ahB(kn:U (Nat×Nat))(n:Nat):∀(j:Nat)(cs:U AV)(i:Nat)(b:AV),(xp kn n j cs)[i]?=some b->∃c,cs[i]?=some c/\(b=c\/b=c.nrm)
 |_,[],i,b,h=>by simp [xp]at h
 |j,x::l,0,b,h=>by
  simp only[xp,List.getElem?_cons_zero,Vg]at h;refine⟨x,rfl,?_⟩;cases d:kn.any (λp=>p.1==n&&p.2==j)with
  |true=>rw[d]at h;exact .inl h.symm
  |false=>rw[d]at h;exact .inr h.symm
 |j,x::l,i+1,b,h=>by
  simp only[xp,Yx]at h;obtain⟨c,e,f⟩:=ahB kn n (j+1) l i b h;exact⟨c,by simpa using e,f⟩
def Wu(kn:U (Nat×Nat)):∀(j:Nat)(h:U ao)(i:Nat)(b:ao),(rE kn j h)[i]?=some b->∃B,h[i]?=some B/\b=B.afv kn (j+i)
 |_,[],i,b,h=>by simp [rE]at h
 |j,B::l,0,b,h=>by simp only[rE,List.getElem?_cons_zero,Vg]at h;exact⟨B,rfl,h.symm⟩
 |j,B::l,i+1,b,h=>by
  simp only[rE,Yx]at h;obtain⟨C,d,e⟩:=Wu kn (j+1) l i b h;exact⟨C,by simpa using d,by rw[e];congr 1;omega⟩
def aee(kn:U (Nat×Nat)):∀(j:Nat)(h:U ao),(rE kn j h).length=h.length
 |_,[]=>rfl
 |j,B::l=>by rw[rE,Zp,aee kn (j+1) l,Zp]
def atw{G:Gh}{w:Zy}{h:U ao}(kn:U (Nat×Nat))(hi:cp G w h):cp G w (rE kn 0 h):=by
 have p:∀n x,cu (rE kn 0 h) G n=some x->cu h G n=some x:=λn x L=>by
  obtain⟨d,e,b⟩:=nv L;obtain⟨B,f,rfl⟩:=Wu kn 0 h n d e;rw[eN f,<-b];cases B<;>rfl
 have f:=ad7 hi;refine⟨by rw[aee];exact hi.len,hi.z,hi.S,λn d e=> ?_,λm n x M N=>hi.inj m n x (p m x M) (p n x N),hi.gl⟩;obtain⟨B,b,rfl⟩:=Wu kn 0 h n d e;cases B with
 |cells cs=>
  obtain⟨R,c2,vs,T,c3,c4,q⟩:=hi.dN n _ b;refine⟨R,c2,vs,T,c3,by rw[aag];exact c4,λi u c v hc=> ?_⟩;obtain⟨F,J,k|k⟩:=ahB _ _ _ _ _ _ hc;{rw[k];exact q i u F v J};{rw[k];exact(q i u F v J).nrm}
 |_=>exact f.dN n _ (by rw[Zm,b];rfl)
def mZ(s:St)(live:U Nat)(m:Nat)(ks:U Nat)(kn:U (Nat×Nat)):O St:=bif cF m s.h.length&&(live.all λk=>((bE s.t k).bK m).aN m)&&(((s.h.take m).map (ao.ub m)).all (ao.yo m))then some ⟨s.n,live.map λk=>(k,bif ks.any (·==k)then(bE s.t k).bK m else(bE s.t k).fin m),rE kn 0 ((s.h.take m).map (ao.ub m))⟩else none
def aic{h:U ao}{m:Nat}(b:jf m (h.take m)):(h.take m).map (ao.ub m)=(h.take m).map (ao.bK m):=Z5 λB d=>atE (b.mem B d)
def aeo{h:U ao}{m:Nat}(f:jf m (h.take m))(b:((h.take m).map (ao.ub m)).all (ao.yo m)=true):((h.take m).map (ao.bK m)).all (ao.aN m)=true:=by
 rw[Zc]at b ⊢;intro B i;obtain⟨d,e,rfl⟩:=UZ.1 i;exact asw (f.mem d e) (b _ (UZ.2 ⟨d,e,rfl⟩))
section
variable {P:eG} {r:O Nat} {n N0:Nat} {G:Gh} {w:Zy} {a:Act} {s s':St} {Q Q':Exit->St->Prop} {live:U Nat} {m:Nat} {ks:U Nat} {kn:U (Nat×Nat)}
def dk.mZ(d:dk G w a s)(f:jf m (s.h.take m))(h:mZ s live m ks kn=some s'):dk (G.cut m) w a s':=by
 unfold Go.Proofs.YtjploedinjiflaaGreatDoor.mZ at h;obtain⟨b,rfl⟩:=eY h;rw[Zo,Zo]at b;have p:=d.mask (live:=live) ⟨dT.1 b.1.1,b.1.2,aeo f b.2⟩;refine⟨d.size,λi=> ?_,by show cp _ _ (rE kn 0 ((s.h.take m).map (ao.ub m)));rw[aic f];exact atw kn p.inv,d.df⟩;have:=p.tmp i
 change aM _ _ _ (bE (live.map λk=>(k,(bE s.t k).bK m)) i)at this
 rw[rT (λk=>(bE s.t k).bK m)]at this;show aM _ _ _ (bE (live.map λk=>(k,bif ks.any (·==k)then(bE s.t k).bK m else(bE s.t k).fin m)) i);rw[rT (λk=>bif ks.any (·==k)then(bE s.t k).bK m else(bE s.t k).fin m)];split at this
 ·rename_i e
  rw[ae e];cases ks.any (·==i)with
  |true=>exact this
  |false=>exact this.nrm
 ·rename_i e;rw[af e];exact .dead _
def xz{c:Code}{ι:Type}(live:U Nat)(m:Nat)(ks:U Nat)(kn:U (Nat×Nat))(st:ι->St)(b:ι->Prop)(μ:ι->Nat)(d:ι)(k:N0<=m)(h0:jf m (s.h.take m)/\Go.Proofs.YtjploedinjiflaaGreatDoor.mZ s live m ks kn=some (st d))(z:b d)
 (round:∀i,b i->bM P r N0 c (jG (λs'=>∃i',(jf m (s'.h.take m)/\Go.Proofs.YtjploedinjiflaaGreatDoor.mZ s' live m ks kn=some (st i'))/\b i'/\μ i'<μ i) Q) (st i)):bM P r N0 (.loop c) Q s:=by
 constructor
 intro G w a n B _;refine Xy (λ(i:ι) f w'=>∃G',b i/\cf N0 G w G' w'/\N0<=G'.N/\dk G' w' f (st i)) μ d ⟨G.cut m,z,rP _ _ _ _,k,B.mZ h0.1 h0.2⟩ ?_;rintro i f w' ⟨G',F,p,J,L⟩;refine wpIn_mono ((round i F).run G' w' f n L J) λe a1 w1 M=> ?_;obtain⟨G1,s1,q,R,u,v⟩:=M;cases e with
 |normal=>
  obtain⟨i',x,h2,h3⟩:=v;exact⟨i',⟨G1.cut m,h2,(p.trans q).trans (rP _ _ _ _),k,u.mZ x.1 x.2⟩,h3⟩
 |_=>exact⟨G1,s1,p.trans q,R,u,v⟩
def LO{c:Code}(live:U Nat)(m:Nat)(ks:U Nat)(kn:U (Nat×Nat))(b:N0<=m)(h0:jf m (s.h.take m)/\Go.Proofs.YtjploedinjiflaaGreatDoor.mZ s live m ks kn=some s')(h:bM P r N0 c Q s'):bM P r N0 c Q s:=by
 constructor
 intro G w a n d _;exact wpIn_mono (h.run (G.cut m) w a n (d.mZ h0.1 h0.2) b) λ_ _ _ e=>e.trans (rP N0 G w m)
def aec{c y:Code}{ι:Type}(live:U Nat)(m:Nat)(ks:U Nat)(kn:U (Nat×Nat))(st:ι->St)(b:ι->Prop)(d:N0<=m)(f:bM P r N0 c (jG (λs'=>∃i,(jf m (s'.h.take m)/\Go.Proofs.YtjploedinjiflaaGreatDoor.mZ s' live m ks kn=some (st i))/\b i) Q) s)(k:∀i,b i->bM P r N0 y Q' (st i)):bM P r N0 c (jG (λs=>bM P r N0 y Q' s) Q) s:=by
 refine f.mono λe s' h=> ?_;cases e with
 |normal=>obtain⟨i,p,q⟩:=h;exact LO live m ks kn d p (k i q)
 |_=>exact h
end
def EB(P:eG)(b:U ResultVar)(m:Nat)(s:St):O (AV×U ao):=
 match vr P s b with
 |some l=>bif cF m s.h.length&&((ly l).bK m).aN m&&(((s.h.take m).map (ao.ub m)).all (ao.yo m))then some (((ly l).bK m).nrm,((s.h.take m).map (ao.ub m)).map ao.CX)else none
 |none=>none
def aaO(P:eG)(fn:Func)(m:Nat)(R:AV)(H:U ao):Exit->St->Prop
 | .normal,s=>jf m (s.h.take m)/\EB P fn.results.toList m s=some (R,H)
 | .ret,s=>jf m (s.h.take m)/\EB P fn.results.toList m s=some (R,H)
 |_,_=>False
def ah5{P:eG}{s:St}{fn:Func}{m:Nat}{R:AV}{H:U ao}(h:jf m (s.h.take m)/\EB P fn.results.toList m s=some (R,H)):tC P fn m (λr h'=>r.nrm=R/\h'.map ao.CX=H) s:=by
 obtain⟨d,h⟩:=h;unfold EB at h;split at h
 ·next l e=>
  obtain⟨b,f⟩:=eY h;cases f
  simp only[Zo,dT]at b;exact JN _ _ _ e ⟨b.1.1,b.1.2,aeo d b.2,rfl,by rw[aic d]⟩
 ·cases h
def mw{P:eG}{s:St}{fn:Func}{m:Nat}{R:AV}{H:U ao}(b:jf m (s.h.take m))(h:EB P fn.results.toList m s=some (R,H)):aaO P fn m R H .ret s:=⟨b,h⟩
def rz{P:eG}{f:FuncId}{fn:Func}{c:Code}{args:U AV}{h H:U ao}{R:AV}(m:Nat)(i:P.funcs[f]?=some fn)(k:fn.body=some c)(p:(fn.name== "runtime.NumGoroutine")=false)(q:h.length<=m)
 (u:bM P none h.length c (aaO P fn m R H) {n:=args.length+(fn.ntmps-args.length),t:=nh 0 args,h:=h}):da P f args h λz h1=>z=R/\h1=H:=by
 have h0:=we (P:=P) (f:=f) (args:=args) (h:=h) (K:=λr d=>r.nrm=R/\d.map ao.CX=H) m i k p q (u.mono λe s b=>by
  cases e with
  |normal=>exact ah5 b
  |ret=>exact ah5 b
  |_=>exact b.elim)
 refine⟨h0.1,λG w B F J L=>(h0.2 G w B F J L).mono λe w' M=> ?_⟩;obtain⟨v,N,x,d,rfl,hE,hN,eK,hv,rfl,rfl⟩:=M;exact⟨v,N,x.nrm,_,rfl,hE,hN,ad7 eK,hv.nrm,rfl,rfl⟩
mutual
def AV.nu(b:Nat):AV->U (Nat×Nat×Nat×Nat)
 | .vec n o len L k=>bif n==b then[(o,len,L,k)]else[]
 | .agg cs=>AV.oB b cs
 | .bw cs=>AV.oB b cs
 | .fn _ cs=>AV.oB b cs
 |_=>[]
def AV.oB(b:Nat):U AV->U (Nat×Nat×Nat×Nat)
 |[]=>[]
 |x::l=>x.nu b++AV.oB b l
end
mutual
def AV.mlt(b:Nat)(xs:U (U D)):AV->AV
 | .vec n o len L k=>bif n==b then .d (.sl xs)else .vec n o len L k
 | .dU n i j L k=>bif n==b then .dead else .dU n i j L k
 | .agg cs=>.agg (AV.lD b xs cs)
 | .bw cs=>.bw (AV.lD b xs cs)
 | .fn f cs=>.fn f (AV.lD b xs cs)
 |x=>x
def AV.lD(b:Nat)(xs:U (U D)):U AV->U AV
 |[]=>[]
 |x::l=>x.mlt b xs::AV.lD b xs l
end
mutual
def Q7{b kk:Nat}{xs:U (U D)}:∀x:AV,(∀q∈x.nu b,q=(0,xs.length,xs.length,kk))->x.du b kk xs=x.mlt b xs
 | .vec n o len L k,h=>by
   unfold AV.du AV.mlt;unfold AV.nu at h;cases e:n==b with
   |false=>rfl
   |true=>
    rw[e]at h;have:=h _ Zt;cases this
    simp
 | .agg cs,h=>by unfold AV.du AV.mlt;rw[vU cs (by unfold AV.nu at h;exact h)]
 | .bw cs,h=>by unfold AV.du AV.mlt;rw[vU cs (by unfold AV.nu at h;exact h)]
 | .fn f cs,h=>by unfold AV.du AV.mlt;rw[vU cs (by unfold AV.nu at h;exact h)]
 | .dU n i j L k,h=>by unfold AV.du AV.mlt;rfl
 | .d _,_=>by simp [AV.du,AV.mlt]
 | .ptr ..,_=>by simp [AV.du,AV.mlt]
 | .bm ..,_=>by simp [AV.du,AV.mlt]
 | .own ..,_=>by simp [AV.du,AV.mlt]
 | .full _,_=>by simp [AV.du,AV.mlt]
 | .row ..,_=>by simp [AV.du,AV.mlt]
 | .mp _,_=>by simp [AV.du,AV.mlt]
 | .cD _,_=>by simp [AV.du,AV.mlt]
 | .hid _,_=>by simp [AV.du,AV.mlt]
 | .dead,_=>by simp [AV.du,AV.mlt]
def vU{b kk:Nat}{xs:U (U D)}:∀l:U AV,(∀q∈AV.oB b l,q=(0,xs.length,xs.length,kk))->AV.rS b kk xs l=AV.lD b xs l
 |[],_=>by simp [AV.rS,AV.lD]
 |x::l,h=>by
  unfold AV.oB at h;unfold AV.rS AV.lD;rw[Q7 x λq hq=>h q (aq _ hq),vU l λq hq=>h q (aa _ hq)]
end
inductive mX(b L kk:Nat)(xs:List (List D)):List ao->List ao->Prop
 |nil:mX b L kk xs [] []
 |cells {cs cw:List AV} {l l':List ao} (c:Nat) (h:AV.oB b cs=List.replicate c (0,L,L,kk)) (e:AV.lD b xs cs=cw) (t:mX b L kk xs l l'):mX b L kk xs (.cells cs::l) (.cells cw::l')
 |jk {e k:Nat} {ys:List (List D)} {l l':List ao} (t:mX b L kk xs l l'):mX b L kk xs (.vec e k (bf ys)::l) (.vec e k (bf ys)::l')
 |row {e k i:Nat} {ys:List (List D)} {cs cw:List AV} {l l':List ao} (c:Nat) (h:AV.oB b cs=List.replicate c (0,L,L,kk)) (e1:AV.lD b xs cs=cw) (t:mX b L kk xs l l'):mX b L kk xs (.vec e k ((bf ys).set i cs)::l) (.vec e k ((bf ys).set i cw)::l')
 |front {e k n:Nat} {l l':List ao} (t:mX b L kk xs l l'):mX b L kk xs (.front e k n::l) (.front e k n::l')
 |map {kv:List (ByteArray×D)} {l l':List ao} (t:mX b L kk xs l l'):mX b L kk xs (.map kv::l) (.map kv::l')
 |gone {l l':List ao} (t:mX b L kk xs l l'):mX b L kk xs (.gone::l) (.gone::l')
def Iv{c L b:Nat}{xs:U (U D)}(e:xs.length=L){l:U (Nat×Nat×Nat×Nat)}(h:l=List.replicate c (0,L,L,b)):∀q∈l,q=(0,xs.length,xs.length,b):=λq d=>by
 rw[h,List.mem_replicate]at d;rw[d.2,e]
def mX.eq{b L i:Nat}{xs:U (U D)}(k:xs.length=L){l p:U ao}(h:mX b L i xs l p):p=l.map (ao.jr (AV.du b i xs)):=by
 have q:∀d,AV.du b i xs (.d d)= .d d:=λd=>by simp [AV.du]
 induction h with
 |nil=>rfl
 |cells c h e t f=>rw[ZY,<-f,<-e];simp only[ao.jr];rw[<-s8,vU _ (Iv k h)]
 |jk t f=>rw[ZY,<-f];simp only[ao.jr];rw[Be q]
 |row c h u t f=>rw[ZY,<-f,<-u];simp only[ao.jr];rw[List.map_set,Be q,<-s8,vU _ (Iv k h)]
 |front t f=>rw[ZY,<-f];rfl
 |map t f=>rw[ZY,<-f];rfl
 |gone t f=>rw[ZY,<-f];rfl
def aln{P:eG}{r:O Nat}{N0:Nat}{c:Code}{s:St}{Q:Exit->St->Prop}(live:U Nat)(b:Nat)(xs:U (U D)){e k L:Nat}(h':U ao)(u:Nat)(v:s.h[b]?=some (.vec e k (bf xs)))(x:∀c∈xs,c.all D.qS=true)(d:xs.length=L)
 (z:(live.flatMap λi=>(bE s.t i).nu b)=List.replicate u (0,L,L,k)) (B:mX b L k xs s.h h') (K:bM P r N0 c Q ⟨s.n,live.map (λi=>(i,(bE s.t i).mlt b xs)),h'.set b .gone⟩):bM P r N0 c Q s:=by
 constructor
 intro G w a n F f;obtain⟨J,M,N,R⟩:=F.Q8 xs v x;refine wpIn_mono (K.run J w a n (R.less rfl (by rw[B.eq d]) λi=> ?_) (by rw[N];exact f)) λ_ _ _ hn=>hn.trans (M.less f);show bE (live.map (λi=>(i,(bE s.t i).mlt b xs))) i=bE (s.t.map λp=>(p.1,p.2.du b k xs)) i\/_;rw[rT (λk=>(bE s.t k).mlt b xs),y4 (AV.du b k xs) (by simp [AV.du])];split
 ·next hi=>
  left
  refine(Q7 _ λq hq=>Iv d z q ?_).symm;exact List.mem_flatMap.2 ⟨i,hi,hq⟩
 ·exact .inr rfl
def aeI{G:Gh}{w:Zy}{h:U ao}(hi:cp G w h)(e k:Nat):cf G.N G w (G.fP (.slice none 0 0) 0 none) w/\G.N<=(G.fP (.slice none 0 0) 0 none).N/\cp (G.fP (.slice none 0 0) 0 none) w (h++[.vec e k []])/\aM (G.fP (.slice none 0 0) 0 none) w (.slice none 0 0) (.vec h.length 0 0 0 k):=by
 obtain⟨b,d⟩:=Uh (w':=w) hi (.vec e k []) (λ_ _=>rfl) (.slice none 0 0) 0 none ⟨λ_ _=>rfl,Zx _,rfl,rfl,rfl⟩ (λ_ h=>by cases h)
  ⟨by simp [Gh.fP],Wl _,λc f=>absurd f Yt,.inl ⟨by simp [Gh.fP],rfl,none,by simp [Gh.fP]⟩⟩
 refine⟨b,cG _,d,.vec _ 0 0 0 k (by rw[hi.len];exact ZC _) ⟨none,0,0,rfl⟩ (Wl _) λ_=>⟨Zx _,⟨none,0,rfl,Zx _,Wl _,Zx _,λh=>absurd h (Yu _)⟩,λ_ _=> ?_⟩⟩;simp [Gh.fP,hi.len]
section
variable {P:eG} {r:O Nat} {N0:Nat} {s:St} {Q:Exit->St->Prop} {c:Code}
def NG(t e k:Nat)(x:bE s.t t= .d (.v (.slice none 0 0)))(h:bM P r N0 c Q ⟨s.n,(t,.vec s.h.length 0 0 0 k)::s.t,s.h++[.vec e k []]⟩):bM P r N0 c Q s:=by
 constructor
 intro G w a n b q;obtain⟨p,u,z,B⟩:=aeI b.inv e k;have f:=b.tmp t;rw[x]at f;have f:=f.val;have F:dk (G.fP (.slice none 0 0) 0 none) w a ⟨s.n,(t,.vec s.h.length 0 0 0 k)::s.t,s.h++[.vec e k []]⟩:=by
  refine⟨b.size,λi=> ?_,z,b.df.keep p⟩;show aM _ _ _ (bE ((t,.vec s.h.length 0 0 0 k)::s.t) i);rw[mN];split;{next e=>exact e▸f▸B};{exact(b.tmp i).keep p u}
 exact wpIn_mono (h.run _ w a n F (Ze q u)) λ_ _ _ J=>J.trans (p.less q)
def afl(b i e k:Nat){cs:U AV}(x:s.h[b]?=some (.cells cs))(F:cs[i]?=some (.d (.v (.slice none 0 0))))
 (h:bM P r N0 c Q ⟨s.n,s.t,(s.h++[ao.vec e k []]).set b (ao.cells (cs.set i (AV.vec s.h.length 0 0 0 k)))⟩):bM P r N0 c Q s:=by
 constructor
 intro G w a n f J;obtain⟨h1,h2,L,T,h3,h4,M⟩:=f.inv.dN _ _ x;have hi:i<cs.length:=(Zj.1 F).1;have N:L[i]?=some L[i]:=ZI k7;have oF:=(M i _ _ N F).val;obtain⟨p,z,a3,a4⟩:=aeI f.inv e k;have a8:=(Zj.1 x).1;have cA:dk (G.fP (.slice none 0 0) 0 none) w a ⟨s.n,s.t,(s.h++[ao.vec e k []]).set b (ao.cells (cs.set i (AV.vec s.h.length 0 0 0 k)))⟩:=by
  refine⟨f.size,λj=>(f.tmp j).keep p z,QZ a3 (by rw[ZT a8];exact x) (by rw[Zf]) λgM T' R j u c B q=> ?_,f.df.keep p⟩;have e1:(G.fP (.slice none 0 0) 0 none).bn b=G.bn b:=rfl;rw[e1,h3]at R;cases R
  by_cases e2:i=j
  ·subst e2;rw[ZB hi]at q;cases q
   rw[N]at B;cases B
   rw[oF];exact a4
  ·rw[Z7 e2]at q;exact(M j u c B q).keep p z
 exact wpIn_mono (h.run _ w a n cA (Ze J z)) λ_ _ _ hn=>hn.trans (p.less J)
def Ww(b:Nat)(h:bM P r N0 c Q ⟨s.n,s.t,s.h.set b .gone⟩):bM P r N0 c Q s:=by
 constructor
 intro G w a n k u;have f:=k.inv;have q:∀n x,cu (s.h.set b .gone) G n=some x->cu s.h G n=some x:=λn x v=>by
  obtain⟨B,d,p⟩:=nv v;by_cases e:b=n;{subst e;have i:=(Zj.1 d).1;rw[Zf]at i;rw[ZB i]at d;cases d;cases p};{rw[Z7 e]at d;rw[eN d];exact p}
 refine h.run G w a n ⟨k.size,k.tmp,⟨by rw[Zf];exact f.len,f.z,f.S,λn B d=> ?_,λm n x p F=>f.inj m n x (q m x p) (q n x F),f.gl⟩,k.df⟩ u;by_cases e:b=n;{subst e;have i:=(Zj.1 d).1;rw[Zf]at i;rw[ZB i]at d;cases d;trivial};{rw[Z7 e]at d;exact f.dN n B d}
end
def lJ{α:Type}{f:α->U D}{E:U α}{L:Nat}(h:E.length=L):(bf (E.map f)).length=L:=by rw[qC,Zw,h]
def sB{cs:U (U AV)}{z:Int}{L i:Nat}(h:cs.length=L)(h0:0<=z)(h1:z<(L:Int))(b:z.toNat=i):cs.length=L/\0<=z/\z<(L:Int)/\i=0+z.toNat:=⟨h,h0,h1,by rw[b,ZQ]⟩
def Nt{α:Type}{f:α->U D}{E:U α}{L i:Nat}{x:α}(h:E.length=L)(b:E[i]?=some x):(bf (E.map f)).length=L/\(bf (E.map f))[i]?=some ((f x).map .d):=⟨lJ h,DE (by rw[Zm,b];rfl)⟩
def Gs{α:Type}{f:α->U D}{E:U α}{L i j:Nat}{x y:α}{zs:U AV}(h:E.length=L)(b:E[i]?=some x)(e:(f y).map AV.d=jn ((f x).map .d) j zs):(bf (E.map f)).length=L/\(bf (E.map f))[i]?=some ((f x).map .d)/\bf ((E.set i y).map f)=(bf (E.map f)).set i (jn ((f x).map .d) j zs):=
 ⟨lJ h,DE (by rw[Zm,b];rfl),by rw[List.map_set,aaD,e]⟩
def IC{α:Type}{f:α->U D}{E ys:U α}{h:U ao}{k L i b dc:Nat}{y:AV}(p:E.length=L)(q:y.gV=some (ys.map f))(u:∀c∈ys.map f,c.length=k)(z:ys.length=i)(d:L+ys.length=b)(v:b<=maxLen)(x:b*dc<=140737488355328):
 (bf (E.map f)).length=L/\BM h k y (bf (ys.map f))/\b=L+(bf (ys.map f)).length/\((0+L+(bf (ys.map f)).length<=L/\b=L/\bf ((E++ys).map f)=(bf (E.map f)).take (0+L)++bf (ys.map f)++(bf (E.map f)).drop (0+L+(bf (ys.map f)).length))\/(0=0/\L=L/\b=L+(bf (ys.map f)).length/\bf ((E++ys).map f)=bf (E.map f)++bf (ys.map f)/\b<=maxLen/\b*dc<=140737488355328)):=by
 have e:(bf (ys.map f)).length=ys.length:=by rw[qC,Zw]
 refine⟨lJ p,.inl ⟨_,q,u,rfl⟩,by rw[e,d],.inr ⟨rfl,rfl,by rw[e,d],by rw[ab,atY],v,x⟩⟩
def Og{xs:U (U D)}{h:U ao}{k dc:Nat}{y:AV}(b:∀c∈xs,c.length=k)(d:y.gV=some xs)(e:xs.length<=maxLen)(f:xs.length*dc<=140737488355328):
 ([]:U (U D))=[]/\BM h k y (bf xs)/\bf xs=bf xs/\xs.length=(bf xs).length/\xs.length=(bf xs).length/\xs.length<=maxLen/\xs.length*dc<=140737488355328:=⟨rfl,.inl ⟨xs,d,b,rfl⟩,rfl,(qC xs).symm,(qC xs).symm,e,f⟩
def akl{α:Type}{f:α->U D}{E:U α}{L i:Nat}{x:α}(r:U AV)(h:E.length=L)(b:E[i]?=some x):((bf (E.map f)).set i r).length=L/\((bf (E.map f)).set i r)[i]?=some r:=
 ⟨by rw[Zf];exact lJ h,by rw[ZB (by rw[lJ rfl];exact(Zj.1 b).1)]⟩
def aq1{α:Type}{f:α->U D}{E:U α}{L i:Nat}{r:U AV}(h:E.length=L):((bf (E.map f)).set i r).length=L:=by rw[Zf];exact lJ h
def aqS{α:Type}{f:α->U D}{E:U α}{L i j:Nat}{x:α}{zs r:U AV}(h:E.length=L)(b:E[i]?=some x)(e:r=jn ((f x).map .d) j zs):(bf (E.map f)).length=L/\(bf (E.map f))[i]?=some ((f x).map .d)/\(bf (E.map f)).set i r=(bf (E.map f)).set i (jn ((f x).map .d) j zs):=
 ⟨lJ h,DE (by rw[Zm,b];rfl),by rw[e]⟩
def ape{α:Type}{f:α->U D}{E:U α}{i:Nat}{y:α}{r:U AV}(b:(f y).map AV.d=r):(bf (E.map f)).set i r=bf ((E.set i y).map f):=by rw[<-b,List.map_set,aaD]
def W9{P:eG}{r:O Nat}{N0:Nat}{c:Code}{s:St}{Q:Exit->St->Prop}(live:U Nat)(b:Nat)(xs ys:U (U D)){e k L:Nat}(h':U ao)(d:Nat)(f:s.h[b]?=some (.vec e k (bf xs)))(p:∀c∈xs,c.all D.qS=true)(q:xs.length=L)(u:ys=xs)
 (v:(live.flatMap λi=>(bE s.t i).nu b)=List.replicate d (0,L,L,k)) (x:mX b L k ys s.h h') (K:bM P r N0 c Q ⟨s.n,live.map (λi=>(i,(bE s.t i).mlt b ys)),h'.set b .gone⟩):bM P r N0 c Q s:=by
 subst u;exact aln live b _ h' d f p q v x K
def th{α:Type}{f:α->U D}(b:∀x,(f x).all D.qS=true)(E:U α):∀c∈E.map f,c.all D.qS=true:=λc d=>by
 obtain⟨x,_,rfl⟩:=UZ.1 d;exact b x
def vK{α:Type}{f:α->U D}{E:U α}{L:Nat}(h:E.length=L):(E.map f).length=L:=by rw[Zw,h]
def agB{α:Type}{E:U α}{i:Nat}{x y:α}(h:E[i]?=some x):(E.set i y)[i]?=some y:=by
 rw[ZB (Zj.1 h).1]
def Ru(o:Oper):Bool:=
 match o.op with
 | .call c=>match c.callee with
   | .value _=>false
   |_=>true
 |_=>true
def OB:ct->Bool
 | .va _=>true
 |_=>false
def V1(o:Oper)(a:ct):Bool:=Wx o||(Ru o&&((vZ o||kV o&& !(cM o==0))|| !OB a))
def Gk(o:Oper)(a:ct):Bool:=V1 o a||(!Cl a&&(!OB a&& !kV o))
def GD(as:U (Nat×ct)):Nat->U Oper->Bool
 |_,[]=>true
 |j,o::l=>Gk o (jN as (3*j+1))&&GD as (j+1) l
section
variable {P:eG} {ops:Array Oper} {o:Oper} {j:Nat} {as:U (Nat×ct)} {s s1:St} {l:U (In×ct)} {K:St->Prop}
def as3(b:Ru o=true)(h:tz P o K s):D9 P o K s:=by
 unfold D9;unfold Ru at b;split
 ·next c d=>
  rw[d]at b;split;{next f e=>simp only[e]at b;cases b};{exact h}
 ·exact h
def ap6(h:pG P false o j as s=some (s1,l))(F:hX P l)(J:K s1)(b:V1 o (jN as (3*j+1))=true):AO true P o K s:=by
 unfold pG at h;simp only[Bool.false_and,Tf]at h;split at h
 ·next x u i f=>
  have v:OK P i (jN as (3*j+1))->K ((s.wh u).put o.dst x)->AO true P o K s:=λz k=>by
   unfold V1 at b;rw[bh]at b;unfold Fc at f;split at f
   ·next M e=>
    simp only[Bool.false_and,Tf]at f;split at f
    ·next x2 Wc p d=>
     cases f
     rcases b with b|b
     ·exfalso;rw[e]at z;unfold Wx at b;split at b
      ·next c L=>
       split at b
       ·next t B=>
        rw[L]at d;unfold jB at d;simp only[B]at d;cases d
       ·next t B=>
        rw[L]at d;unfold jB at d;simp only[B]at d;cases d
       ·cases b
      ·cases b
     ·rw[e]at z b;simp only[OB,VX,Bool.or_false,Zo]at b;cases z with|pr _ N=>exact .inr (.inr (.inl ⟨(by
        have q:=b.2;rw[bh,Zo,UC]at q;exact q.elim (λe=>.inr (by rw[e];rfl)) λe=>.inl ⟨e.1,by rw[e.2];rfl⟩),M,x,u,p,d,N,k⟩))
    ·cases f
   ·rcases b with b|b
    ·exact .inr (.inl ⟨by unfold pw;rw[b];rfl,x,u,k,λC R=>CP f z R⟩)
    ·rw[Zo]at b;exact .inl (as3 b.1 (CP (C:=λx u=>K ((s.wh u).put o.dst x)) f z k))
  split at h
  ·next y hy=>
   obtain⟨m,e,k,q⟩:=Kx h F;cases e
   have:=k (.eq x,.eq y) Zt;cases this with|eq e=>subst e;exact v q J
  ·obtain⟨m,e,k,q⟩:=Kx h F;cases e
   exact v q J
 ·cases h
def amF{dr v:Bool}{b:Op}{ρ:Operand->AV}{h:U ao}{a:ct}(d:OB a=false):Fc P dr v b ρ h a=wD P b ρ h a:=by
 cases a<;>first|rfl|cases d
def aav(h:pG P false o j as s=some (s1,l))(d:hX P l)(f:K s1)(b:Gk o (jN as (3*j+1))=true):AO true P o K s:=by
 unfold Gk at b;rw[bh]at b;rcases b with b|b
 ·exact ap6 h d f b
 ·rw[Zo,Zo,UC,UC,UC]at b;obtain⟨i,k,p⟩:=b;have q:pG P true o j as s=some (s1,l):=by
    unfold pG at h ⊢;rw[amF k]at h ⊢;rw[i];exact h
  have:=Xg (dr:=true) q d f;rcases this with h|⟨e,_⟩|⟨e,_⟩|h
  ·exact .inl h
  ·cases e
  ·exfalso;rcases e with e|e
   ·rw[p]at e;exact absurd e.1 gj
   ·cases e
  ·exact .inr (.inr (.inr h))
def afm(h:pz P ops false o j as s=some (s1,l))(q:hX P l)(i:K s1)(B:Gk o (jN as (3*j+1))=true):jO ops o s (AO true P o K s) (K (s.put o.dst (.d (.v undef)))):=by
 unfold pz at h;split at h;{next k=>unfold jO;rw[k];exact aav h q i B}
 ·next g f k=>
  obtain⟨J,R,ty,L,after,guard⟩:=o;simp only at k;subst k;split at h
  ·next b M=>
   obtain⟨n,e,F,u⟩:=BO h q;have p:=OK.O0 (u (_,_) Zt);rw[La,p];refine⟨λx=> ?_,λx=> ?_⟩;{subst x;simp only[BEq.rfl,Tj]at e;exact aav e F i B}
   ·subst x;have:((!f)==f)=false:=by cases f<;>rfl
    rw[this]at e;simp only[Tf]at e;cases e
    exact i
  ·next M=>
   obtain⟨n,e,F,u⟩:=BO h q;cases e
   have p:=u (_,_) Zt;have N:w5 ops g s.t= .d (.v undef):=by
    generalize w5 ops g s.t=z at p;cases p;rfl
   rw[La,N];exact i
  ·cases h
def RZ:∀(ol:U Oper)(j:Nat)(s:St)(l:U (In×ct)),qw P ops false ol j as s=some (s1,l)->hX P l->GD as j ol=true->K s1->w6 true P ops ol K s
 |[],_,s,l,h,_,_,d=>by cases h;exact d
 |o::rest,j,s,l,h,f,b,d=>by
  unfold GD at b;rw[Zo]at b;unfold qw at h;split at h
  ·next i m k=>
   obtain⟨n,e,p,q⟩:=BO h f;exact afm (K:=w6 true P ops rest K) k q (RZ rest (j+1) i n e p b.2 d) b.1
  ·cases h
def afr:∀(ol b:U Oper),vv (b++ol).toArray ((List.range ol.length).map (b.length+·))=ol
 |[],_=>rfl
 |o::l,b=>by
  rw[Zp,List.range_succ_eq_map,ZY,List.map_map];unfold vv;have e:(b++o::l).toArray[b.length+0]?=some o:=by simp
  rw[e];simp only;have d:=afr l (b++[o]);rw[ZU]at d;simp only[List.singleton_append,Zi,Zp,Zg,ZQ]at d
  congr 1
  rw[show(b.length+·)∘Nat.succ=(b.length+1+·)from by funext i;simp only[Function.comp];omega];exact d
def agm(ol:U Oper):vv ol.toArray (List.range ol.length)=ol:=by
 have:=afr ol []
 simpa using this
end
section
variable {P:eG} {r:O Nat} {N0 id n:Nat} {ol:U Oper} {y:Code} {t:U (Nat×AV)} {h:U ao} {Q Q':Exit->St->Prop}
def rle(d:P.follows .mixedOrders=true)(f:ED true ol.toArray (List.range ol.length)=true)(b:U (Nat×Ob P))(Δ:U (Nat×AV))(h':U ao)(e:GD (j9 b) 0 ol=true/\zU P false ol (j9 b) ⟨n,t,h⟩=some (Δ++t,h',kr b))(k:Q .normal ⟨n,Δ++t,h'⟩):bM P r N0 (.region id ol.toArray true) Q ⟨n,t,h⟩:=by
 obtain⟨i,e⟩:=e;refine XP (m:=true) (List.range ol.length) d gj f ?_;rw[agm];exact RZ ol 0 _ _ (TT e) (rX b) i k
end
section
variable {P:eG} {r:O Nat} {N0:Nat} {Q:Exit->St->Prop} {c:Code} {o:Oper} {K:St->Prop}
def PK{n d:Nat}{t:U (Nat×AV)}{h h':U ao}{x:AV}(f:DU P o.op (ev ⟨n,t,h⟩) h=some (x,h'))(i:o.dst=some d)(e:Nat.ble n d=false)(k:K ⟨n,(d,x)::t,h'⟩):qW P o K ⟨n,t,h⟩:=by
 refine .inr (.inr (.inr (.inr ⟨x,h',f,?_⟩)));have p:d<n:=Nat.lt_of_not_le λb=>by rw[X7 b]at e;cases e
 rw[i,uc (s:=St.wh ⟨n,t,h⟩ h') p];exact k
def akC{n d:Nat}{t:U (Nat×AV)}{h h':U ao}{x:AV}{p:Prop}(a:VA)(f:jB P o.op (ev ⟨n,t,h⟩) h a=some (x,h',p))(i:p)(k:o.dst=some d)(e:Nat.ble n d=false)(q:K ⟨n,(d,x)::t,h'⟩):qW P o K ⟨n,t,h⟩:=by
 refine .inl ⟨a,x,h',p,f,i,?_⟩;have u:d<n:=Nat.lt_of_not_le λb=>by rw[X7 b]at e;cases e
 rw[k,uc (s:=St.wh ⟨n,t,h⟩ h') u];exact q
def amV{ρ:Operand->AV}{h:U ao}{q:Call}{x y:Operand}{T b:TypeId}{e k m dc:Nat}{kq kn:IntKind}{z:oZ}(f:q.callee= .builtin .append)(h1:q.args.toList=[x,y])(i:q.argTypes.toList=[T,b])(p:(ρ x).isNil=true)(B:fF P T=some (e,k))(F:tH P b=some kn)(J:ρ y= .d (.v (.int kq (Int.ofNat m))))(L:jY P e=some z)(M:uj P e=some dc)(N:1<=m)(R:1<=k)(g3:z.cells.toList.length=k)(g4:m<=maxLen)(g5:m*dc<=140737488355328):
 DU P (.call q) ρ h=some (.vec h.length 0 m m k,h++[.vec e k (List.replicate m (z.cells.toList.map λu=>.d (.v u)))]):=by
 unfold DU;simp only[f,h1,i,B,F,J,L,M,p,dT.2 N,dT.2 R,dT.2 g4,dT.2 g5,g3,Z3,Bool.and_self,Tj]
def aml{n t e k L:Nat}{ts:U (Nat×AV)}{cs:U (U AV)}(cW:N0=0)(ht:bE ts t= .vec 0 0 0 L k)(hL:cs.length=L)(h:bM P r N0 c Q ⟨n,[(t,.own 0 [])],[.front e k 0]⟩):bM P r N0 c Q ⟨n,ts,[.vec e k cs]⟩:=by
 subst cW;constructor
 intro G w a m J hN;have f:=J.inv;have qY:([ao.vec e k cs]:U ao)[0]?=some (.vec e k cs):=rfl;have hGN:G.N=1:=f.len.symm;have hv:=J.tmp t;rw[ht]at hv;obtain⟨yi,⟨A,q,q1,q2,q3,q4,q5⟩,Zs⟩:=hv.ud f qY hL;obtain⟨b1,b2,b3,b4⟩:=f.dN 0 _ qY;have hp0:∀(A:O Addr),q<=maxLen->dR G.S w (.slice A 0 q) (.sl []):=λA hc=>.sl A 0 0 q 0 [] (λ_ _=>undef) (λh=>absurd rfl h) (Wl _) hc (λ_ h=>absurd h Yt) (λi j f=>absurd f (ZJ _)) (λi j x d hx=>by simp at hx);obtain⟨p,b⟩:∃p,p={G with sg:=λi=>if i=0 then a.tmps.getD t undef else G.sg i,fl:=λi=>if i=0 then 0 else G.fl i}:=⟨_,rfl⟩;have hE:cf 0 G w p w:=by
  subst b;exact⟨Zx _,λ_ _ h=>h,λ_ _ _=>rfl,λ_ h=>absurd h (ZJ _),λ_ h=>absurd h (ZJ _),iJ rfl,λ_ _=>rfl,rfl,rfl,rfl,λ_ _ h=>.inl h⟩
 have u:cp p w [.front e k 0]:=by
  refine⟨by rw[b];exact f.len,by rw[b];exact f.z,by rw[b];exact f.S,λj B M=> ?_,λi j x h1 h2=> ?_,by rw[b];exact f.gl⟩
  ·match j with
   |0=>
    cases M
    refine⟨by rw[b];simp,Wl _,?_⟩;rcases b4 with⟨R,d2,A',d3⟩|⟨g,cap,v,R,d2,d3,d4,d5,d6,d7,d8,d9⟩
    ·left
     refine⟨by rw[b];exact R,?_⟩;have F:L=0:=by rw[<-hL,d2];rfl
     have:=Zs rfl F.symm;rw[b];exact⟨A',by simp only[if_true];rw[this];exact d3⟩
    ·by_cases F:L=0
     ·have:=Zs rfl F.symm
      right
      refine⟨g,cap,v,by rw[b];exact R,?_,by rw[b];exact d3,d4,Wl _,d6,d7,λo _=>by rw[b];exact d8 o⟩;rw[b];simp only[if_true];rw[this,d2,hL,F]
     ·obtain⟨g',Ab,s1,rfl,s3⟩:=q5 (Nat.pos_of_ne_zero F);rw[d2]at s1;cases s1
      right
      have:q=cap:=by omega
      subst this;refine⟨g,q,v,by rw[b];exact R,?_,by rw[b];exact d3,d4,Wl _,d6,d7,λo _=>by rw[b];exact d8 o⟩;rw[b];simp only[if_true];rw[q1,Nat.zero_mul]
   |j+1=>simp at M
  ·have hj:∀i x,cu [ao.front e k 0] p i=some x->i=0:=λi x h=>by
    obtain⟨B,M,_⟩:=nv h
    match i with
    |0=>rfl
    |i+1=>simp at M
   rw[hj i x h1,hj j x h2]
 refine wpIn_mono (h.run p w a m ⟨J.size,λi=> ?_,u,?_⟩ (Wl _)) λ_ _ _ hn=>hn.trans hE
 ·show aM p w _ (bE [(t,.own 0 [])] i);rw[mN];split
  ·next e=>
   subst e;refine .own 0 [] (by rw[b];show 0<G.N;omega) ?_ (Wl _) (λ_=>by rw[b];simp);rw[q1,b];exact hp0 A q3
  ·exact .dead _
 ·have:=J.df;rw[b];exact this
end
end Go.Proofs.YtjploedinjiflaaGreatDoor
namespace Go.Proofs.YtjploedinjiflaaGreatDoor.MK
open Go.RowKit
set_option linter.unusedVariables false
def ao(w:Zy)(g:Nat)(t:TypeId)(cs:U oZ):Prop:=w.heap[g]?=some (.cells cs.toArray t (0,0))
section
variable {w w':Zy} {g:Nat} {t:TypeId} {cs:U oZ}
def ao.cell(h:ao w g t cs)(i:Nat):w.cell? ⟨g,i,none⟩=cs[i]?:=by
 rw[cell_of_row w g i cs.toArray t (0,0) h];simp
def ao.drew(h:ao w g t cs):ao w.drew g t cs:=h
def ao.setRow(h:ao w g t cs)(cw:U oZ):ao (w.setRow g cw.toArray) g t cw:=setRow_heap w g _ _ t _ h
end
section
variable {P:eG} (w:Zy)
def apO(t ty e:TypeId)(k:Nat)(q:P.underlying t=some (.slice e))(p:(P.info? e).map (·.size)=some k)
 (g n cap:Nat) (cur:U oZ) (v:ao w g e cur)
 (d:Addr) (m c:Nat) (b:U oZ) (x:b.length=m*k) (z:∀j u,b[j]?=some u->w.cell? (d.add j)=some u) (h1:∀u∈b,u.oneCell'=true)
 (B:n+m<=cap) (F:n*k+b.length<=cur.length):
 (Builtin.append_ #[t,t] ty #[.slice (some ⟨g,0,none⟩) n cap,.slice (some d) m c]).run P w=
  .ok (.slice (some ⟨g,0,none⟩) (n+m) cap) (w.setRow g (Go.splice cur (n*k) b).toArray):=by
 cases f:P.info? e with
 |none=>simp [f]at p
 |some i=>
  have J:i.size=k:=by simpa [f]using p
  subst J;rw[run_append_room (P:=P) w t ty e i q f g n cap cur.toArray v d m c b x z h1 B (by simpa using F)];simp [Go.splice]
def aut(t e:TypeId)(k:Nat)(z:oZ)(u:P.underlying t=some (.slice e))(b:∀w,(zeroValue e).run P w= .ok z w)(x:z.cells.size=k)(f:∀v∈z.cells.toList,v.oneCell'=true)
 (g off n:Nat) (cur:U oZ) (p:TypeId) (B:ao w g p cur) (R:0<n) (F:off+n*k<=cur.length):
 ∃zs:U oZ,zs.length=n*k/\∀ty c,(Builtin.clear_ #[t] ty #[.slice (some ⟨g,off,none⟩) n c]).run P w= .ok (.tuple #[]) (w.setRow g (Go.splice cur off zs).toArray):=by
 subst x;refine⟨(Builtin.zeroCells z.cells n).toList,by simp [Builtin.zeroCells],λty c=> ?_⟩;have d:(Builtin.zeroCells z.cells n).toList.length=n*z.cells.size:=by simp [Builtin.zeroCells]
 have J:∀v∈(Builtin.zeroCells z.cells n).toList,v.oneCell'=true:=by
  intro v b;rw[Array.mem_toList_iff]at b;simp only[Builtin.zeroCells,Array.mem_map,Array.mem_range]at b;obtain⟨i,L,rfl⟩:=b;have M:0<z.cells.size:=by
   rcases Nat.eq_zero_or_pos z.cells.size with h0|h0
   ·rw[h0]at L;omega
   ·exact h0
  have N:=Nat.mod_lt i M;rw[getElem!_pos z.cells (i%z.cells.size) N];exact f _ gj
 have q:=run_storeCells_at P g off p (Builtin.zeroCells z.cells n).toList 0 cur.toArray w B (by rw[d];simpa using F) J;simp only[Nat.add_zero]at q;obtain⟨m,rfl⟩:∃m,n=m+1:=⟨n-1,by omega⟩;simp only[Builtin.clear_];simp [run_underlying u,b,q,Go.splice]
end
section
variable {P:eG} {w:Zy}
def amK{ops:Array Oper}{o:Oper}{a:Act}{K:Act->Zy->Prop}{Q:Exit->Act->Zy->Prop}{E:Prop}(f:o.guard=none)(d s:Operand)(t b:TypeId)
 (i:o.op= .call {callee:= .builtin .append,args:= #[d,s],argTypes:= #[t,b]}) (v u:oZ) (k:a.eval d=v) (p:a.eval s=u) {e:oZ} {w':Zy}
 (q:(Builtin.append_ #[t,b] o.type #[v,u]).run P w= .ok e w') (x:K (a.put o.dst e) w'):if Region.wanted o (yielded ops a.tmps)=true then Oper.wp P o a w K Q else E:=by
 have z:Region.wanted o (yielded ops a.tmps)=true:=by simp [Region.wanted,f]
 rw[ae z];unfold Oper.wp execOp;simp only[i,resolve,invoke,builtin,Sem.run_bind,Sem.run_pure,Result.andThen_ok,List.map_toArray,ZY,ai,k,p,q];exact x
end
section
variable {S E base:Nat} {w w' w'':Zy}
end
end Go.Proofs.YtjploedinjiflaaGreatDoor.MK
namespace Go.Proofs.YtjploedinjiflaaGreatDoor
open Go.RowKit
set_option linter.unusedSimpArgs false
set_option linter.unusedVariables false
def ajZ{α:Type}(cur n z:U α)(a:Nat)(h:a+n.length+z.length<=cur.length):Go.splice (Go.splice cur a n) (a+n.length) z=cur.take a++(n++z)++cur.drop (a+(n++z).length):=by
 unfold Go.splice;have b:(cur.take a).length=a:=by rw[b6];omega
 have d:(cur.take a++(n++cur.drop (a+n.length))).take (a+n.length)=cur.take a++n:=by
  rw[<-ZU,List.take_append_of_le_length (by rw[Zi,b];exact Zx _),List.take_of_length_le (by rw[Zi,b];exact Zx _)]
 have e:(cur.take a++(n++cur.drop (a+n.length))).drop (a+n.length+z.length)=cur.drop (a+(n++z).length):=by
  rw[<-ZU,List.drop_append,List.drop_eq_nil_of_le (by rw[Zi,b];omega),W5,Zi,b,List.drop_drop,Zi]
  congr 1;omega
 rw[d,e];simp [ZU]
section
variable {P:eG}
def cp.asX{G:Gh}{w:Zy}{h:U ao}(hi:cp G w h):cf G.N G w G w.drew/\cp G w.drew h:=by
 have b:cf G.N G w G w.drew:=⟨Zx _,λ_ _ h=>h,λ_ _ _=>rfl,λ_ _=>rfl,λ_ _=>.inl ⟨rfl,rfl⟩,iJ rfl,λ_ _=>rfl,rfl,rfl,rfl,λ_ _ h=>.inl h⟩;refine⟨b,hi.len,hi.z,hi.S,λn B d=> ?_,hi.inj,hi.gl.keep b⟩;exact fj.keep (hi.lt d) b (Zx _) ⟨rfl,rfl,rfl⟩ (λc e=>⟨rfl,λo h=>h⟩) (hi.dN n B d)
def anf{f:FuncId}{E K:Nat}(zF:IA P f=true)(hK:0<K)
 (mY:∀(g n cap i j:Nat)(cur:U oZ)(w:Zy),w.heap[g]?=some (.cells cur.toArray E (0,0))->cur.length=cap*K->i<j->j<=n->n<=cap->cap<=maxLen->(∀u∈cur.take (n*K),u.oneCell'=true)->
  Calls P f #[.slice (some ⟨g,0,none⟩) n cap,.int .i64 i,.int .i64 j] w λe w'=>∃zs:U oZ,zs.length=(j-i)*K/\e= .returned (.slice (some ⟨g,0,none⟩) (n-(j-i)) cap)/\w'=w.drew.setRow g (Go.splice (Go.splice cur (i*K) ((cur.take (n*K)).drop (j*K))) ((n-(j-i))*K) zs).toArray)
 {xs:U (U D)} {i L:Nat} (hi:i<L) (hL:xs.length=L) (gL:∀c∈xs,c.all D.qS=true):
 da P f [.vec 0 0 L L K,.d (.v (.int .i64 (i:Int))),.d (.v (.int .i64 ((i+1:Nat):Int)))] [.vec E K (bf xs)] λr1 h1=>r1= .vec 0 0 (L-1) L K/\h1=[.vec E K (bf (xs.take i++xs.drop (i+1))++[List.replicate K .dead])]:=by
 refine⟨zF,λG w vs k hsz hr=> ?_⟩;have qY:([ao.vec E K (bf xs)]:U ao)[0]?=some (.vec E K (bf xs)):=rfl;have J:(bf xs).length=L:=by rw[qC,hL]
 obtain⟨v0,v1,v2,rfl⟩:∃v0 v1 v2,vs= #[v0,v1,v2]:=by
  obtain⟨l⟩:=vs
  match l,hsz with
  |[a,b,c],_=>exact⟨a,b,c,rfl⟩
 have r0:=hr 0 v0 _ rfl rfl;have e1:=(hr 1 v1 _ rfl rfl).val;have e2:=(hr 2 v2 _ rfl rfl).val;subst e1;subst e2;obtain⟨yi,⟨A,cc,q1,q2,q3,q4,q5⟩,_⟩:=r0.ud k qY J;obtain⟨g,cap,s1,rfl,s3⟩:=q5 k7;obtain⟨g',Ab,cur,t1,t2,t3,t4,t5,t6,t7,t8,t9⟩:=Ah k qY (λe=>by rw[e]at J;simp at J;omega);rw[t2,J]at s1;cases s1
 have TD:cc=cap:=by omega
 subst TD;rw[J]at t5;have jb:=zb k qY;have kf:∀d∈xs,d.length=K:=λd B=>by
  have:=jb (d.map .d) (by unfold bf;exact UZ.2 ⟨d,B,rfl⟩)
  rwa [Zw]at this
 have j8:L*K<=cur.size:=by rw[t7];exact Xs K t5
 have ia:∀(a b:Nat),a<L->b<K->∃(d:D)(u:oZ),(∃x,xs[a]?=some x/\x[b]?=some d)/\cur[a*K+b]?=some u/\aM G w u (.d d)/\u.oneCell'=true:=λa b ha hb=>by
  have z:xs[a]?=some xs[a]:=Zd k7;have wg:xs[a].length=K:=kf _ (List.getElem_mem _);have B:xs[a][b]?=some (xs[a][b]'k7):=Zd k7;have R:a*K+b<cur.size:=ZO (lX ha hb) j8;have F:cur[a*K+b]?=some cur[a*K+b]:=ZI R;have hv:=t9 a b (xs[a].map .d) (.d (xs[a][b]'k7)) _ (DE z) (by rw[Zm,B];rfl) F;refine⟨_,_,⟨_,z,B⟩,F,hv,hv.kW ?_⟩;have h1:=gL _ (List.getElem_mem (l:=xs) (n:=a) k7);rw[Zc]at h1;have h2:=h1 _ (ZZ B);generalize (xs[a][b]'k7)=d at h2;cases d with
  |v u=>exact h2
  |sl l=>rfl
  |ag l=>exact absurd h2 Bool.false_ne_true
 have hdm:∀q,q<L*K->q / K<L/\q%K<K/\q / K*K+q%K=q:=λq hq=>⟨(Nat.div_lt_iff_lt_mul hK).2 hq,Nat.mod_lt _ hK,by rw[Nat.mul_comm];exact Nat.div_add_mod q K⟩;rw[q1];have hzm:(⟨g,0*K,none⟩:Addr)=⟨g,0,none⟩:=by rw[Nat.zero_mul]
 rw[hzm];refine(mY g L cc i (i+1) cur.toList w (by simpa using t4) (by simpa using t7) (ZC i) hi t5 t6 (λu F=> ?_)).mono λe w' hp=> ?_
 ·obtain⟨q,hq⟩:=List.mem_iff_getElem?.1 F;rw[List.getElem?_take]at hq;split at hq
  ·next R=>
   obtain⟨h1,h2,h3⟩:=hdm q R;obtain⟨d,u',_,Ea,_,ho⟩:=ia _ _ h1 h2;rw[h3,<-ZL,hq]at Ea;cases Ea
   exact ho
  ·cases hq
 ·obtain⟨zs,hz,rfl,rfl⟩:=hp;have uh:i+1-i=1:=by omega
  rw[uh]at hz ⊢;rw[Nat.one_mul]at hz;obtain⟨news,qB⟩:∃x,x=(cur.toList.take (L*K)).drop ((i+1)*K):=⟨_,rfl⟩;have hLm:(L-1-i)*K+(i+1)*K=L*K:=by rw[<-Ya];congr 1;omega
  have x8:news.length=(L-1-i)*K:=by rw[qB,ca,b6,Z9];omega
  have WT:(L-1)*K=i*K+news.length:=by rw[x8,<-Ya];congr 1;omega
  have lk:(i+1)*K=i*K+K:=by rw[Ya,Nat.one_mul]
  have aiA:i*K+news.length+zs.length=L*K:=by rw[x8,hz];omega
  rw[<-qB,WT,ajZ cur.toList news zs (i*K) (Ze (Nat.le_of_eq aiA) (by rw[Z9];exact j8))];obtain⟨dE,dI⟩:=k.asX;have ng:(news++zs).length=(L-i)*K:=by
    rw[Zi,x8,hz];have:(L-i)*K=(L-1-i)*K+K:=by rw[show L-i=(L-1-i)+1 by omega,Ya,Nat.one_mul]
    omega
  obtain⟨G',f1,f2,f3,f4,f5⟩:=Xu (us:=news++zs) (off:=i*K) (cw:=bf (xs.take i++xs.drop (i+1))++[List.replicate K .dead]) (w:=w.drew) dI qY hK t1 t2 t3 (by exact t4) (by rw[J];exact t5) t6 t7 t8
   (by rw[Zi];omega)
   (by rw[Zi,qC,Zi,b6,ca,J,List.length_singleton,hL];omega)
   (λc p=>by
    rcases ZM.1 p with p|p
    ·obtain⟨x,z,rfl⟩:=UZ.1 (show c∈List.map _ _ from p);rw[Zw];rcases ZM.1 z with z|z
     ·exact kf x (List.mem_of_mem_take z)
     ·exact kf x (a6 z)
    ·rw[ah]at p;rw[p,Ym])
   (λa b c x u p z F=>by
    have M:(bf (xs.take i++xs.drop (i+1))).length=L-1:=by rw[qC,Zi,b6,ca,hL];omega
    by_cases ha:a<L-1
    ·rw[ZT k7]at p;unfold bf at p;rw[Zm]at p;cases N:(xs.take i++xs.drop (i+1))[a]? with
     |none=>rw[N]at p;cases p
     |some y=>
      rw[N]at p;cases p
      rw[Zm]at z;cases B:y[b]? with
      |none=>rw[B]at z;cases z
      |some d=>
       rw[B]at z;cases z
       have hym:y∈xs:=by
        rcases ZM.1 (ZZ N)with h|h
        ·exact List.mem_of_mem_take h
        ·exact a6 h
       have Se:b<K:=by rw[<-kf y hym];exact(Zj.1 B).1
       have key:∀a',a'<L->xs[a']?=some y->cur[a'*K+b]?=some u->aM G w.drew u (.d d):=λa' NN mb Ea=>by
        obtain⟨d',u',⟨x',k1,k2⟩,k3,k4,_⟩:=ia a' b NN Se;rw[mb]at k1;cases k1
        rw[B]at k2;cases k2
        rw[Ea]at k3;cases k3
        exact k4.keep dE (Zx _)
       by_cases xy:a<i;{have R:=lX xy Se;rw[af k7]at F;rw[ZT (by rw[b6];omega),List.getElem?_take_of_lt xy]at N;exact key a k7 N F}
       ·have lf:i*K<=a*K:=Xs K k7;have hup:a*K+b<(L-1)*K:=lX ha Se;have Bl:(L-1)*K+K=L*K:=by
         rw[<-Nat.succ_mul];congr 1;omega
        have hza:i*K<=a*K+b/\a*K+b<i*K+(news++zs).length:=⟨by omega,by rw[Zi];omega⟩;have hnb:a*K+b-i*K<news.length:=by omega
        have hlb:(i+1)*K+(a*K+b-i*K)<L*K:=by omega
        rw[ae hza,ZT hnb,qB,List.getElem?_drop,List.getElem?_take_of_lt hlb,ZL]at F;have e3:(i+1)*K+(a*K+b-i*K)=(a+1)*K+b:=by rw[Ya a 1 K,Nat.one_mul];omega
        rw[e3]at F;have R:(xs.take i).length=i:=by rw[b6];omega
        rw[ZK k7,R,List.getElem?_drop,show i+1+(a-i)=a+1 by omega]at N;exact key (a+1) k7 N F
    ·have ha2:a=L-1:=by
      have:=(Zj.1 p).1;rw[Zi,M,List.length_singleton]at this;omega
     rw[ZK k7,M,ha2,Nat.sub_self]at p;simp only[List.getElem?_cons_zero,Vg]at p;subst p;have:=List.eq_of_mem_replicate (ZZ z);subst this;exact .dead u)
  refine⟨_,G',_,_,rfl,dE.trans f1,by rw[f2];exact Zx _,f3,?_,rfl,rfl⟩;have mG:G'.fl 0=L:=by rw[f5,(k.dN 0 _ qY).1,J]
  refine .vec 0 0 (L-1) L K (by rw[f2];have:=k.len;simp at this;omega) ⟨_,_,_,rfl⟩ (by rw[mG];exact Zx _) λ_=>⟨by omega,⟨_,_,rfl,by omega,t6,by omega,λ_=>⟨g,cc,by rw[f4,t2,J],by rw[Nat.zero_mul],by omega⟩⟩,λ_ h=>by omega⟩
end
mutual
def AV.fe(b kk L0:Nat)(ys:U (U D)):AV->AV
 | .vec n o len L k=>bif n==b then(bif o==0&&len==ys.length&&L==L0&&k==kk then .d (.sl ys)else .dead)else .vec n o len L k
 | .dU n i j L k=>bif n==b then .dead else .dU n i j L k
 | .agg cs=>.agg (AV.sH b kk L0 ys cs)
 | .bw cs=>.bw (AV.sH b kk L0 ys cs)
 | .fn f cs=>.fn f (AV.sH b kk L0 ys cs)
 |x=>x
def AV.sH(b kk L0:Nat)(ys:U (U D)):U AV->U AV
 |[]=>[]
 |x::l=>x.fe b kk L0 ys::AV.sH b kk L0 ys l
end
def D7(b d e:Nat)(ys:U (U D)):∀l,AV.sH b d e ys l=l.map (AV.fe b d e ys)
 |[]=>by simp [AV.sH]
 |x::l=>by simp [AV.sH,D7 b d e ys l]
def aM.fe{G G':Gh}{w:Zy}{b R L0:Nat}{ys:U (U D)}(hE:cf G.N G w G' w)(hN:G'.N=G.N)(F:∀(u:oZ),aM G w u (.vec b 0 ys.length L0 R)->dR G'.S w u (.sl ys)){u:oZ}{x:AV}(h:aM G w u x):aM G' w u (x.fe b R L0 ys):=by
 have keep:∀{u:oZ}{x:AV},aM G w u x->aM G' w u x:=λh=>h.keep hE (Nat.le_of_eq hN.symm);have fY:∀(p:Array oZ)(cs:U AV),(∀(i:Nat)(u:oZ)(c:AV),p[i]?=some u->cs[i]?=some c->aM G' w u (c.fe b R L0 ys))->∀(i:Nat)(u:oZ)(c:AV),p[i]?=some u->(AV.sH b R L0 ys cs)[i]?=some c->aM G' w u c:=by
  intro p cs z i u c hu J;rw[D7,Zm]at J;cases M:cs[i]? with
  |none=>rw[M]at J;cases J
  |some x=>rw[M]at J;cases J;exact z i u x hu M
 induction h with
 |agg p cs B _ z=>rw[AV.fe];exact .agg p _ (by rw[D7,Zw];exact B) (fY p cs z)
 |bw p cs B _ z=>rw[AV.fe];exact .bw p _ (by rw[D7,Zw];exact B) (fY p cs z)
 |fn f p cs B _ z=>rw[AV.fe];exact .fn f p _ (by rw[D7,Zw];exact B) (fY p cs z)
 |vec n o len L k h hs hL v=>
  rw[AV.fe,cond_eq_ite];split
  ·next e=>
   have e:n=b:=by simpa using e
   subst e;rw[cond_eq_ite];split
   ·next e2=>
    simp only[Zo,TC]at e2;obtain⟨⟨⟨rfl,rfl⟩,rfl⟩,rfl⟩:=e2;exact .d (F _ (.vec n 0 _ _ _ h hs hL v))
   ·exact .dead _
  ·exact keep (.vec n o len L k h hs hL v)
 |dU n i j L k h hs hL v=>
  rw[AV.fe,cond_eq_ite];split;{exact .dead _};{exact keep (.dU n i j L k h hs hL v)}
 |ptr n q h=>simp only[AV.fe];exact keep (.ptr n q h)
 |own n xs h F hle v=>simp only[AV.fe];exact keep (.own n xs h F hle v)
 |d h=>simp only[AV.fe];exact keep (.d h)
 |bm xs i q b o u x M hS hu=>simp only[AV.fe];exact keep (.bm xs i q b o u x M hS hu)
 |full xs F v=>simp only[AV.fe];exact keep (.full xs F v)
 |row n q len cap k h B hm=>simp only[AV.fe];exact keep (.row n q len cap k h B hm)
 |mp n h=>simp only[AV.fe];exact keep (.mp n h)
 |cD n h=>simp only[AV.fe];exact keep (.cD n h)
 |hid h h1=>simp only[AV.fe];exact keep (.hid h h1)
 |dead u=>simp only[AV.fe];exact .dead u
def dk.apq{G:Gh}{w:Zy}{a:Act}{s:St}(J:dk G w a s)(xs:U (U D)){b e k L:Nat}{cs:U (U AV)}(hb:s.h[b]?=some (.vec e k cs))(iU:cs.length=L)(hy:cs.take xs.length=bf xs)(gL:∀c∈xs,c.all D.qS=true)
 :∃G',cf G.N G w G' w/\G'.N=G.N/\dk G' w a ⟨s.n,s.t.map λp=>(p.1,p.2.fe b k L xs),(s.h.map (ao.jr (AV.fe b k L xs))).set b .gone⟩:=by
 have jb:=zb J.inv hb;have hlen:xs.length<=L:=by
  have:=congrArg List.length hy;rw[qC,b6]at this;omega
 have ib:∀(i:Nat)(x:U D),xs[i]?=some x->cs[i]?=some (x.map .d):=λi x z=>by
  have h1:=DE z;rw[<-hy,List.getElem?_take_of_lt (Zj.1 z).1]at h1;exact h1
 have kf:∀d∈xs,d.length=k:=λd F=>by
  obtain⟨i,M⟩:=List.mem_iff_getElem?.1 F;have:=jb (d.map .d) (ZZ (ib i d M))
  rwa [Zw]at this
 obtain⟨S,hS⟩:∃S:Nat->Nat->Prop,S=λc o=>G.S c o\/(cu s.h G b=some c/\o<xs.length*k):=⟨_,rfl⟩;have hE:cf G.N G w {G with S:=S} w:=⟨Zx _,λb o h=>by show S b o;rw[hS];exact .inl h,λ_ _ _=>rfl,λ_ _=>rfl,λ_ _=>.inl ⟨rfl,rfl⟩,iJ rfl,λ_ _=>rfl,rfl,rfl,rfl,λc o hq=>by
  have cA:S c o:=hq;rw[hS]at cA;rcases cA with h|⟨h,_⟩
  ·exact .inl h
  ·obtain⟨B,hB,gY⟩:=nv h;exact .inr ((J.inv.dN b B hB).mD gY)⟩
 have IP:∀(u:oZ),aM G w u (.vec b 0 xs.length L k)->dR S w u (.sl xs):=λu s9=>by
  have mi:=s9.ud J.inv hb iU;obtain⟨yi,⟨A,cc,q1,q2,q3,q4,q5⟩,_⟩:=mi;rw[q1];by_cases h0:xs.length=0;{have:xs=[]:=VC h0;subst this;exact .sl A 0 0 cc 0 [] (λ_ _=>undef) (λh=>absurd rfl h) (Wl _) q3 (λ_ h=>absurd h Yt) (λi j M=>absurd M (ZJ _)) (λi j x d z=>by simp at z)}
  ·obtain⟨g,cap,s1,rfl,s3⟩:=q5 k7;obtain⟨g',Ab,cur,r1,r2,r3,r4,r5,r6,r7,r8,r9⟩:=Ah J.inv hb (λe=>by rw[e]at iU;simp at iU;omega);rw[r2]at s1;cases s1
   have mV:cu s.h G b=some g:=(eN hb).trans r1;have ia:∀i j,i<xs.length->j<k->i*k+j<cur.size:=λi j M R=>by
    have:=lX (i:=i) (k:=k) (L:=cs.length) (j:=j) k7 R;have h2:cs.length*k<=cap*k:=Xs k k7;rw[r7];omega
   have oF:∀(i j:Nat)(x:U D)(d:D),xs[i]?=some x->x[j]?=some d->aM G w (cur.getD (i*k+j) undef) (.d d):=λi j x d z F=>by
    have R:j<k:=by rw[<-kf x (ZZ z)];exact(Zj.1 F).1
    refine r9 i j (x.map .d) (.d d) _ (ib i x z) (by rw[Zm,F];rfl) ?_;have hc:=ia i j (Zj.1 z).1 R;simp [Array.getD,hc]
   have e0:∀i j,0*k+i*k+j=i*k+j:=λi j=>by rw[Nat.zero_mul,ZQ]
   refine .sl _ g (0*k) cc k xs (λi j=>cur.getD (i*k+j) undef) (λ_=>rfl) k7 q3 kf (λi j M R=>⟨?_,?_,?_⟩) (λi j x d z F=> ?_);{rw[hS,e0];exact .inr ⟨mV,lX M R⟩};{rw[e0,cell_of_row w g _ cur e (0,0) r4];have hc:=ia i j M R;simp [Array.getD,hc]}
   ·obtain⟨x,z⟩:∃x,xs[i]?=some x:=⟨_,Zd M⟩;have jd:=ZZ z;obtain⟨d,F⟩:∃d,x[j]?=some d:=⟨_,Zd (by rw[kf x jd];exact R)⟩;refine(oF i j x d z F).kW ?_;have h1:=gL x jd;rw[Zc]at h1;have h2:=h1 d (ZZ F);cases d with
    |v u=>exact h2
    |sl l=>rfl
    |ag l=>exact absurd h2 Bool.false_ne_true
   ·have:=oF i j x d z F;generalize cur.getD (i*k+j) undef=q at this;cases this with|d h=>exact h.keep hE.S hE.cell
 have hinv:=X3 (b:=b) (f:=AV.fe b k L xs) J.inv hE (λc o hq=>by rw[hS]at hq;exact hq.imp id And.left) (λhq=>hq.fe hE rfl IP);refine⟨_,hE,rfl,J.size,λi=> ?_,hinv,J.df⟩;show aM _ _ _ (bE (s.t.map λp=>(p.1,p.2.fe b k L xs)) i);rw[y4 (AV.fe b k L xs) (by simp [AV.fe])];exact(J.tmp i).fe hE rfl IP
mutual
def aeC{b kk L:Nat}{xs:U (U D)}:∀x:AV,(∀q∈x.nu b,q=(0,xs.length,L,kk))->x.fe b kk L xs=x.mlt b xs
 | .vec n o len L k,h=>by
   unfold AV.fe AV.mlt;unfold AV.nu at h;cases e:n==b with
   |false=>rfl
   |true=>
    rw[e]at h;have:=h _ Zt;cases this
    simp
 | .agg cs,h=>by unfold AV.fe AV.mlt;rw[E6 cs (by unfold AV.nu at h;exact h)]
 | .bw cs,h=>by unfold AV.fe AV.mlt;rw[E6 cs (by unfold AV.nu at h;exact h)]
 | .fn f cs,h=>by unfold AV.fe AV.mlt;rw[E6 cs (by unfold AV.nu at h;exact h)]
 | .dU n i j L k,h=>by unfold AV.fe AV.mlt;rfl
 | .d _,_=>by simp [AV.fe,AV.mlt]
 | .ptr ..,_=>by simp [AV.fe,AV.mlt]
 | .bm ..,_=>by simp [AV.fe,AV.mlt]
 | .own ..,_=>by simp [AV.fe,AV.mlt]
 | .full _,_=>by simp [AV.fe,AV.mlt]
 | .row ..,_=>by simp [AV.fe,AV.mlt]
 | .mp _,_=>by simp [AV.fe,AV.mlt]
 | .cD _,_=>by simp [AV.fe,AV.mlt]
 | .hid _,_=>by simp [AV.fe,AV.mlt]
 | .dead,_=>by simp [AV.fe,AV.mlt]
def E6{b kk L:Nat}{xs:U (U D)}:∀l:U AV,(∀q∈AV.oB b l,q=(0,xs.length,L,kk))->AV.sH b kk L xs l=AV.lD b xs l
 |[],_=>by simp [AV.sH,AV.lD]
 |x::l,h=>by
  unfold AV.oB at h;unfold AV.sH AV.lD;rw[aeC x λq hq=>h q (aq _ hq),E6 l λq hq=>h q (aa _ hq)]
end
inductive m4(b ln L kk:Nat)(xs:List (List D)):List ao->List ao->Prop
 |nil:m4 b ln L kk xs [] []
 |cells {cs cw:List AV} {l l':List ao} (c:Nat) (h:AV.oB b cs=List.replicate c (0,ln,L,kk)) (e:AV.lD b xs cs=cw) (t:m4 b ln L kk xs l l'):m4 b ln L kk xs (.cells cs::l) (.cells cw::l')
 |jk {e k:Nat} {ys:List (List D)} {l l':List ao} (t:m4 b ln L kk xs l l'):m4 b ln L kk xs (.vec e k (bf ys)::l) (.vec e k (bf ys)::l')
 |front {e k n:Nat} {l l':List ao} (t:m4 b ln L kk xs l l'):m4 b ln L kk xs (.front e k n::l) (.front e k n::l')
 |map {kv:List (ByteArray×D)} {l l':List ao} (t:m4 b ln L kk xs l l'):m4 b ln L kk xs (.map kv::l) (.map kv::l')
 |gone {l l':List ao} (t:m4 b ln L kk xs l l'):m4 b ln L kk xs (.gone::l) (.gone::l')
 |drop {B:ao} {l l':List ao} (t:m4 b ln L kk xs l l'):m4 b ln L kk xs (B::l) (.gone::l')
def Dx(l d:U ao):Prop:=d.length=l.length/\∀(n:Nat)(b:ao),d[n]?=some b->b= .gone\/l[n]?=some b
def Dx.cons{B b:ao}{l e:U ao}(h:b= .gone\/b=B)(t:Dx l e):Dx (B::l) (b::e):=by
 refine⟨by rw[Zp,Zp,t.1],λn C d=> ?_⟩
 match n with
 |0=>
  simp only[List.getElem?_cons_zero,Vg]at d ⊢;subst d;exact h.imp id Eq.symm
 |n+1=>simpa using t.2 n C (by simpa using d)
def aoo{G:Gh}{w:Zy}{h h':U ao}(hi:cp G w h)(d:Dx h h'):cp G w h':=by
 obtain⟨k,d⟩:=d;have i:∀n x,cu h' G n=some x->cu h G n=some x:=λn x p=>by
  obtain⟨B,f,e⟩:=nv p;rcases d n B f with rfl|b
  ·cases e
  ·rw[eN b];exact e
 refine⟨by rw[k];exact hi.len,hi.z,hi.S,λn B f=> ?_,λm n x e b=>hi.inj m n x (i m x e) (i n x b),hi.gl⟩;rcases d n B f with rfl|b
 ·trivial
 ·exact hi.dN n B b
def ah3{c ln L b:Nat}{xs:U (U D)}(e:xs.length=ln){l:U (Nat×Nat×Nat×Nat)}(h:l=List.replicate c (0,ln,L,b)):∀q∈l,q=(0,xs.length,L,b):=λq d=>by
 rw[h,List.mem_replicate]at d;rw[d.2,e]
def m4.gns{b ln L i:Nat}{xs:U (U D)}(k:xs.length=ln){l l':U ao}(h:m4 b ln L i xs l l'):Dx (l.map (ao.jr (AV.fe b i L xs))) l':=by
 have p:∀d,AV.fe b i L xs (.d d)= .d d:=λd=>by simp [AV.fe]
 induction h with
 |nil=>exact⟨rfl,λn q h=>by simp at h⟩
 |cells c h e t f=>
  rw[ZY,<-e];simp only[ao.jr];rw[<-D7,E6 _ (ah3 k h)];exact .cons (.inr rfl) f
 |jk t f=>rw[ZY];simp only[ao.jr];rw[Be p];exact .cons (.inr rfl) f
 |front t f=>exact .cons (.inr rfl) f
 |map t f=>exact .cons (.inr rfl) f
 |gone t f=>exact .cons (.inr rfl) f
 |drop t f=>exact .cons (.inl rfl) f
def aqa{P:eG}{r:O Nat}{N0:Nat}{c:Code}{s:St}{Q:Exit->St->Prop}(live:U Nat)(b:Nat)(xs ys:U (U D)){e k L ln:Nat}{cs:U (U AV)}(h':U ao)(F:Nat)(J:s.h[b]?=some (.vec e k cs))(M:cs.length=L)(u:cs.take xs.length=bf xs)(N:∀c∈xs,c.all D.qS=true)(z:xs.length=ln)(R:ys=xs)(hg:h'[b]?=some .gone)
 (ho:(live.flatMap λi=>(bE s.t i).nu b)=List.replicate F (0,ln,L,k)) (hh:m4 b ln L k ys s.h h') (K:bM P r N0 c Q ⟨s.n,live.map (λi=>(i,(bE s.t i).mlt b ys)),h'⟩):bM P r N0 c Q s:=by
 subst R;constructor
 intro G w a n hs B;obtain⟨G',hE,e1,f⟩:=hs.apq ys J M u N;have d:=hh.gns z;have zT:Dx ((s.h.map (ao.jr (AV.fe b k L ys))).set b .gone) h':=by
  refine⟨by rw[Zf];exact d.1,λn B' v=> ?_⟩;by_cases e:b=n;{subst e;rw[hg]at v;cases v;exact .inl rfl};{rw[Z7 e];exact d.2 n B' v}
 refine wpIn_mono (K.run G' w a n ⟨f.size,λi=> ?_,aoo f.inv zT,f.df⟩ (by rw[e1];exact B)) λ_ _ _ hn=>hn.trans (hE.less B);show aM _ _ _ (bE (live.map (λi=>(i,(bE s.t i).mlt b ys))) i);have x:=f.tmp i
 change aM _ _ _ (bE (s.t.map λp=>(p.1,p.2.fe b k L ys)) i)at x
 rw[y4 (AV.fe b k L ys) (by simp [AV.fe])]at x;rw[rT (λk=>(bE s.t k).mlt b ys)];split
 ·next hi=>
  rw[<-aeC _ λq u=>ah3 z ho q (List.mem_flatMap.2 ⟨i,hi,u⟩)];exact x
 ·exact .dead _
def auK{α:Type}(f:α->U D)(E:U α)(i:Nat):(E.map f).take i++(E.map f).drop (i+1)=(E.take i++E.drop (i+1)).map f:=by rw[ab,List.map_take,List.map_drop]
def akg{α:Type}{f:α->U D}{E:U α}{L k:Nat}(h:E.length+1=L):(bf (E.map f)++[List.replicate k AV.dead]).length=L:=by rw[Zi,qC,Zw];exact h
def aj7{α:Type}{f:α->U D}{E:U α}{k:Nat}:(bf (E.map f)++[List.replicate k AV.dead]).take (E.map f).length=bf (E.map f):=by
 rw[List.take_append_of_le_length (by rw[qC];exact Zx _),<-qC,List.take_length]
def Lc{α:Type}(x:AV)(k:AV->α):α:=
 match x with
 | .d y=>k (.d y)
 | .agg cs=>k (.agg cs)
 | .bw cs=>k (.bw cs)
 | .ptr n o=>fN n λn=>fN o λo=>k (.ptr n o)
 | .own n xs=>fN n λn=>k (.own n xs)
 | .fn f cs=>k (.fn f cs)
 | .mp n=>fN n λn=>k (.mp n)
 |x=>k x
def kNo{α:Type}(x:AV)(k:AV->α):Lc x k=k x:=by cases x<;>simp [Lc,Da]
def fT{α:Type}:U (Nat×AV)->(U (Nat×AV)->α)->α
 |[],k=>k []
 |(d,x)::l,k=>fN d λd=>Lc x λx=>fT l λl=>k ((d,x)::l)
def ad6{α:Type}:∀(l:U (Nat×AV))(k:U (Nat×AV)->α),fT l k=k l
 |[],k=>rfl
 |(d,x)::l,k=>by rw[fT,Da,kNo,ad6 l]
def fC{α:Type}:U AV->(U AV->α)->α
 |[],k=>k []
 |x::l,k=>Lc x λx=>fC l λl=>k (x::l)
def k01{α:Type}:∀(l:U AV)(k:U AV->α),fC l k=k l
 |[],k=>rfl
 |x::l,k=>by rw[fC,kNo,k01 l]
def fH{α:Type}:U ao->(U ao->α)->α
 |[],k=>k []
 | .cells cs::l,k=>fC cs λcs=>fH l λl=>k (.cells cs::l)
 | .front e z n::l,k=>fH l λl=>k (.front e z n::l)
 | .map b::l,k=>fH l λl=>k (.map b::l)
 | .gone::l,k=>fH l λl=>k (.gone::l)
 |B::l,k=>fH l λl=>k (B::l)
def ri{α:Type}:∀(l:U ao)(k:U ao->α),fH l k=k l
 |[],k=>rfl
 | .cells cs::l,k=>by rw[fH,k01,ri l]
 | .front e z n::l,k=>by rw[fH,ri l]
 | .map b::l,k=>by rw[fH,ri l]
 | .gone::l,k=>by rw[fH,ri l]
 | .l7 .. ::l,k=>by rw[fH,ri l]<;>simp
 | .vec .. ::l,k=>by rw[fH,ri l]<;>simp
 | .lp .. ::l,k=>by rw[fH,ri l]<;>simp
 | .it .. ::l,k=>by rw[fH,ri l]<;>simp
 | .gu .. ::l,k=>by rw[fH,ri l]<;>simp
 | .jC .. ::l,k=>by rw[fH,ri l]<;>simp
def Ra{α:Type}(s:St)(k:St->α):α:=fN s.n λn=>fT s.t λt=>fH s.h λh=>k ⟨n,t,h⟩
def aru{α:Type}(s:St)(k:St->α):Ra s k=k s:=by unfold Ra;rw[Da,ad6,ri]
inductive Fr
 |S (y:Code)
 |B (id:Nat)
 |F (k:Nat) (f:St->Prop)
def iS(P:eG)(r:O Nat)(N0:Nat)(Q:Exit->St->Prop):U Fr->Exit->St->Prop
 |[]=>Q
 | .S y::K=>jG (λs=>bM P r N0 y (iS P r N0 Q K) s) (iS P r N0 Q K)
 | .B id::K=>tV id (iS P r N0 Q K)
 | .F _ f::K=>jG f (iS P r N0 Q K)
inductive Md
 |c (c:Code)
 |n
 |x (id:Nat)
inductive WR
 |at (c:Code) (K:List Fr) (s:St)
 |ret (s:St)
 |nrm (s:St)
 |fin (k:Nat) (s:St)
abbrev WO:=O (WR×U (In×ct))
def LU(l:U (In×ct)):WO->WO
 |some (w,m)=>some (w,l++m)
 |none=>none
def mY(P:eG):Nat->Md->U Fr->U (U (Nat×ct))->St->WO
 |0,_,_,_,_=>none
 |F+1,m,K,A,s=>match m with
  | .n=>match K with
    |[]=>some (.nrm s,[])
    | .S y::K=>mY P F (.c y) K A s
    | .B _::K=>mY P F .n K A s
    | .F k _::_=>some (.fin k s,[])
  | .x id=>match K with
    |[]=>none
    | .S _::K=>mY P F (.x id) K A s
    | .B e::K=>mY P F (bif id==e then .n else .x id) K A s
    | .F _ _::K=>mY P F (.x id) K A s
  | .c c=>match c with
    | .seq a b=>mY P F (.c a) (.S b::K) A s
    | .block id b=>mY P F (.c b) (.B id::K) A s
    | .skip=>mY P F .n K A s
    | .ret=>some (.ret s,[])
    | .exit id=>mY P F (.x id) K A s
    | .region id ops d=>match A with
      |[]=>some (.at (.region id ops d) K s,[])
      |as::A=>bif !d||tZ ops then match qw P ops d ops.toList 0 as s with
         |some (s1,l)=>Ra s1 λs1=>LU l (mY P F .n K A s1)
         |none=>none
       else none
    | .cond o x y=>match A with
      |[]=>some (.at (.cond o x y) K s,[])
      |as::A=>match jN as 0 with
       | .bit b=>LU [(.bit (ev s o),.bit b)] (mY P F (.c (bif b then x else y)) K A s)
       |_=>none
    |c=>match A with
     |[]=>some (.at c K s,[])
     |_=>none
section
variable {P:eG} {r:O Nat} {N0:Nat} {Q:Exit->St->Prop}
def KD:∀(K:U Fr)(s:St),Q .ret s->iS P r N0 Q K .ret s
 |[],_,h=>h
 | .S _::K,s,h=>KD K s h
 | .B _::K,s,h=>KD K s h
 | .F _ _::K,s,h=>KD K s h
def ak5(P:eG)(r:O Nat)(N0:Nat)(Q:Exit->St->Prop)(m:Md)(K:U Fr)(s:St):Prop:=
 match m with
 | .c c=>bM P r N0 c (iS P r N0 Q K) s
 | .n=>iS P r N0 Q K .normal s
 | .x id=>iS P r N0 Q K (.exit id) s
def G8(P:eG)(r:O Nat)(N0:Nat)(Q:Exit->St->Prop)(b:U Fr):WR->Prop
 | .at c K s=>bM P r N0 c (iS P r N0 Q K) s
 | .ret s=>Q .ret s
 | .nrm s=>Q .normal s
 | .fin k s=>∀f,Fr.F k f∈b->f s
def G8.sub{K d:U Fr}(h:∀k f,Fr.F k f∈d->Fr.F k f∈K):∀{w:WR},G8 P r N0 Q K w->G8 P r N0 Q d w
 | .at _ _ _,b=>b
 | .ret _,b=>b
 | .nrm _,b=>b
 | .fin k _,b=>λf e=>b f (h k f e)
def k00{l m:U (In×ct)}{x:WO}{w:WR}(h:LU l x=some (w,m))(d:hX P m):∃n,x=some (w,n)/\hX P n/\hX P l:=by
 unfold LU at h;split at h
 ·next w' n=>
  cases h
  exact⟨n,rfl,λp b=>d p (aa _ b),λp b=>d p (aq _ b)⟩
 ·cases h
def afD(L:P.follows .mixedOrders=true):∀(F:Nat)(m:Md)(K:U Fr)(A:U (U (Nat×ct)))(s:St)(w:WR)(l:U (In×ct)),mY P F m K A s=some (w,l)->hX P l->G8 P r N0 Q K w->ak5 P r N0 Q m K s
 |0,_,_,_,_,_,_,h,_,_=>by simp [mY]at h
 |F+1,m,K,A,s,w,l,h,i,d=>by
  have p:=afD L F;have q:∀{x:Fr}{K:U Fr},∀k f,Fr.F k f∈K->Fr.F k f∈x::K:=λ_ _ h=>Zk _ h;have R:∀{y:Code}{K:U Fr},∀k f,Fr.F k f∈Fr.S y::K->Fr.F k f∈K:=λk f h=>by
   rcases Za.1 h with h|h
   ·cases h
   ·exact h
  have pB:∀{y:Nat}{K:U Fr},∀k f,Fr.F k f∈Fr.B y::K->Fr.F k f∈K:=λk f h=>by
   rcases Za.1 h with h|h
   ·cases h
   ·exact h
  unfold mY at h;cases m with
  |n=>
   cases K with
   |nil=>cases h;exact d
   |cons x K=>
    cases x with
    |S y=>exact p (.c y) K _ _ _ _ h i (d.sub q)
    |B id=>exact p .n K _ _ _ _ h i (d.sub q)
    |F k f=>cases h;exact d _ Zt
  |x id=>
   cases K with
   |nil=>cases h
   |cons x K=>
    cases x with
    |S y=>exact p (.x id) K _ _ _ _ h i (d.sub q)
    |B M=>
     show(bif id==M then iS P r N0 Q K .normal s else iS P r N0 Q K (.exit id) s);simp only at h;cases e:id==M with
     |true=>rw[e]at h;exact p .n K _ _ _ _ h i (d.sub q)
     |false=>rw[e]at h;exact p (.x id) K _ _ _ _ h i (d.sub q)
    |F k f=>exact p (.x id) K _ _ _ _ h i (d.sub q)
  |c c=>
   simp only at h;split at h;{exact az (p (.c _) (.S _::K) _ _ _ _ h i (d.sub R))};{exact ft (p (.c _) (.B _::K) _ _ _ _ h i (d.sub pB))};{exact dn (p .n _ _ _ _ _ h i d)};{cases h;exact cT (KD K s d)};{exact mA (p (.x _) _ _ _ _ _ h i d)}
   ·next id ops dr=>
    split at h;{cases h;exact d}
    ·next as A=>
     obtain⟨hb,h⟩:=lR h;split at h
     ·next s1 l1 e=>
      rw[aru]at h;obtain⟨n,v,z,J⟩:=k00 h i;have u:=p .n _ _ _ _ _ v z d;have N:=zn (P:=P) (ops:=ops) (dr:=dr) (K:=iS P r N0 Q K .normal) ops.toList 0 s l1 e J u;cases dr with
      |false=>exact fq N
      |true=>
       have hl:tZ ops.toList.toArray=true:=by simpa using hb
       have:=OZ (P:=P) (r:=r) (N0:=N0) (Q:=iS P r N0 Q K) (s:=s) (id:=id) (l:=ops.toList) L hl (by simpa using N);show bM P r N0 (.region id ops true) (iS P r N0 Q K) s
       simpa using this
     ·cases h
   ·next o x y=>
    split at h;{cases h;exact d}
    ·next as A=>
     split at h
     ·next b e=>
      obtain⟨n,v,z,J⟩:=k00 h i;have h4:=OK.O0 (J (_,_) Zt);have u:=p (.c _) _ _ _ _ _ v z d;exact TI h4 (λe=>by subst e;exact u) (λe=>by subst e;exact u)
     ·cases h
   ·split at h
    ·cases h;exact d
    ·cases h
end
def wK:WO->U Fr
 |some (.at _ K _,_)=>K
 |_=>[]
def wS:WO->St
 |some (.at _ _ s,_)=>s
 |_=>⟨0,[],[]⟩
def lg(k:Nat):U Fr->U (St->Prop)
 |[]=>[]
 | .F b f::K=>bif b==k then f::lg k K else lg k K
 |_::K=>lg k K
def Jr{k:Nat}{f:St->Prop}:∀{K:U Fr},Fr.F k f∈K->f∈lg k K
 |[],h=>by cases h
 | .S _::K,h=>by
   rcases Za.1 h with h|h
   ·cases h
   ·exact Jr (K:=K) h
 | .B _::K,h=>by
   rcases Za.1 h with h|h
   ·cases h
   ·exact Jr (K:=K) h
 | .F b g::K,h=>by
   rcases Za.1 h with h|h
   ·cases h;simp [lg]
   ·unfold lg;cases b==k with
    |true=>exact Zk _ (Jr h)
    |false=>exact Jr h
def uS:WO->O (U (In×ct))
 |some (.at _ _ _,l)=>some l
 |_=>none
def nb(live:U Nat)(m:Nat):WO->O (St×U (In×ct))
 |some (.at (.loop _) _ s,l)=>(k8 s live m).map (·,l)
 |_=>none
def D8(live:U Nat)(m:Nat)(ks:U Nat)(kn:U (Nat×Nat)):WO->O (St×U (In×ct))
 |some (.at (.loop _) _ s,l)=>(mZ s live m ks kn).map (·,l)
 |_=>none
def vN:WO->O (U (In×ct))
 |some (.at _ (.S _::_) _,l)=>some l
 |_=>none
def sq(k:Nat)(live:U Nat)(m:Nat):WO->O (St×U (In×ct))
 |some (.fin b s,l)=>bif b==k then(k8 s live m).map (·,l)else none
 |_=>none
def zC(k:Nat)(live:U Nat)(m:Nat)(ks:U Nat)(kn:U (Nat×Nat)):WO->O (St×U (In×ct))
 |some (.fin b s,l)=>bif b==k then(mZ s live m ks kn).map (·,l)else none
 |_=>none
def vY(P:eG)(b:U ResultVar):WO->O (AV×U (In×ct))
 |some (.ret s,l)=>(zl P b s).map (·,l)
 |some (.nrm s,l)=>(zl P b s).map (·,l)
 |_=>none
def PA(P:eG)(b:U ResultVar)(m:Nat):WO->O ((AV×U ao)×U (In×ct))
 |some (.ret s,l)=>(zK P b m s).map (·,l)
 |some (.nrm s,l)=>(zK P b m s).map (·,l)
 |_=>none
def Ds:U Fr->O (Code×U Fr)
 | .S y::K=>some (y,K)
 | .B _::K=>Ds K
 |_=>none
def Pr(P:eG)(b:U Nat)(as:U (Nat×ct)):WO->O (U (Nat×AV)×U ao×U (In×ct))
 |some (.at (.region _ ops d) K s,_)=>bif (!d||tZ ops)&&(Ds K).isSome then tg P d ops.toList as b s else none
 |_=>none
def ik(k:Nat)(f:St->Prop)(s:St):WO->WO
 |some (.at (.loop b) K _,_)=>some (.at b (.F k f::K) s,[])
 |_=>none
def A7(k:Nat)(f:St->Prop):WO->WO
 |some (.at c (.S _::K) s,_)=>some (.at c (.F k f::K) s,[])
 |_=>none
def yC(s:St):WO->WO
 |some (.at _ (.S y::K) _,_)=>some (.at y K s,[])
 |_=>none
def wj(Δ:U (Nat×AV))(h':U ao):WO->WO
 |some (.at _ K s,_)=>match Ds K with
  |some (y,b)=>some (.at y b ⟨s.n,Δ++s.t,h'⟩,[])
  |none=>none
 |_=>none
def HE(f:St->St):WO->WO
 |some (.at c K s,l)=>some (.at c K (f s),l)
 |_=>none
def aea:Nat:=4000
def wk(P:eG)(w:WO)(b:U (U (Nat×Ob P))):WO:=
 match w with
 |some (.at c K s,_)=>mY P aea (.c c) K (b.map j9) s
 |_=>none
def eE{P:eG}(b:U (U (Nat×Ob P))):U (In×ct):=b.flatMap kr
def aiv{P:eG}(b:U (U (Nat×Ob P))):hX P (eE b):=λp d=>by
 obtain⟨l,_,h⟩:=List.mem_flatMap.1 d;exact rX l p h
def tG{α β:Type}{x:O α}{l:β}{y:α}{m:β}(h:x.map (·,l)=some (y,m)):x=some y/\l=m:=by
 cases x with
 |none=>cases h
 |some z=>cases h;exact⟨rfl,rfl⟩
def wq(P:eG)(r:O Nat)(N0:Nat)(Q:Exit->St->Prop):WO->Prop
 |some (.at c K s,_)=>bM P r N0 c (iS P r N0 Q K) s
 |_=>True
structure GW(P:Program)(r:Option Nat)(N0:Nat)(Q:Exit->St->Prop)(w:WO):Prop where
 run:wq P r N0 Q w
section
variable {P:eG} {r:O Nat} {N0:Nat} {Q:Exit->St->Prop} {w0:WO}
def pZ{b:U (U (Nat×Ob P))}(d:P.follows .mixedOrders=true){w:WR}(e:wk P w0 b=some (w,eE b))(i:∀K,(∀k f,Fr.F k f∈K->Fr.F k f∈wK w0)->G8 P r N0 Q K w):GW P r N0 Q w0:=by
 constructor
 unfold wk at e;split at e;{next c K s l=>exact afD d aea (.c c) K _ s w _ e (aiv b) (i K λk f h=>h)};{cases e}
def gr(d:P.follows .mixedOrders=true)(b:U (U (Nat×Ob P)))(k:GW P r N0 Q (wk P w0 b))(e:uS (wk P w0 b)=some (eE b):=by kernel_rfl):GW P r N0 Q w0:=by
 generalize f:wk P w0 b=w at e k;unfold uS at e;split at e;{cases e;exact pZ d f λK _=>k.run};{cases e}
def atm(f:P.follows .mixedOrders=true){fn:Func}{R:AV}(b:U (U (Nat×Ob P)))(e:vY P fn.results.toList (wk P w0 b)=some (R,eE b)):GW P r N0 (mq P fn R) w0:=by
 generalize i:wk P w0 b=w at e;unfold vY at e;split at e;{obtain⟨d,rfl⟩:=tG e;exact pZ f i λK _=>d};{obtain⟨d,rfl⟩:=tG e;exact pZ f i λK _=>d};{cases e}
def aqq(f:P.follows .mixedOrders=true){fn:Func}{m:Nat}{R:AV}{H:U ao}(b:U (U (Nat×Ob P)))(e:PA P fn.results.toList m (wk P w0 b)=some ((R,H),eE b)):GW P r N0 (wL P fn m R H) w0:=by
 generalize i:wk P w0 b=w at e;unfold PA at e;split at e;{obtain⟨d,rfl⟩:=tG e;exact pZ f i λK _=>d};{obtain⟨d,rfl⟩:=tG e;exact pZ f i λK _=>d};{cases e}
def wr(d:P.follows .mixedOrders=true){fn:Func}{R:AV}(b:U (U (Nat×Ob P)))(e:vY P fn.results.toList (wk P w0 b)=some (R,eE b):=by kernel_rfl):GW P r N0 (mq P fn R) w0:=atm d b e
def lz(d:P.follows .mixedOrders=true){fn:Func}{m:Nat}{R:AV}{H:U ao}(b:U (U (Nat×Ob P)))(e:PA P fn.results.toList m (wk P w0 b)=some ((R,H),eE b):=by kernel_rfl):GW P r N0 (wL P fn m R H) w0:=aqq d b e
structure NL{ι:Type}(k:Nat)(live:List Nat)(m:Nat)(st:ι->St)(I:ι->Prop)(μ:ι->Nat)(i0:ι)(f:St->Prop):Prop where
 h:∀s' i',k8 s' live m=some (st i')->I i'->μ i'<μ i0->f s'
structure O4{ι:Type}(k:Nat)(live:List Nat)(m:Nat)(ks:List Nat)(kn:List (Nat×Nat))(st:ι->St)(I:ι->Prop)(μ:ι->Nat)(i0:ι)(f:St->Prop):Prop where
 h:∀s' i',jf m (s'.h.take m)->mZ s' live m ks kn=some (st i')->I i'->μ i'<μ i0->f s'
structure y7{ι:Type}(k:Nat)(live:List Nat)(m:Nat)(st:ι->St)(I:ι->Prop)(f:St->Prop):Prop where
 h:∀s' i',k8 s' live m=some (st i')->I i'->f s'
structure Kl{ι:Type}(k:Nat)(live:List Nat)(m:Nat)(ks:List Nat)(kn:List (Nat×Nat))(st:ι->St)(I:ι->Prop)(f:St->Prop):Prop where
 h:∀s' i',jf m (s'.h.take m)->mZ s' live m ks kn=some (st i')->I i'->f s'
def Mk(d:P.follows .mixedOrders=true){k:Nat}{s1:St}{f:St->Prop}(b:U (U (Nat×Ob P)))(i:lg k (wK w0)=[f])(e:wk P w0 b=some (.fin k s1,eE b))(p:f s1):GW P r N0 Q w0:=
 pZ d e λK q g u=>by
  have:=Jr (q k g u);rw[i,ah]at this;subst this;exact p
def DY(q:P.follows .mixedOrders=true){ι:Type}{live:U Nat}{m k:Nat}{st:ι->St}{b:ι->Prop}{μ:ι->Nat}{i0:ι}{f:St->Prop}(u:NL k live m st b μ i0 f)(i:ι)(d:U (U (Nat×Ob P)))(v:b i)(x:μ i<μ i0:=by exact ZC _)(z:lg k (wK w0)=[f]:=by kernel_rfl)(e:sq k live m (wk P w0 d)=some (st i,eE d):=by kernel_rfl):GW P r N0 Q w0:=by
 generalize B:wk P w0 d=w at e;unfold sq at e;split at e
 ·next J s' l=>
  obtain⟨p,e⟩:=lR e;obtain⟨F,rfl⟩:=tG e;rw[TC]at p;subst p;exact Mk q d z B (u.h _ i F v x)
 ·cases e
def xw:U ao->U (U (U AV))
 |[]=>[]
 | .vec _ _ cs::l=>cs::xw l
 |_::l=>xw l
structure VE(m:Nat) where
 x:List (List AV)
 ok:∀e k,(ao.vec e k x).CD m
def VE.jk{m:Nat}(xs:U (U D)):VE m:=⟨bf xs,λ_ _=>(ZF (m:=m) (l:=[]) fM).1⟩
def VE.row{m:Nat}(xs:U (U D))(i:Nat)(r:U AV)(h1:r.map (AV.bK m)=r:=by kernel_rfl)(b:r.all (AV.aN m)=true:=by kernel_rfl):VE m:=⟨(bf xs).set i r,λ_ _=>(vmR (m:=m) (l:=[]) h1 b fM).1⟩
def HF{m:Nat}:∀(l:U ao)(fI:U (VE m)),xw l=fI.map VE.x->jf m l
 |[],_,_=>fM
 |B::l,fI,h=>by
  cases B with
  |vec e k cs=>
   cases fI with
   |nil=>cases h
   |cons v b=>
    have d:cs=v.x:=(List.cons.inj h).1;subst d;exact⟨v.ok e k,HF l b (List.cons.inj h).2⟩
  |_=>exact⟨trivial,HF l fI h⟩
def uf(m:Nat):WO->U (U (U AV))
 |some (.fin _ s,_)=>xw (s.h.take m)
 |some (.at _ _ s,_)=>xw (s.h.take m)
 |_=>[]
def F5(q:P.follows .mixedOrders=true){ι:Type}{live:U Nat}{m k:Nat}{ks:U Nat}{kn:U (Nat×Nat)}{st:ι->St}{b:ι->Prop}{μ:ι->Nat}{i0:ι}{f:St->Prop}(u:O4 k live m ks kn st b μ i0 f)(i:ι)(d:U (U (Nat×Ob P)))(v:b i)(z:μ i<μ i0:=by exact ZC _)(B:lg k (wK w0)=[f]:=by kernel_rfl)(fI:U (VE m):=[])(e0:uf m (wk P w0 d)=fI.map VE.x:=by kernel_rfl)(e:zC k live m ks kn (wk P w0 d)=some (st i,eE d):=by kernel_rfl):GW P r N0 Q w0:=by
 generalize F:wk P w0 d=w at e e0;unfold zC at e;split at e
 ·next L s' l=>
  obtain⟨p,e⟩:=lR e;obtain⟨J,rfl⟩:=tG e;rw[TC]at p;subst p;exact Mk q d B F (u.h _ i (HF _ fI e0) J v z)
 ·cases e
def nU(q:P.follows .mixedOrders=true){ι:Type}{live:U Nat}{m k:Nat}{st:ι->St}{b:ι->Prop}{f:St->Prop}(u:y7 k live m st b f)(i:ι)(d:U (U (Nat×Ob P)))(v:b i)(x:lg k (wK w0)=[f]:=by kernel_rfl)(e:sq k live m (wk P w0 d)=some (st i,eE d):=by kernel_rfl):GW P r N0 Q w0:=by
 generalize z:wk P w0 d=w at e;unfold sq at e;split at e
 ·next F s' l=>
  obtain⟨p,e⟩:=lR e;obtain⟨B,rfl⟩:=tG e;rw[TC]at p;subst p;exact Mk q d x z (u.h _ i B v)
 ·cases e
def J5(v:P.follows .mixedOrders=true){ι:Type}(k:Nat)(q:U (U (Nat×Ob P)))(live:U Nat)(m:Nat)(st:ι->St)(d:ι->Prop)(μ:ι->Nat)(u:ι)(x:d u)
 (p:∀i,d i->∀f:St->Prop,NL k live m st d μ i f->GW P r N0 Q (ik k f (st i) (wk P w0 q)))
 (z:N0<=m:=by exact Zh rfl) (e:nb live m (wk P w0 q)=some (st u,eE q):=by kernel_rfl):GW P r N0 Q w0:=by
 generalize B:wk P w0 q=w at e p;unfold nb at e;split at e
 ·next b K' s' l=>
  obtain⟨F,rfl⟩:=tG e;refine pZ v B λK _=> ?_;refine Pf live m st d μ u z F x λi J=> ?_;exact(p i J _ ⟨λs' L M N R=>⟨L,M,N,R⟩⟩).run
 ·cases e
def HT(v:P.follows .mixedOrders=true){ι:Type}(k:Nat)(q:U (U (Nat×Ob P)))(live:U Nat)(m:Nat)(ks:U Nat)(kn:U (Nat×Nat))(st:ι->St)(d:ι->Prop)(μ:ι->Nat)(u:ι)(z:d u)
 (p:∀i,d i->∀f:St->Prop,O4 k live m ks kn st d μ i f->GW P r N0 Q (ik k f (st i) (wk P w0 q)))
 (B:N0<=m:=by exact Zh rfl) (fI:U (VE m):=[]) (e0:uf m (wk P w0 q)=fI.map VE.x:=by kernel_rfl) (e:D8 live m ks kn (wk P w0 q)=some (st u,eE q):=by kernel_rfl):GW P r N0 Q w0:=by
 generalize F:wk P w0 q=w at e e0 p;unfold D8 at e;split at e
 ·next b K' s' l=>
  obtain⟨J,rfl⟩:=tG e;refine pZ v F λK _=> ?_;refine xz live m ks kn st d μ u B ⟨HF _ fI e0,J⟩ z λi L=> ?_;exact(p i L _ ⟨λs' M h0 N R h3=>⟨M,⟨h0,N⟩,R,h3⟩⟩).run
 ·cases e
def RJ(q:P.follows .mixedOrders=true){ι:Type}(k:Nat)(d:U (U (Nat×Ob P)))(live:U Nat)(m:Nat)(st:ι->St)(b:ι->Prop)
 (p:∀f:St->Prop,y7 k live m st b f->GW P r N0 Q (A7 k f (wk P w0 d)))
 (rest:∀i,b i->GW P r N0 Q (yC (st i) (wk P w0 d))) (u:N0<=m:=by exact Zh rfl) (e:vN (wk P w0 d)=some (eE d):=by kernel_rfl):GW P r N0 Q w0:=by
 generalize v:wk P w0 d=w at e p rest;unfold vN at e;split at e
 ·cases e
  refine pZ q v λK _=> ?_;exact EU live m st b u (p _ ⟨λs' x z B=>⟨x,z,B⟩⟩).run λi F=>(rest i F).run
 ·cases e
def alD(q:P.follows .mixedOrders=true){ι:Type}{live:U Nat}{m k:Nat}{ks:U Nat}{kn:U (Nat×Nat)}{st:ι->St}{b:ι->Prop}{f:St->Prop}(u:Kl k live m ks kn st b f)(i:ι)(d:U (U (Nat×Ob P)))(v:b i)(fI:U (VE m):=[])(e0:uf m (wk P w0 d)=fI.map VE.x:=by kernel_rfl)(z:lg k (wK w0)=[f]:=by kernel_rfl)(e:zC k live m ks kn (wk P w0 d)=some (st i,eE d):=by kernel_rfl):GW P r N0 Q w0:=by
 generalize B:wk P w0 d=w at e e0;unfold zC at e;split at e
 ·next J s' l=>
  obtain⟨p,e⟩:=lR e;obtain⟨F,rfl⟩:=tG e;rw[TC]at p;subst p;exact Mk q d z B (u.h _ i (HF _ fI e0) F v)
 ·cases e
def asc(q:P.follows .mixedOrders=true){ι:Type}(k:Nat)(d:U (U (Nat×Ob P)))(live:U Nat)(m:Nat)(ks:U Nat)(kn:U (Nat×Nat))(st:ι->St)(b:ι->Prop)
 (p:∀f:St->Prop,Kl k live m ks kn st b f->GW P r N0 Q (A7 k f (wk P w0 d)))
 (rest:∀i,b i->GW P r N0 Q (yC (st i) (wk P w0 d))) (u:N0<=m:=by exact Zh rfl) (e:vN (wk P w0 d)=some (eE d):=by kernel_rfl):GW P r N0 Q w0:=by
 generalize v:wk P w0 d=w at e p rest;unfold vN at e;split at e
 ·cases e
  refine pZ q v λK _=> ?_;exact aec live m ks kn st b u (p _ ⟨λs' x h0 z B=>⟨x,⟨h0,z⟩,B⟩⟩).run λi F=>(rest i F).run
 ·cases e
def N5:∀{K:U Fr}{y:Code}{b:U Fr}{s:St},Ds K=some (y,b)->bM P r N0 y (iS P r N0 Q b) s->iS P r N0 Q K .normal s
 |[],_,_,_,h,_=>by cases h
 | .S y::K,_,_,_,h,k=>by cases h;exact k
 | .B _::K,_,_,s,h,k=>N5 (K:=K) (s:=s) h k
 | .F _ _::K,_,_,_,h,_=>by cases h
def an3(i:P.follows .mixedOrders=true)(Δ:U (Nat×AV))(h':U ao)(e:∃b:U (Nat×Ob P),Pr P (Δ.map (·.1)) (j9 b) (wk P w0 [])=some (Δ,h',kr b))(k:GW P r N0 Q (wj Δ h' (wk P w0 [])))(e0:uS (wk P w0 [])=some []:=by kernel_rfl):GW P r N0 Q w0:=by
 generalize v:wk P w0 []=w at e k e0;obtain⟨b,e⟩:=e;unfold Pr at e;split at e
 ·next id ops dr d s' l=>
  obtain⟨f,e⟩:=lR e;rw[Zo]at f;cases e0
  refine pZ i v λK _=> ?_;obtain⟨s1,x,z,B,F⟩:=MS e;obtain⟨p,q⟩:=c7.1 f.2;obtain⟨y,M⟩:=p;have J:iS P r N0 Q d .normal s1:=by
   refine N5 q (Nc (s:=s1) (s':=⟨s'.n,Δ++s'.t,h'⟩) z.symm B.symm F ?_);have k:=k.run;simp only[wj,q]at k;exact k
  show bM P r N0 (.region id ops dr) (iS P r N0 Q d) s';have u:=zn (P:=P) (ops:=ops.toList.toArray) (dr:=dr) (K:=iS P r N0 Q d .normal) ops.toList 0 s' _ x (rX b) J;cases dr with
  |false=>exact fq (by simpa using u)
  |true=>
   have L:tZ ops.toList.toArray=true:=by simpa using f.1
   have:=OZ (P:=P) (r:=r) (N0:=N0) (Q:=iS P r N0 Q d) (s:=s') (id:=id) (l:=ops.toList) i L (by simpa using u)
   simpa using this
 ·cases e
def awx(P:eG)(b:U Nat)(as:U (Nat×ct)):WO->O (U (U (Nat×AV)×U ao×U (In×ct)))
 |some (.at (.region _ ops true) K s,_)=>bif (Ds K).isSome then BJ P ops.toList as b s else none
 |_=>none
def aex(m:Nat)(d:P.follows .mixedOrders=true)(Δ:U (Nat×AV))(h':U ao)(e:∃b:U (Nat×Ob P),awx P (Δ.map (·.1)) (j9 b) (wk P w0 [])=some (List.replicate m (Δ,h',kr b)))(k:GW P r N0 Q (wj Δ h' (wk P w0 [])))(e0:uS (wk P w0 [])=some []:=by kernel_rfl):GW P r N0 Q w0:=by
 generalize q:wk P w0 []=w at e k e0;obtain⟨b,e⟩:=e;unfold awx at e;split at e
 ·next id ops f s' l=>
  obtain⟨u,e⟩:=lR e;cases e0
  refine pZ d q λK _=> ?_;obtain⟨p,i⟩:=c7.1 u;obtain⟨y,v⟩:=p;show bM P r N0 (.region id ops true) (iS P r N0 Q f) s';have:=rte (r:=r) (N0:=N0) (Q:=iS P r N0 Q f) (id:=id) (ol:=ops.toList) (n:=s'.n) (t:=s'.t) (h:=s'.h) m d b Δ h' e (N5 i (by
   have k:=k.run;simp only[wj,i]at k;exact k))
  simpa using this
 ·cases e
def aeE(P:eG)(b:U Nat)(as:U (Nat×ct)):WO->O (U (Nat×AV)×U ao×U (In×ct))
 |some (.at (.region _ ops true) K s,_)=>bif (Ds K).isSome&&ED true ops (List.range ops.toList.length)&&GD as 0 ops.toList then tg P false ops.toList as b s else none
 |_=>none
def vc(i:P.follows .mixedOrders=true)(d:U (Nat×Ob P))(Δ:U (Nat×AV))(h':U ao)(k:GW P r N0 Q (wj Δ h' (wk P w0 [])))(e:aeE P (Δ.map (·.1)) (j9 d) (wk P w0 [])=some (Δ,h',kr d):=by kernel_rfl)(e0:uS (wk P w0 [])=some []:=by kernel_rfl):GW P r N0 Q w0:=by
 generalize u:wk P w0 []=w at e k e0;unfold aeE at e;split at e
 ·next id ops f s' l=>
  obtain⟨b,e⟩:=lR e;rw[Zo,Zo]at b;cases e0
  refine pZ i u λK _=> ?_;obtain⟨p,q⟩:=c7.1 b.1.1;obtain⟨y,v⟩:=p;show bM P r N0 (.region id ops true) (iS P r N0 Q f) s';have x:bM P r N0 y (iS P r N0 Q v) ⟨s'.n,Δ++s'.t,h'⟩:=by
   have k:=k.run;simp only[wj,q]at k;exact k
  obtain⟨s1,z,B,F,J⟩:=MS e;have L:iS P r N0 Q f .normal s1:=N5 q (Nc (s:=s1) (s':=⟨s'.n,Δ++s'.t,h'⟩) B.symm F.symm J x);have M:ED true ops.toList.toArray (List.range ops.toList.length)=true:=by simpa using b.1.2
  have:bM P r N0 (.region id ops.toList.toArray true) (iS P r N0 Q f) s':=by
   refine XP (m:=true) (List.range ops.toList.length) i gj M ?_;rw[agm];exact RZ ops.toList 0 _ _ z (rX d) b.2 L
  simpa using this
 ·cases e
def Xe(b:Nat):ao->U (Nat×Nat×Nat×Nat)
 | .cells cs=>AV.oB b cs
 | .lp .. =>[(1,0,0,0)]
 | .it .. =>[(1,0,0,0)]
 | .gu _ cs=>AV.oB b cs
 |_=>[]
structure VM(b L kk:Nat)(ys:List (List D)) where
 x:List (List AV)
 y:List (List AV)
 ok:ys.length=L->y=x.map (·.map (AV.du b kk ys))
def VM.jk{b L e:Nat}{ys:U (U D)}(zs:U (U D)):VM b L e ys:=⟨bf zs,bf zs,λ_=>(Be (λd=>by simp [AV.du]) zs).symm⟩
def VM.row{b L k:Nat}{ys:U (U D)}{α:Type}(f:α->U D)(E:U α)(i:Nat)(cs:U AV)(y:α)(c:Nat)(h:AV.oB b cs=List.replicate c (0,L,L,k):=by kernel_rfl)(e:AV.lD b ys cs=(f y).map AV.d:=by kernel_rfl):VM b L k ys:=
 ⟨(bf (E.map f)).set i cs,bf ((E.set i y).map f),λp=>by
   have q:((bf (E.map f)).set i cs).map (·.map (AV.du b k ys))=(bf (E.map f)).set i (cs.map (AV.du b k ys)):=by rw[List.map_set,Be (λd=>by simp [AV.du])]
   have u:cs.map (AV.du b k ys)=(f y).map AV.d:=by rw[<-s8,vU _ (Iv p h),e]
   rw[q,u];exact(ape rfl).symm⟩
def sM(b:Nat)(ys:U (U D)):U ao->U (U (U AV))->U ao
 |[],_=>[]
 |B::l,d=>match B with
  | .vec e k cs=>match d with
    |v::d=>.vec e k v::sM b ys l d
    |[]=>.vec e k cs::sM b ys l []
  | .cells cs=>.cells (AV.lD b ys cs)::sM b ys l d
  | .gu T cs=>.gu T (AV.lD b ys cs)::sM b ys l d
  |B=>B::sM b ys l d
def afO{b L f:Nat}{ys:U (U D)}(hL:ys.length=L):∀(h:U ao)(d:U (VM b L f ys)),xw h=d.map VM.x->(∀q∈h.flatMap (Xe b),q=(0,ys.length,ys.length,f))->sM b ys h (d.map VM.y)=h.map (ao.jr (AV.du b f ys))
 |[],_,_,_=>rfl
 |B::l,d,i,ho=>by
  have u:∀d:U (VM b L f ys),xw l=d.map VM.x->sM b ys l (d.map VM.y)=l.map (ao.jr (AV.du b f ys)):=λd i=>afO hL l d i λq M=>ho q (by rw[List.flatMap_cons];exact aa _ M);have F:∀q∈Xe b B,q=(0,ys.length,ys.length,f):=λq M=>ho q (by rw[List.flatMap_cons];exact aq _ M);cases B with
  |vec e k cs=>
   cases d with
   |nil=>cases i
   |cons v d=>
    have N:cs=v.x:=(List.cons.inj i).1;have z:(ao.vec e k cs).jr (AV.du b f ys)= .vec e k v.y:=by rw[v.ok hL,N];rfl
    show ao.vec e k v.y::sM b ys l (d.map VM.y)=ao.jr (AV.du b f ys) (.vec e k cs)::l.map _;rw[u d (List.cons.inj i).2,z]
  |cells cs=>
   have z:(ao.cells cs).jr (AV.du b f ys)= .cells (AV.lD b ys cs):=by
    rw[<-vU cs F,s8];rfl
   show ao.cells (AV.lD b ys cs)::sM b ys l (d.map VM.y)=ao.jr (AV.du b f ys) (.cells cs)::l.map _;rw[u d i,z]
  |front e k n=>exact congrArg (ao.front e k n::·) (u d i)
  |jC e q=>exact congrArg (ao.jC e q::·) (u d i)
  |map R=>exact congrArg (ao.map R::·) (u d i)
  |l7 R=>exact congrArg (ao.l7 R::·) (u d i)
  |gone=>exact congrArg (ao.gone::·) (u d i)
  |lp ls p as bd cs=>have:=congrArg Prod.fst (F (1,0,0,0) Zt);cases this
  |it sn cs=>have:=congrArg Prod.fst (F (1,0,0,0) Zt);cases this
  |gu J cs=>
   have z:(ao.gu J cs).jr (AV.du b f ys)= .gu J (AV.lD b ys cs):=by
    rw[<-vU cs F,s8];rfl
   show ao.gu J (AV.lD b ys cs)::sM b ys l (d.map VM.y)=ao.jr (AV.du b f ys) (.gu J cs)::l.map _;rw[u d i,z]
def aoO{c:Code}{s:St}(live:U Nat)(b:Nat)(xs:U (U D)){e k L:Nat}(h':U ao)(f:s.h[b]?=some (.vec e k (bf xs)))(u:∀c∈xs,c.all D.qS=true)(hL:xs.length=L)
 (v:∀q∈live.flatMap λi=>(bE s.t i).nu b,q=(0,xs.length,xs.length,k)) (x:h'=s.h.map (ao.jr (AV.du b k xs))) (K:bM P r N0 c Q ⟨s.n,live.map (λi=>(i,(bE s.t i).mlt b xs)),h'.set b .gone⟩):bM P r N0 c Q s:=by
 constructor
 intro G w a n z d;obtain⟨B,F,J,M⟩:=z.Q8 xs f u;refine wpIn_mono (K.run B w a n (M.less rfl (by rw[x]) λi=> ?_) (by rw[J];exact d)) λ_ _ _ N=>N.trans (F.less d);show bE (live.map (λi=>(i,(bE s.t i).mlt b xs))) i=bE (s.t.map λp=>(p.1,p.2.du b k xs)) i\/_;rw[rT (λk=>(bE s.t k).mlt b xs),y4 (AV.du b k xs) (by simp [AV.du])];split
 ·next R=>
  left
  refine(Q7 _ λq hq=>v q ?_).symm;exact List.mem_flatMap.2 ⟨i,R,hq⟩
 ·exact .inr rfl
def ase(live:U Nat)(b:Nat)(s:St):U (Nat×Nat×Nat×Nat):=(live.flatMap λi=>(bE s.t i).nu b)++s.h.flatMap (Xe b)
def aiu(live:U Nat)(b:Nat)(ys:U (U D))(d:U (U (U AV)))(s:St):St:=⟨s.n,live.map (λi=>(i,(bE s.t i).mlt b ys)),(sM b ys s.h d).set b .gone⟩
def aoG(live:U Nat)(m:Nat):WO->O St
 |some (.at _ _ s,_)=>Go.Proofs.YtjploedinjiflaaGreatDoor.k8 s live m
 |_=>none
def asz(live:U Nat)(m:Nat)(s1:St)(b:N0<=m)(k:GW P r N0 Q (HE (λ_=>s1) w0))(e:aoG live m w0=some s1:=by kernel_rfl):GW P r N0 Q w0:=by
 constructor
 unfold wq;split;{exact fR live m b e k.run};{trivial}
def I7(live:U Nat)(b:Nat){xs:U (U D)}(ys:U (U D))(L c e k:Nat)(d:U (VM b L k ys))(f:xs.length=L)(u:ys=xs)(v:∀c∈xs,c.all D.qS=true)(K:GW P r N0 Q (HE (aiu live b ys (d.map VM.y)) w0))(z:(wS w0).h[b]?=some (.vec e k (bf xs)):=by kernel_rfl)(B:ase live b (wS w0)=List.replicate c (0,L,L,k):=by kernel_rfl)(F:xw (wS w0).h=d.map VM.x:=by kernel_rfl):GW P r N0 Q w0:=by
 subst u;constructor
 unfold wq;split
 ·next c J s l=>
  have p:=Iv f B;exact aoO live b ys _ z v f (λq i=>p q (aq _ i)) (afO f s.h d F λq i=>p q (aa _ i)) K.run
 ·trivial
def adL{m:Nat}:([]:U ao).all (ao.aN m)=true:=rfl
def Ce{B:ao}{l:U ao}{m:Nat}(h:B.aN m=true)(k:l.all (ao.aN m)=true):(B::l).all (ao.aN m)=true:=by rw[Z4,h,k];rfl
def ae0{e k m:Nat}{xs:U (U D)}:(ao.vec e k (bf xs)).aN m=true:=Sl xs
def ark{m n:Nat}{T:U (Nat×AV)}{LP:ao}{next:U ao->Prop}{Q:Exit->St->Prop}{s:St}(b:U ao)(e:b.length=m)(f:b.all (ao.aN (m+1))=true)(d:jf (m+1) (s.h.take (m+1))/\mZ s [] (m+1) [] []=some ⟨s.n,[],b++[LP]⟩)(i:next b):HL m n T LP next Q .normal s:=⟨b,e,f,⟨λh=>h.mZ d.1 d.2⟩,i⟩
def asp(k:Nat)(xs:U (U D))(b:(bE (wS w0).t k).gV=some xs)(h:yx (.sl xs)->GW P r N0 Q w0):GW P r N0 Q w0:=by
 constructor
 unfold wq;split;{next c K s l=>exact rY k xs b λd=>(h d).run};{trivial}
def agb(b i:Nat)(xs:U (U D))(d:(((wS w0).h[b]?).bind λB=>match B with| .cells cs=>(cs[i]?).bind AV.gV|_=>none)=some xs)(h:yx (.sl xs)->GW P r N0 Q w0):GW P r N0 Q w0:=by
 constructor
 unfold wq;split;{next c K s l=>exact aoR b i xs d λe=>(h e).run};{trivial}
def adS(k e b:Nat)(xs:U (U D))(s:St):St:=⟨s.n,(k,.own s.h.length xs)::s.t,s.h++[.front e b xs.length]⟩
def Pu(b i e d:Nat)(xs:U (U D))(s:St):St:=match s.h[b]? with
 |some (.cells cs)=>⟨s.n,s.t,(s.h++[ao.front e d xs.length]).set b (ao.cells (cs.set i (AV.own s.h.length xs)))⟩
 |_=>s
def Qc(xs:U (U D)):AV->Bool
 | .d (.v (.slice none 0 0))=>xs.isEmpty
 |_=>false
def aww{xs:U (U D)}{x:AV}(h:Qc xs x=true):x= .d (.v (.slice none 0 0))/\xs=[]:=by
 unfold Qc at h;split at h;{exact⟨rfl,List.isEmpty_iff.1 h⟩};{cases h}
def qK(k e b:Nat)(xs:U (U D))(d:bE (wS w0).t k= .full xs\/Qc xs (bE (wS w0).t k)=true)(h:GW P r N0 Q (HE (adS k e b xs) w0)):GW P r N0 Q w0:=by
 constructor
 unfold wq;split;{next c K s l=>exact OW k e b xs (d.imp id aww) h.run};{trivial}
def AV.aen:AV->AV
 | .own _ xs=>.d (.sl xs)
 |x=>x
def AV.Le.jk(x:AV):AV.Le x x.aen:=λG w u h=>by
 cases h with
 |own n xs e b f i=>exact .d b
 |_=>first|exact .d (by assumption)|(constructor<;>assumption)
def UJ(b:Nat)(s:St):St:=match s.h[b]? with
 |some (.cells cs)=>⟨s.n,s.t,s.h.set b (ao.cells (cs.map AV.aen))⟩
 |_=>s
def aqX{c:Code}{s:St}{Q:Exit->St->Prop}(b:Nat)(h:bM P r N0 c Q (UJ b s)):bM P r N0 c Q s:=by
 unfold UJ at h;split at h
 ·next cs i=>
  constructor
  intro G w a n d p;obtain⟨z,B,F,T,q,J,v⟩:=d.inv.dN _ _ i;refine h.run G w a n ⟨d.size,d.tmp,QZ d.inv i (by rw[Zw]) λL M k j u c x e=> ?_,d.df⟩ p;rw[q]at k;cases k
  rw[Zm]at e;cases f:cs[j]? with
  |none=>rw[f]at e;cases e
  |some y=>rw[f]at e;cases e;exact AV.Le.jk y G w u (v j u y x f)
 ·exact h
def aom(b:Nat)(h:GW P r N0 Q (HE (UJ b) w0)):GW P r N0 Q w0:=by
 constructor
 unfold wq;split;{next c K s l=>exact aqX b h.run};{trivial}
def Qb(b i:Nat)(s:St):AV:=match s.h[b]? with
 |some (.cells cs)=>(cs[i]?).getD .dead
 |_=>.dead
def ahP{b i:Nat}{s:St}{x:AV}(h:Qb b i s=x)(d:x≠ .dead):∃cs,s.h[b]?=some (.cells cs)/\cs[i]?=some x:=by
 unfold Qb at h;split at h
 ·next cs f=>
  refine⟨cs,f,?_⟩;cases e:cs[i]? with
  |none=>rw[e]at h;exact absurd h.symm d
  |some y=>rw[e]at h;rw[<-h];rfl
 ·exact absurd h.symm d
def MY(b i e p:Nat)(xs:U (U D))(f:Qb b i (wS w0)= .full xs\/Qc xs (Qb b i (wS w0))=true)(h:GW P r N0 Q (HE (Pu b i e p xs) w0)):GW P r N0 Q w0:=by
 constructor
 unfold wq;split
 ·next c K s l=>
  have d:bM P r N0 c (iS P r N0 Q K) (Pu b i e p xs s):=h.run;rcases f with f|f
  ·obtain⟨cs,k,q⟩:=ahP f (λh=>by cases h);unfold Pu at d;rw[show s.h[b]?=some (.cells cs)from k]at d;exact E1 b i e p xs k (.inl q) d
  ·obtain⟨u,rfl⟩:=aww f;obtain⟨cs,k,q⟩:=ahP u (λh=>by cases h);unfold Pu at d;rw[show s.h[b]?=some (.cells cs)from k]at d;exact E1 b i e p [] k (.inr ⟨q,rfl⟩) d
 ·trivial
end
def bc{α:Type}{c:Bool}{a b x:α}{G:Prop}(h:(bif c then a else b)=x)(t:c=true->a=x->G)(f:c=false->b=x->G):G:=by
 cases c with
 |true=>exact t rfl h
 |false=>exact f rfl h
def sj{α:Type}{a b:α}(h:some a=some b):a=b:=Zl h
def kA{α:Type}{c:Bool}{x:O α}{r:α}(h:(bif c then x else none)=some r):c=true/\x=some r:=by
 cases c with
 |true=>exact⟨rfl,h⟩
 |false=>cases h
def DR(fn:Func)(args:U AV)(h:U ao):WO:=some (.at (fn.body.getD .skip) [] {n:=args.length+(fn.ntmps-args.length),t:=nh 0 args,h:=h},[])
def atx{P:eG}{f:FuncId}{fn:Func}{args:U AV}{R:AV}(d:P.funcs[f]?=some fn)(e:fn.body.isSome=true)(i:(fn.name== "runtime.NumGoroutine")=false)
 (k:GW P none 0 (mq P fn R) (DR fn args [])):gq P f args (·=R):=by
 obtain⟨c,b⟩:=c7.1 e;refine qZ d b i ?_;have:fn.body.getD .skip=c:=by rw[b];rfl
 rw[<-this];exact k.run
def auI{P:eG}{f:FuncId}{fn:Func}{args:U AV}{h H:U ao}{R:AV}(m:Nat)(d:P.funcs[f]?=some fn)(e:fn.body.isSome=true)(i:(fn.name== "runtime.NumGoroutine")=false)(k:h.length<=m)
 (p:GW P none h.length (wL P fn m R H) (DR fn args h)):da P f args h λq h1=>q=R/\h1=H:=by
 obtain⟨c,b⟩:=c7.1 e;refine sJ m d b i k ?_;have:fn.body.getD .skip=c:=by rw[b];rfl
 rw[<-this];exact p.run
section Dp
variable {P:eG}
def oL{α:Type}{f:U α->U (U D)}(l:U α)(h:(f l).length=l.length):Ob P:=⟨_,_,.len h⟩
def oE{xs:U (U D)}{k:Nat}{c:U D}(h:xs[k]?=some c):Ob P:=⟨_,_,.el (xs:=xs) (i:=(k:Int)) (Int.natCast_nonneg _) h⟩
def oq{a b:AV}(h:a=b):Ob P:=⟨_,_,.eq h⟩
def os(ks:U Nat)(o:Ob P)(l:U (Nat×Ob P)):U (Nat×Ob P):=ks.foldr (λk t=>(k,o)::t) l
noncomputable def soI(x:Nat×Ob P)(l:U (Nat×Ob P)):U (Nat×Ob P):=List.rec [x] (λy t r=>bif Nat.ble x.1 y.1 then x::y::t else y::r) l
noncomputable def aak(l:U (Nat×Ob P)):U (Nat×Ob P):=l.foldr soI []
def tX{xs:U (U D)}{n:Nat}(e:xs.length=n)(h:yx (.sl xs)):n<=maxLen:=e▸KK h
end Dp
inductive fb(P:Program):TypeId->List D->Prop
 |bool {t:TypeId} (b:Bool) (h:P.underlying t=some .bool):fb P t [.v (.bool b)]
 |int {t:TypeId} {k:IntKind} (n:Int) (h:P.underlying t=some (.int k)) (w:(Lit.int k n).wf=true):fb P t [.v (.int k n)]
 |str {t:TypeId} (s:ByteArray) (h:P.underlying t=some .string) (w:s.size<=maxLen):fb P t [.v (.string s)]
 |sl {t e:TypeId} (xs:List (List D)) (h:P.underlying t=some (.slice e)) (w:xs.length<=140737488355328) (hx:∀x∈xs,fb P e x):fb P t [.sl xs]
 |struct {t:TypeId} {fs:Array Field} (parts:List (List D)) (h:P.underlying t=some (.struct fs)) (hl:parts.length=fs.size) (hx:∀(i:Nat)(f:Field)(x:List D),fs[i]?=some f->parts[i]?=some x->fb P f.type x):fb P t parts.flatten
section
variable {P:eG} {t:TypeId} {xs:U D}
def fb.amN(h:fb P t xs)(d:P.underlying t=some .bool):∃b,xs=[.v (.bool b)]:=by
 cases h with
 |bool b h=>exact⟨b,rfl⟩
 |int n h=>rw[d]at h;cases h
 |str s h=>rw[d]at h;cases h
 |sl l h=>rw[d]at h;cases h
 |struct p h=>rw[d]at h;cases h
def fb.pI{k:IntKind}(h:fb P t xs)(d:P.underlying t=some (.int k)):∃n,xs=[.v (.int k n)]/\k.min<=n/\n<=k.max:=by
 cases h with
 |bool b h=>rw[d]at h;cases h
 |int n h w=>
  rw[d]at h;cases h;unfold Lit.wf at w;simp only[Zo,UL]at w;exact⟨n,rfl,w⟩
 |str s h=>rw[d]at h;cases h
 |sl l h=>rw[d]at h;cases h
 |struct p h=>rw[d]at h;cases h
def fb.vo(h:fb P t xs)(d:P.underlying t=some .string):∃s,xs=[.v (.string s)]/\s.size<=maxLen:=by
 cases h with
 |bool b h=>rw[d]at h;cases h
 |int n h=>rw[d]at h;cases h
 |str s h w=>exact⟨s,rfl,w⟩
 |sl l h=>rw[d]at h;cases h
 |struct p h=>rw[d]at h;cases h
def fb.qa{e:TypeId}(h:fb P t xs)(d:P.underlying t=some (.slice e)):∃l,xs=[.sl l]/\l.length<=140737488355328/\∀x∈l,fb P e x:=by
 cases h with
 |bool b h=>rw[d]at h;cases h
 |int n h=>rw[d]at h;cases h
 |str s h=>rw[d]at h;cases h
 |sl l h w f=>rw[d]at h;cases h;exact⟨l,rfl,w,f⟩
 |struct p h=>rw[d]at h;cases h
def fb.oJ{e:Array Field}(h:fb P t xs)(d:P.underlying t=some (.struct e)):∃parts:U (U D),xs=parts.flatten/\parts.length=e.size/\∀(i:Nat)(f:Field)(x:U D),e[i]?=some f->parts[i]?=some x->fb P f.type x:=by
 cases h with
 |bool b h=>rw[d]at h;cases h
 |int n h=>rw[d]at h;cases h
 |str s h=>rw[d]at h;cases h
 |sl l h=>rw[d]at h;cases h
 |struct p h k q=>rw[d]at h;cases h;exact⟨p,rfl,k,q⟩
def pj{α:Type}{f:α->U D}{Q:α->Prop}:∀l:U (U D),(∀x∈l,∃a,x=f a/\Q a)->∃r:U α,l=r.map f/\∀a∈r,Q a
 |[],_=>⟨[],rfl,λ_ h=>by cases h⟩
 |x::l,h=>by
  obtain⟨a,rfl,e⟩:=h x Zt;obtain⟨r,rfl,i⟩:=pj l λy k=>h y (Zk _ k);refine⟨a::r,rfl,λb d=> ?_⟩;rcases Za.1 d with rfl|d
  ·exact e
  ·exact i b d
end
def Ty(P:eG)(S:U TypeId):Bool:=S.all λt=>match P.underlying t with
 |some .bool|some (.int _)|some .string=>true
 |some (.slice e)=>S.contains e&&(decide (0<P.cellsOf e)&&decide (0<P.bytesOf e))
 |some (.struct b)=>P.consecB b.toList 0 (P.cellsOf t)&&b.toList.all λf=>S.contains f.type
 |_=>false
def kT(S:Nat->Nat->Prop)(w:Zy)(cs:U oZ)(xs:U D):Prop:=xs.length=cs.length/\∀(i:Nat)(u:oZ)(x:D),cs[i]?=some u->xs[i]?=some x->dR S w u x/\u.oneCell'=true
def kT.nil{S:Nat->Nat->Prop}{w:Zy}:kT S w [] []:=⟨rfl,λi u x h=>by simp at h⟩
def kT.one{S:Nat->Nat->Prop}{w:Zy}{u:oZ}{x:D}(h:dR S w u x)(h1:u.oneCell'=true):kT S w [u] [x]:=⟨rfl,λi v y b d=>by
 cases i with
 |zero=>cases b;cases d;exact⟨h,h1⟩
 |succ i=>simp at b⟩
def kT.app{S:Nat->Nat->Prop}{w:Zy}{a b:U oZ}{x y:U D}(h:kT S w a x)(k:kT S w b y):kT S w (a++b) (x++y):=by
 refine⟨by simp [h.1,k.1],λi u z d e=> ?_⟩;by_cases f:i<a.length;{rw[ZT f]at d;rw[ZT (by rw[h.1];exact f)]at e;exact h.2 i u z d e};{rw[ZK k7]at d;rw[ZK (by rw[h.1];omega),h.1]at e;exact k.2 _ u z d e}
def ae5{α:Type}{Q:Nat->α->Prop}:∀n:Nat,(∀i,i<n->∃x,Q i x)->∃l:U α,l.length=n/\∀i x,l[i]?=some x->Q i x
 |0,_=>⟨[],rfl,λi x h=>by simp at h⟩
 |n+1,h=>by
  obtain⟨l,f,k⟩:=ae5 n λi d=>h i k7;obtain⟨x,p⟩:=h n k7;refine⟨l++[x],by simp [f],λi y b=> ?_⟩;by_cases d:i<l.length
  ·rw[ZT d]at b;exact k i y b
  ·rw[ZK k7]at b;have:i-l.length=0:=by
     by_cases e:i-l.length=0;{exact e};{rw[Z1 (by simp;omega)]at b;cases b}
   rw[this]at b;cases b;have:i=n:=by omega
   rw[this];exact p
def aio{a:Addr}(h:a.spot=none)(n:Nat):a.add n=⟨a.block,a.off+n,none⟩:=by
 unfold Addr.add;split;{next e=>subst e;cases a;simp only at h;subst h;rfl};{rfl}
section
variable {H:Type} {enc:TypeId×oZ->H} {P:eG} {W:Zy} {Ts:U TypeId}
abbrev ug(W:Zy):Nat->Nat->Prop:=λb _=>b<W.heap.size
def ajd{S:Nat->Nat->Prop}{w:Zy}:dR S w (.slice none 0 0) (.sl []):=
 .sl none 0 0 0 0 [] (λ_ _=>undef) (λh=>absurd rfl h) (Zx _) gj (λ_ h=>by cases h) (λi j b=>by simp at b) (λi j x d e=>by simp at e)
def afz{e:TypeId}:∀{l:U (DataW H)}{d:DataW H},d∈l->∀n∈d.weights P e,n∈DataW.weightsAll P e l
 |[],_,h,_,_=>by cases h
 |x::l,d,h,n,b=>by
  simp only[DataW.weightsAll,ZM];rcases Za.1 h with rfl|h
  ·exact .inl b
  ·exact .inr (afz h n b)
def awv{b:Nat}(M:∀(t:TypeId)(cs:U oZ)(d:DataW H)(u:U MemPlace),t∈Ts->(∀n∈d.weights P t,n<=reachBytes)->DataW.trod enc P W 0 (λ_=>true) true b t cs=some (d,u)->∃xs,fb P t xs/\kT (ug W) W cs xs)(cs:U oZ):
 ∀(e:U Field)(off:Nat)(ys:U (DataW H×U MemPlace)),P.consecB e off cs.length=true->(∀f∈e,f.type∈Ts)->(∀n∈DataW.weightsEach P (e.map (·.type)) (ys.map (·.1)),n<=reachBytes)->
  e.mapM (λf=>DataW.trod enc P W 0 (λ_=>true) true b f.type ((cs.drop f.offset).take (P.cellsOf f.type)))=some ys->
  ∃parts:U (U D),parts.length=e.length/\(∀(i:Nat)(f:Field)(x:U D),e[i]?=some f->parts[i]?=some x->fb P f.type x)/\kT (ug W) W (cs.drop off) parts.flatten
 |[],off,ys,k,_,_,_=>by
  simp only[Program.consecB,TC]at k;refine⟨[],rfl,λi f x h=>by simp at h,?_⟩;rw[List.drop_eq_nil_iff.2 k7];exact kT.nil
 |f::e,off,ys,k,N,F,v=>by
  simp only[Program.consecB,Zo,TC]at k;obtain⟨WT,k⟩:=k;rw[List.mapM_cons]at v;cases z:DataW.trod enc P W 0 (λ_=>true) true b f.type ((cs.drop f.offset).take (P.cellsOf f.type))with
  |none=>simp [z]at v
  |some p=>
   cases J:e.mapM (λf=>DataW.trod enc P W 0 (λ_=>true) true b f.type ((cs.drop f.offset).take (P.cellsOf f.type)))with
   |none=>simp [z,J]at v
   |some u=>
    obtain⟨d,q⟩:=p;obtain rfl:(d,q)::u=ys:=by simpa [z,J]using v
    simp only[ZY,DataW.weightsEach,ZM]at F;obtain⟨x,h1,R⟩:=M f.type _ d q (N f Zt) (λn L=>F n (.inl L)) z;obtain⟨parts,k1,k2,k3⟩:=awv M cs e (off+P.cellsOf f.type) u k (λg B=>N g (Zk _ B)) (λn L=>F n (.inr L)) J;refine⟨x::parts,by simp [k1],λi g y B hy=> ?_,?_⟩
    ·cases i with
     |zero=>cases B;cases hy;exact h1
     |succ i=>exact k2 i g y (by simpa using B) (by simpa using hy)
    ·rw[List.flatten_cons];rw[WT]at R;have:=R.app k3
     rwa [take_drop_step]at this
def aaJ(hT:Ty P Ts=true):∀(q:Nat)(t:TypeId)(cs:U oZ)(d:DataW H)(ps:U MemPlace),t∈Ts->(∀n∈d.weights P t,n<=reachBytes)->DataW.trod enc P W 0 (λ_=>true) true q t cs=some (d,ps)->∃xs,fb P t xs/\kT (ug W) W cs xs
 |0,t,cs,d,ps,_,_,h=>by simp [DataW.trod]at h
 |q+1,t,cs,d,ps,ht,vw,h=>by
  have IH:=aaJ hT q;have p:=Zc.1 hT t ht;unfold DataW.trod at h;split at h;{next b e=>exact⟨_,.bool b e,kT.one (.v _) rfl⟩}
  ·next k k' n e=>
   split at h;{next hk=>obtain⟨rfl,hw⟩:=hk;exact⟨_,.int n e hw,kT.one (.v _) rfl⟩};{cases h}
  ·next e=>rw[e]at p;cases p
  ·next s e=>
   split at h;{next hw=>exact⟨_,.str s e hw,kT.one (.v _) rfl⟩};{cases h}
  ·next e=>rw[e]at p;cases p
  ·next e=>rw[e]at p;cases p
  ·next e J=>exact⟨_,.sl [] J (Wl _) (λx z=>absurd z Yt),kT.one ajd rfl⟩
  ·next e a len cap J=>
   rw[J]at p;simp only[Zo,List.contains_iff_mem,UL]at p;obtain⟨hme,NJ,sw⟩:=p;simp only at h;split at h
   ·next hb=>
    obtain⟨_,mT,Ag⟩:=hb;rw[Option.bind_eq_some_iff]at h;obtain⟨elems,I3,kN⟩:=h;rw[Option.map_eq_some_iff]at kN;obtain⟨rest,_,kN⟩:=kN;cases kN
    simp only[DataW.weights,J,Za,ZM,Zw]at vw;have hlen:elems.length=len:=by simpa using mapM_some_length I3
    have hQ:∀i,i<len->∃x:U D,fb P e x/\∃M,W.cells? 0 (a.add (i*P.cellsOf e)) (P.cellsOf e)=some M/\kT (ug W) W M x:=λi R=>by
     have F:=mapM_some_get I3 i i (by simp [R]);rw[Zd k7,Option.bind_eq_some_iff]at F;obtain⟨M,N,L⟩:=F;obtain⟨x,h4,B⟩:=IH e M elems[i].1 elems[i].2 hme (λn hn=>vw n (.inr (.inl (afz (UZ.2 ⟨_,List.getElem_mem _,rfl⟩) n hn)))) L;exact⟨x,h4,M,N,B⟩
    obtain⟨xs,wg,hxq⟩:=ae5 len hQ;have hsp:xs≠ []->a.spot=none:=λcV=>by
     have h0:0<len:=by cases xs with|nil=>exact(cV rfl).elim|cons x l=>simp at wg;omega
     obtain⟨x,_,M,N,_⟩:=hQ 0 h0;obtain⟨_,L,h4⟩:=World.cells?_some N;have B:=h4 0 NJ;rw[Nat.zero_mul]at B;have e0:(a.add 0).add 0=a:=by simp [Addr.add]
     rw[e0,Zd k7]at B;unfold World.cell? at B;split at B
     ·split at B
      ·cases B
      ·next hn=>simpa using hn
     ·cases B
    have ia:∀i x,xs[i]?=some x->x.length=P.cellsOf e/\∀j,j<P.cellsOf e->∃u,W.cell? ⟨a.block,a.off+i*P.cellsOf e+j,none⟩=some u/\u.oneCell'=true/\∀d,x[j]?=some d->dR (ug W) W u d:=λi x z=>by
     obtain⟨_,M,N,L⟩:=hxq i x z;obtain⟨_,h4,B⟩:=World.cells?_some N;have hs:=hsp (λe=>by rw[e]at z;simp at z);refine⟨L.1.trans h4,λj hj=> ?_⟩;have h6:=B j hj;rw[aio hs,aio rfl,Zd k7]at h6;have hjx:j<x.length:=by rw[L.1,h4];exact hj
     have hd:x[j]?=some x[j]:=Zd hjx;have h7:=L.2 j _ _ (Zd k7) hd;exact⟨_,h6,h7.2,λd fA=>by rw[hd]at fA;cases fA;exact h7.1⟩
    have ar3:xs.length<=140737488355328:=by
     have F:=vw _ (.inl rfl);have N:(elems.length+rest.length)*1<=(elems.length+rest.length)*P.bytesOf e:=Nat.mul_le_mul_left _ sw;have L:reachBytes<=140737488355328:=by decide
     omega
    refine⟨[.sl xs],.sl xs J ar3 (λx z=> ?_),kT.one ?_ rfl⟩;{obtain⟨i,R,rfl⟩:=ak.1 z;exact(hxq i _ (Zd R)).1}
    ·rw[<-wg];refine .sl (some a) a.block a.off cap (P.cellsOf e) xs (λi j=>(W.cell? ⟨a.block,a.off+i*P.cellsOf e+j,none⟩).getD undef) (λcV=> ?_) k7 Ag (λx z=> ?_) (λi j R hj=> ?_) λi j x d z hd=> ?_
     ·have:=hsp cV;cases a;simp only at this;subst this;rfl
     ·obtain⟨i,R,rfl⟩:=ak.1 z;exact(ia i _ (Zd R)).1
     ·obtain⟨u,F,N,_⟩:=(ia i _ (Zd R)).2 j hj;refine⟨World.block_lt_of_cell? W ⟨a.block,a.off+i*P.cellsOf e+j,none⟩ F,?_,?_⟩
      ·rw[F];rfl
      ·rw[F];exact N
     ·obtain⟨hl,hc⟩:=ia i x z;obtain⟨u,F,_,L⟩:=hc j (by rw[<-hl];exact(Zj.1 hd).1);simp only[F,Option.getD_some];exact L d hd
   ·cases h
  ·next M fs J=>
   rw[J]at p;simp only[Zo,Zc,List.contains_iff_mem]at p;split at h
   ·next hl=>
    rw[Option.map_eq_some_iff]at h;obtain⟨ys,hm,kN⟩:=h;cases kN
    simp only[DataW.weights,J]at vw;obtain⟨parts,k1,k2,k3⟩:=awv IH _ fs.toList 0 ys (by rw[hl];exact p.1) p.2 vw hm;exact⟨_,.struct parts J (by simpa using k1) (λi f x hf=>k2 i f x (by simpa using hf)),by simpa using k3⟩
   ·cases h
  all_goals first|(cases h;done)|(exfalso;revert p;(next e=>rw[e];intro h0;cases h0))
def Qy{t:TypeId}{v:oZ}{d:DataW H}{e:U MemPlace}(f:Ty P Ts=true)(i:t∈Ts)(k:∀n∈d.weights P t,n<=reachBytes)(h:DataW.Trod enc P W 0 (λ_=>true) true t v d e):∃xs,fb P t xs/\kT (ug W) W v.cells.toList xs:=
 let ⟨b,h⟩:=h
 aaJ f b t _ d e i k h
def avp{t:TypeId}{b:Array Field}{v:oZ}{r:Reach}{base:Nat}(d:P.underlying t=some (.struct b))(h:Value.okWide P W r base t v):∃cs,v= .agg cs:=by
 unfold Value.okWide at h;rw[d]at h;obtain⟨cs,rfl,_⟩:=h;exact⟨cs,rfl⟩
def aqe{G:Gh}(f:G.S=ug W){cs:Array oZ}{xs:U D}(h:kT (ug W) W cs.toList xs):aM G W (.agg cs) (.agg (xs.map .d)):=by
 refine .agg cs _ (by rw[Zw,h.1,Z9]) λi u c k b=> ?_;rw[Zm]at b;cases e:xs[i]? with
 |none=>rw[e]at b;cases b
 |some x=>
  rw[e]at b;cases b
  exact .d (f▸(h.2 i u x (by rw[ZL];exact k) e).1)
def aew{G:Gh}(b:G.S=ug W){v:oZ}{x:D}(h:kT (ug W) W #[v].toList [x]):aM G W v (.d x):= .d (b▸(h.2 0 v x rfl rfl).1)
end
end Go.Proofs.YtjploedinjiflaaGreatDoor
