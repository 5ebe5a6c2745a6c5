/-
  Part 3 of the proof: AbsFrz, AbsInst, AbsExec, AbsExecV, AbsRange, AbsAny, AbsExec2, AbsExec3, AbsYield, AbsTree, AbsVecX, MemK, AbsVecD, AbsWk, AbsMapR, OpenD.
-/
import Derived.Test.YtmkmibahjanejaaGreatDoorPp2
import Derived.WalkKit
import Derived.Laws.CopyOwn
import Derived.Deep.AppendLies
import Derived.Lib.AppendZerosOnto
import Derived.Lib.Overlaps
import Derived.Lib.Hide
import Derived.ProofKit
import Derived.DataOpen
import Derived.SizedLaws
namespace Go.Proofs.YtmkmibahjanejaaGreatDoor
open Go.RowKit
mutual
def J.dJ(b:Nat)(ds:agK D):J->J
 | .ptr n off=>bif n==b then .aY [ds] 0 off else .ptr n off
 | .agg cs=> .agg (J.rJ b ds cs)
 | .bp cs=> .bp (J.rJ b ds cs)
 | .fn f cs=> .fn f (J.rJ b ds cs)
 |x=>x
def J.rJ(b:Nat)(ds:agK D):agK J->agK J
 |[]=>[]
 |x::l=>x.dJ b ds::J.rJ b ds l
end
theorem yW(b:Nat)(ds:agK D):∀l,J.rJ b ds l=l.map (J.dJ b ds)
 |[]=>by simp [J.rJ]
 |x::l=>by simp [J.rJ,yW b ds l]
def aj.dJ(b:Nat)(ds:agK D):aj->aj
 | .cells cs=> .cells (cs.map (J.dJ b ds))
 | .lp ls p as bd cs=> .lp ls p as bd (cs.map (J.dJ b ds))
 | .it sn cs=> .it sn (cs.map (J.dJ b ds))
 | .vec e k cs=> .vec e k (cs.map (·.map (J.dJ b ds)))
 |B=>B
def AM(s:St)(b:Nat):agM St:=
 match s.h[b]? with
 |some (.cells cs)=>match lv cs with
  |some ds=>some ⟨s.n,s.t.map λp=>(p.1,p.2.dJ b ds),(s.h.map (aj.dJ b ds)).set b .gone⟩
  |none=>none
 |_=>none
theorem E8(f:J->J)(hf:f .dead= .dead):∀(t:agK (Nat×J))(i:Nat),aQ (t.map λp=>(p.1,f p.2)) i=f (aQ t i)
 |[],i=>by simp [aQ,hf]
 |(k,x)::l,i=>by
  simp only[agl,kF,E8 f hf l i];split<;>rfl
theorem ax.dJ{G G':Gh}{w:agP}{b:Nat}{ds:agK D}(hE:a7 G.N G w G' w)(hN:G'.N=G.N)(hp:∀off,ax G' w (.pointer (some ⟨G.aF b,off,none⟩)) (.aY [ds] 0 off)){u:agO}{x:J}(h:ax G w u x):ax G' w u (x.dJ b ds):=by
 have aG:∀{u:agO}{x:J},ax G w u x->ax G' w u x:=λh=>h.aG hE (Nat.le_of_eq hN.symm);have eP:∀(vs:Array agO)(cs:agK J),(∀(i:Nat)(u:agO)(c:J),vs[i]?=some u->cs[i]?=some c->ax G' w u (c.dJ b ds))->∀(i:Nat)(u:agO)(c:J),vs[i]?=some u->(J.rJ b ds cs)[i]?=some c->ax G' w u c:=by
  intro vs cs ih i u c hu hc;rw[yW,af2]at hc;cases hx:cs[i]? with
  |none=>rw[hx]at hc;cases hc
  |some x=>rw[hx]at hc;cases hc;exact ih i u x hu hx
 induction h with
 |agg vs cs hl _ ih=>rw[J.dJ];exact .agg vs _ (by rw[yW,af0];exact hl) (eP vs cs ih)
 |bp vs cs hl _ ih=>rw[J.dJ];exact .bp vs _ (by rw[yW,af0];exact hl) (eP vs cs ih)
 |fn f vs cs hl _ ih=>rw[J.dJ];exact .fn f vs _ (by rw[yW,af0];exact hl) (eP vs cs ih)
 |ptr n off h=>
  rw[J.dJ,cond_eq_ite];split
  ·next e=>rw[beq_iff_eq]at e;subst e;exact hp off
  ·exact aG (.ptr n off h)
 |own n xs h hp hle hf=>simp only[J.dJ];exact aG (.own n xs h hp hle hf)
 |d h=>simp only[J.dJ];exact aG (.d h)
 |aY xs i off b o u x hx hS hu=>simp only[J.dJ];exact aG (.aY xs i off b o u x hx hS hu)
 |full xs hp hf=>simp only[J.dJ];exact aG (.full xs hp hf)
 |row n off len cap k h hl hm=>simp only[J.dJ];exact aG (.row n off len cap k h hl hm)
 |mp n h=>simp only[J.dJ];exact aG (.mp n h)
 |cm n h=>simp only[J.dJ];exact aG (.cm n h)
 |vec n o len L k h hs hL hf=>simp only[J.dJ];exact aG (.vec n o len L k h hs hL hf)
 |cz n i j L k h hs hL hf=>simp only[J.dJ];exact aG (.cz n i j L k h hs hL hf)
 |hid h h1=>simp only[J.dJ];exact aG (.hid h h1)
 |dead u=>simp only[J.dJ];exact .dead u
theorem Q1:∀(cs:agK J)(ds:agK D),lv cs=some ds->cs.length=ds.length/\∀(i:Nat)(c:J)(d:D),cs[i]?=some c->ds[i]?=some d->c.s4=some d
 |[],ds,h=>by unfold lv at h;cases h;exact⟨rfl,λi c d hc=>by simp at hc⟩
 |x::cs,ds,h=>by
  unfold lv at h;split at h
  ·next d l e1 e2=>
   cases h
   obtain⟨h1,h2⟩:=Q1 cs l e2;refine⟨by simp [h1],λi c d' hc hd=> ?_⟩
   match i with
   |0=>simp only[List.getElem?_cons_zero,Option.some.injEq]at hc hd;subst hc;subst hd;exact e1
   |i+1=>exact h2 i c d' (by simpa using hc) (by simpa using hd)
  ·cases h
theorem ax.aeR{G:Gh}{w:agP}{u:agO}{x:J}{d:D}(h:ax G w u x)(hd:x.s4=some d):cx G.S w u d:=by
 cases h with
 |d h=>cases hd;exact h.vj
 |own n xs h hp=>cases hd;exact hp
 |full xs hp=>cases hd;exact hp
 |_=>cases hd
theorem bU.AM{G:Gh}{w:agP}{a:Act}{s s':St}{b:Nat}(hs:bU G w a s)(h:AM s b=some s'):∃G',a7 G.N G w G' w/\G'.N=G.N/\bU G' w a s':=by
 unfold Go.Proofs.YtmkmibahjanejaaGreatDoor.AM at h;split at h
 ·next cs hb=>
  split at h
  ·next ds oz=>
   cases h
   obtain⟨z1,z2,vs,T,z3,z4,z5⟩:=hs.inv.b6 b _ hb;obtain⟨d1,d2⟩:=Q1 cs ds oz;have kT:bj s.h G b=some (G.aF b):=cJ hb;obtain⟨S,hS⟩:∃S:Nat->Nat->Prop,S=λb' o=>G.S b' o\/(b'=G.aF b/\o<ds.length):=⟨_,rfl⟩;have hE:a7 G.N G w {G with S:=S} w:=⟨af6 _,λb o h=>by show S b o;rw[hS];exact .inl h,λ_ _ _=>rfl,λ_ _=>rfl,λ_ _=> .inl ⟨rfl,rfl⟩,fi rfl,λ_ _=>rfl,rfl,rfl,rfl,λb' o hs=>by
    have bR:S b' o:=hs;rw[hS]at bR;rcases bR with h|⟨rfl,_⟩
    ·exact .inl h
    ·exact .inr z1⟩
   have hp:∀off,ax {G with S:=S} w (.pointer (some ⟨G.aF b,off,none⟩)) (.aY [ds] 0 off):=λoff=>by
    have:=ax.aY (G:={G with S:=S}) (w:=w) [ds] 0 off (G.aF b) 0 (λj=>vs.getD j undef) ds rfl (λj hj=> ?_) (λj d hd=> ?_)
    ·rwa [agf]at this
    ·have fI:j<vs.size:=by rw[z4,d1];exact hj
     refine⟨by show S _ _;rw[hS];exact .inr ⟨rfl,by rw[agf];exact hj⟩,?_⟩;rw[agf,cell_of_row w (G.aF b) j vs T (0,0) z3];simp [Array.getD,fI]
    ·have hj:j<ds.length:=(afV.1 hd).1;have fI:j<vs.size:=by rw[z4,d1];exact hj
     have hc:cs[j]?=some cs[j]:=afZ (by rw[d1];exact hj);have hv:=z5 j vs[j] _ (agi fI) hc;have e:vs.getD j undef=vs[j]:=by simp [Array.getD,fI]
     rw[e];exact(hv.aeR (d2 j _ d hc hd)).aG hE.S hE.cell
   have hv:∀{u:agO}{x:J},ax G w u x->ax {G with S:=S} w u (x.dJ b ds):=λh=>h.dJ hE rfl hp;have Uc:=(afV.1 hb).1;have dt:∀(n:Nat)(B:aj),((s.h.map (aj.dJ b ds)).set b .gone)[n]?=some B->(n=b/\B= .gone)\/(n≠b/\∃B',s.h[n]?=some B'/\B=B'.dJ b ds):=λn B hB=>by
    by_cases e:b=n
    ·subst e;rw[agp (by rw[af0];exact Uc)]at hB;cases hB;exact .inl ⟨rfl,rfl⟩
    ·rw[agu e,af2]at hB;cases hx:s.h[n]? with
     |none=>rw[hx]at hB;cases hB
     |some B'=>rw[hx]at hB;cases hB;exact .inr ⟨λh=>e h.symm,B',rfl,rfl⟩
   have db:∀n x,bj ((s.h.map (aj.dJ b ds)).set b .gone) {G with S:=S} n=some x->n≠b/\bj s.h G n=some x:=λn x hx=>by
    obtain⟨B,hn,hx⟩:=ly hx;rcases dt n _ hn with⟨_,e⟩|⟨bQ,B',h1,rfl⟩
    ·subst e;cases hx
    ·refine⟨bQ,?_⟩;rw[cJ h1,<-hx];cases B'<;>rfl
   refine⟨{G with S:=S},hE,rfl,hs.size,λi=> ?_,⟨by rw[List.length_set,af0];exact hs.inv.len,hs.inv.z,λb' o h=> ?_,λn B hB=> ?_,λm n x h1 h2=>hs.inv.inj m n x (db m x h1).2 (db n x h2).2,hs.inv.gl.aG hE⟩,hs.df⟩
   ·show ax _ _ _ (aQ (s.t.map λp=>(p.1,p.2.dJ b ds)) i);rw[E8 (J.dJ b ds) (by simp [J.dJ])];exact hv (hs.tmp i)
   ·have bR:S b' o:=h;rw[hS]at bR;rcases bR with h|⟨rfl,_⟩
    ·exact hs.inv.S b' o h
    ·exact(aga.1 z3).1
   ·rcases dt n B hB with⟨rfl,rfl⟩|⟨bQ,B',h1,rfl⟩
    ·trivial
    ·have c8:=hs.inv.b6 n B' h1;cases B' with
     |gone=>trivial
     |map kv=>exact cX.aG (G':={G with S:=S}) (hs.inv.lt h1) hE (af6 _) ⟨rfl,rfl,rfl⟩ (λc hc=>⟨rfl,λo iC hq=>by
      have bR:S c o:=hq;rw[hS]at bR;rcases bR with h|⟨e,_⟩
      ·exact iC h
      ·exact bQ (hs.inv.inj n b _ ((cJ h1).trans hc) (by rw[e];exact kT))⟩) c8
     |eE kv=>exact cX.aG (G':={G with S:=S}) (hs.inv.lt h1) hE (af6 _) ⟨rfl,rfl,rfl⟩ (λc hc=>⟨rfl,λo iC hq=>by
      have bR:S c o:=hq;rw[hS]at bR;rcases bR with h|⟨e,_⟩
      ·exact iC h
      ·exact bQ (hs.inv.inj n b _ ((cJ h1).trans hc) (by rw[e];exact kT))⟩) c8
     |front e k len=>exact cX.aG (G':={G with S:=S}) (hs.inv.lt h1) hE (af6 _) ⟨rfl,rfl,rfl⟩ (λc hc=>⟨rfl,λo iC hq=>by
      have bR:S c o:=hq;rw[hS]at bR;rcases bR with h|⟨e,_⟩
      ·exact iC h
      ·exact bQ (hs.inv.inj n b _ ((cJ h1).trans hc) (by rw[e];exact kT))⟩) c8
     |cells bC=>
      obtain⟨c1,c2,eF,T',c3,c4,c5⟩:=c8;have kd:bj s.h G n=some (G.aF n):=cJ h1;refine⟨c1,λo hq=> ?_,eF,T',c3,by rw[af0];exact c4,λi u c hu hc=> ?_⟩
      ·have bR:S (G.aF n) o:=hq;rw[hS]at bR;rcases bR with h|⟨e,_⟩
       ·exact c2 o h
       ·exact bQ (hs.inv.inj n b _ kd (by rw[e];exact kT))
      ·rw[af2]at hc;cases hx:bC[i]? with
       |none=>rw[hx]at hc;cases hc
       |some x=>rw[hx]at hc;cases hc;exact hv (c5 i u x hu hx)
     |lp ls p as bd bC=>
      obtain⟨c1,c2,fn,eF,T',c3,c4,c5⟩:=c8;have kd:bj s.h G n=some (G.aF n):=cJ h1;refine⟨c1,λo hq=> ?_,fn,eF,T',c3,by rw[af0];exact c4,λi u c hu hc=> ?_⟩
      ·have bR:S (G.aF n) o:=hq;rw[hS]at bR;rcases bR with h|⟨e,_⟩
       ·exact c2 o h
       ·exact bQ (hs.inv.inj n b _ kd (by rw[e];exact kT))
      ·rw[af2]at hc;cases hx:bC[i]? with
       |none=>rw[hx]at hc;cases hc
       |some x=>rw[hx]at hc;cases hc;exact hv (c5 i u x hu hx)
     |it sn bC=>
      obtain⟨c1,c2,fn,eF,T',c3,c4,c5⟩:=c8;have kd:bj s.h G n=some (G.aF n):=cJ h1;refine⟨c1,λo hq=> ?_,fn,eF,T',c3,by rw[af0];exact c4,λi u c hu hc=> ?_⟩
      ·have bR:S (G.aF n) o:=hq;rw[hS]at bR;rcases bR with h|⟨e,_⟩
       ·exact c2 o h
       ·exact bQ (hs.inv.inj n b _ kd (by rw[e];exact kT))
      ·rw[af2]at hc;cases hx:bC[i]? with
       |none=>rw[hx]at hc;cases hc
       |some x=>rw[hx]at hc;cases hc;exact hv (c5 i u x hu hx)
     |vec e k bC=>
      obtain⟨c1,c2,c3,c4⟩:=c8;refine⟨by rw[af0];exact c1,by rw[af0];exact c2,λc hc=> ?_,?_⟩
      ·obtain⟨x,hx,rfl⟩:=List.mem_map.1 hc;rw[af0];exact c3 x hx
      ·rcases c4 with⟨d1,d2,A,d3⟩|⟨g,cap,cur,d1,d2,d3,d4,d5,d6,d7,d8,d9⟩
       ·exact .inl ⟨d1,by rw[d2];rfl,A,d3⟩
       ·have kd:bj s.h G n=some g:=(cJ h1).trans d1;refine .inr ⟨g,cap,cur,d1,by rw[af0];exact d2,d3,d4,by rw[af0];exact d5,d6,d7,λo hq=> ?_,λi j c x u hc hx hu=> ?_⟩
        ·have bR:S g o:=hq;rw[hS]at bR;rcases bR with h|⟨e,_⟩
         ·exact d8 o h
         ·exact bQ (hs.inv.inj n b _ kd (by rw[e];exact kT))
        ·rw[af2]at hc;cases hy:bC[i]? with
         |none=>rw[hy]at hc;cases hc
         |some y=>
          rw[hy]at hc;cases hc
          rw[af2]at hx;cases hw:y[j]? with
          |none=>rw[hw]at hx;cases hx
          |some z=>rw[hw]at hx;cases hx;exact hv (d9 i j y z u hy hw hu)
  ·cases h
 ·cases h
def D.wz:D->Bool
 | .v u=>u.oneCell'
 | .sl _=>true
mutual
def J.kill(b:Nat):J->J
 | .vec n o len L k=>bif n==b then .dead else .vec n o len L k
 | .cz n i j L k=>bif n==b then .dead else .cz n i j L k
 | .agg cs=> .agg (J.F5 b cs)
 | .bp cs=> .bp (J.F5 b cs)
 | .fn f cs=> .fn f (J.F5 b cs)
 |x=>x
def J.F5(b:Nat):agK J->agK J
 |[]=>[]
 |x::l=>x.kill b::J.F5 b l
end
def aj.nb(f:J->J):aj->aj
 | .cells cs=> .cells (cs.map f)
 | .lp ls p as bd cs=> .lp ls p as bd (cs.map f)
 | .it sn cs=> .it sn (cs.map f)
 | .vec e k cs=> .vec e k (cs.map (·.map f))
 |B=>B
theorem T3{G:Gh}{w:agP}{h:agK aj}(hi:bg G w h){b:Nat}{S:Nat->Nat->Prop}{f:J->J}(hE:a7 G.N G w {G with S:=S} w)(hS:∀c o,S c o->G.S c o\/bj h G b=some c)(hv:∀{u:agO}{x:J},ax G w u x->ax {G with S:=S} w u (f x)):
 bg {G with S:=S} w ((h.map (aj.nb f)).set b .gone):=by
 have dt:∀(n:Nat)(B:aj),((h.map (aj.nb f)).set b .gone)[n]?=some B->(n=b/\B= .gone)\/(n≠b/\∃B',h[n]?=some B'/\B=B'.nb f):=λn B hB=>by
  by_cases e:b=n
  ·subst e;have az:=(afV.1 hB).1;rw[List.length_set]at az;rw[agp az]at hB;cases hB;exact .inl ⟨rfl,rfl⟩
  ·rw[agu e,af2]at hB;cases hx:h[n]? with
   |none=>rw[hx]at hB;cases hB
   |some B'=>rw[hx]at hB;cases hB;exact .inr ⟨λh=>e h.symm,B',rfl,rfl⟩
 have db:∀n x,bj ((h.map (aj.nb f)).set b .gone) {G with S:=S} n=some x->n≠b/\bj h G n=some x:=λn x hx=>by
  obtain⟨B,hn,hx⟩:=ly hx;rcases dt n _ hn with⟨_,e⟩|⟨bQ,B',h1,rfl⟩
  ·subst e;cases hx
  ·refine⟨bQ,?_⟩;rw[cJ h1,<-hx];cases B'<;>rfl
 refine⟨by rw[List.length_set,af0];exact hi.len,hi.z,λc o hs=> ?_,λn B hB=> ?_,λm n x h1 h2=>hi.inj m n x (db m x h1).2 (db n x h2).2,hi.gl.aG hE⟩
 ·rcases hS c o hs with h1|h1
  ·exact hi.S c o h1
  ·exact hi.fR h1
 ·rcases dt n B hB with⟨rfl,rfl⟩|⟨bQ,B',h1,rfl⟩
  ·trivial
  ·have c8:=hi.b6 n B' h1;have eo:∀c,B'.cS G n=some c->∀o,¬G.S c o->¬S c o:=λc hc o iC hq=>by
    rcases hS c o hq with h2|h2
    ·exact iC h2
    ·exact bQ (hi.inj n b c ((cJ h1).trans hc) h2)
   cases B' with
   |gone=>trivial
   |map kv=>exact cX.aG (G':={G with S:=S}) (hi.lt h1) hE (af6 _) ⟨rfl,rfl,rfl⟩ (λc hc=>⟨rfl,eo c hc⟩) c8
   |eE kv=>exact cX.aG (G':={G with S:=S}) (hi.lt h1) hE (af6 _) ⟨rfl,rfl,rfl⟩ (λc hc=>⟨rfl,eo c hc⟩) c8
   |front e k len=>exact cX.aG (G':={G with S:=S}) (hi.lt h1) hE (af6 _) ⟨rfl,rfl,rfl⟩ (λc hc=>⟨rfl,eo c hc⟩) c8
   |cells bC=>
    obtain⟨c1,c2,eF,T',c3,c4,c5⟩:=c8;refine⟨c1,λo=>eo _ rfl o (c2 o),eF,T',c3,by rw[af0];exact c4,λi u c hu hc=> ?_⟩;rw[af2]at hc;cases hx:bC[i]? with
    |none=>rw[hx]at hc;cases hc
    |some x=>rw[hx]at hc;cases hc;exact hv (c5 i u x hu hx)
   |lp ls p as bd bC=>
    obtain⟨c1,c2,fn,eF,T',c3,c4,c5⟩:=c8;refine⟨c1,λo=>eo _ rfl o (c2 o),fn,eF,T',c3,by rw[af0];exact c4,λi u c hu hc=> ?_⟩;rw[af2]at hc;cases hx:bC[i]? with
    |none=>rw[hx]at hc;cases hc
    |some x=>rw[hx]at hc;cases hc;exact hv (c5 i u x hu hx)
   |it sn bC=>
    obtain⟨c1,c2,fn,eF,T',c3,c4,c5⟩:=c8;refine⟨c1,λo=>eo _ rfl o (c2 o),fn,eF,T',c3,by rw[af0];exact c4,λi u c hu hc=> ?_⟩;rw[af2]at hc;cases hx:bC[i]? with
    |none=>rw[hx]at hc;cases hc
    |some x=>rw[hx]at hc;cases hc;exact hv (c5 i u x hu hx)
   |vec e k bC=>
    obtain⟨c1,c2,c3,c4⟩:=c8;refine⟨by rw[af0];exact c1,by rw[af0];exact c2,λc hc=> ?_,?_⟩
    ·obtain⟨x,hx,rfl⟩:=List.mem_map.1 hc;rw[af0];exact c3 x hx
    ·rcases c4 with⟨d1,d2,A,d3⟩|⟨g,cap,cur,d1,d2,d3,d4,d5,d6,d7,d8,d9⟩
     ·exact .inl ⟨d1,by rw[d2];rfl,A,d3⟩
     ·refine .inr ⟨g,cap,cur,d1,by rw[af0];exact d2,d3,d4,by rw[af0];exact d5,d6,d7,λo=>eo g d1 o (d8 o),λi j c x u hc hx hu=> ?_⟩;rw[af2]at hc;cases hy:bC[i]? with
      |none=>rw[hy]at hc;cases hc
      |some y=>
       rw[hy]at hc;cases hc
       rw[af2]at hx;cases hw:y[j]? with
       |none=>rw[hw]at hx;cases hx
       |some z=>rw[hw]at hx;cases hx;exact hv (d9 i j y z u hy hw hu)
mutual
def J.cM(b kk:Nat)(xs:agK (agK D)):J->J
 | .vec n o len L k=>bif n==b then(bif L==xs.length&&k==kk then .d (.sl ((xs.drop o).take len))else .dead)else .vec n o len L k
 | .cz n i j L k=>bif n==b then .dead else .cz n i j L k
 | .agg cs=> .agg (J.mQ b kk xs cs)
 | .bp cs=> .bp (J.mQ b kk xs cs)
 | .fn f cs=> .fn f (J.mQ b kk xs cs)
 |x=>x
def J.mQ(b kk:Nat)(xs:agK (agK D)):agK J->agK J
 |[]=>[]
 |x::l=>x.cM b kk xs::J.mQ b kk xs l
end
theorem sV(b kk:Nat)(xs:agK (agK D)):∀l,J.mQ b kk xs l=l.map (J.cM b kk xs)
 |[]=>by simp [J.mQ]
 |x::l=>by simp [J.mQ,sV b kk xs l]
theorem ax.cM{G G':Gh}{w:agP}{b kk:Nat}{xs:agK (agK D)}(hE:a7 G.N G w G' w)(hN:G'.N=G.N)(hp:∀(u:agO)(o len:Nat),ax G w u (.vec b o len xs.length kk)->cx G'.S w u (.sl ((xs.drop o).take len))){u:agO}{x:J}(h:ax G w u x):ax G' w u (x.cM b kk xs):=by
 have aG:∀{u:agO}{x:J},ax G w u x->ax G' w u x:=λh=>h.aG hE (Nat.le_of_eq hN.symm);have eP:∀(vs:Array agO)(cs:agK J),(∀(i:Nat)(u:agO)(c:J),vs[i]?=some u->cs[i]?=some c->ax G' w u (c.cM b kk xs))->∀(i:Nat)(u:agO)(c:J),vs[i]?=some u->(J.mQ b kk xs cs)[i]?=some c->ax G' w u c:=by
  intro vs cs ih i u c hu hc;rw[sV,af2]at hc;cases hx:cs[i]? with
  |none=>rw[hx]at hc;cases hc
  |some x=>rw[hx]at hc;cases hc;exact ih i u x hu hx
 induction h with
 |agg vs cs hl _ ih=>rw[J.cM];exact .agg vs _ (by rw[sV,af0];exact hl) (eP vs cs ih)
 |bp vs cs hl _ ih=>rw[J.cM];exact .bp vs _ (by rw[sV,af0];exact hl) (eP vs cs ih)
 |fn f vs cs hl _ ih=>rw[J.cM];exact .fn f vs _ (by rw[sV,af0];exact hl) (eP vs cs ih)
 |vec n o len L k h hs hL hf=>
  rw[J.cM,cond_eq_ite];split
  ·next e=>
   have e:n=b:=by simpa using e
   subst e;rw[cond_eq_ite];split
   ·next e2=>
    rw[afX,beq_iff_eq,beq_iff_eq]at e2;obtain⟨rfl,rfl⟩:=e2;exact .d (hp _ o len (.vec n o len _ _ h hs hL hf))
   ·exact .dead _
  ·exact aG (.vec n o len L k h hs hL hf)
 |cz n i j L k h hs hL hf=>
  rw[J.cM,cond_eq_ite];split
  ·exact .dead _
  ·exact aG (.cz n i j L k h hs hL hf)
 |ptr n off h=>simp only[J.cM];exact aG (.ptr n off h)
 |own n xs h hp hle hf=>simp only[J.cM];exact aG (.own n xs h hp hle hf)
 |d h=>simp only[J.cM];exact aG (.d h)
 |aY xs i off b o u x hx hS hu=>simp only[J.cM];exact aG (.aY xs i off b o u x hx hS hu)
 |full xs hp hf=>simp only[J.cM];exact aG (.full xs hp hf)
 |row n off len cap k h hl hm=>simp only[J.cM];exact aG (.row n off len cap k h hl hm)
 |mp n h=>simp only[J.cM];exact aG (.mp n h)
 |cm n h=>simp only[J.cM];exact aG (.cm n h)
 |hid h h1=>simp only[J.cM];exact aG (.hid h h1)
 |dead u=>simp only[J.cM];exact .dead u
theorem bU.SS{G:Gh}{w:agP}{a:Act}{s:St}(hs:bU G w a s)(xs:agK (agK D)){b e k:Nat}(hb:s.h[b]?=some (.vec e k (bW xs)))(gu:∀c∈xs,c.all D.wz=true)
 :∃G',a7 G.N G w G' w/\G'.N=G.N/\bU G' w a ⟨s.n,s.t.map λp=>(p.1,p.2.cM b k xs),(s.h.map (aj.nb (J.cM b k xs))).set b .gone⟩:=by
 obtain⟨L,hL⟩:∃L,xs.length=L:=⟨_,rfl⟩;have lN:(bW xs).length=L:=by unfold bW;rw[af0];exact hL
 have gD:=AJ hs.inv hb;have kM:∀d∈xs,d.length=k:=λd hd=>by
  have:=gD (d.map .d) (by unfold bW;exact List.mem_map.2 ⟨d,hd,rfl⟩)
  rwa [af0]at this
 obtain⟨S,hS⟩:∃S:Nat->Nat->Prop,S=λc o=>G.S c o\/(bj s.h G b=some c/\o<L*k):=⟨_,rfl⟩;have hE:a7 G.N G w {G with S:=S} w:=⟨af6 _,λb o h=>by show S b o;rw[hS];exact .inl h,λ_ _ _=>rfl,λ_ _=>rfl,λ_ _=> .inl ⟨rfl,rfl⟩,fi rfl,λ_ _=>rfl,rfl,rfl,rfl,λc o hq=>by
  have bR:S c o:=hq;rw[hS]at bR;rcases bR with h|⟨h,_⟩
  ·exact .inl h
  ·obtain⟨B,hB,dZ⟩:=ly h;exact .inr ((hs.inv.b6 b B hB).jD dZ)⟩
 have Qn:∀(u:agO)(o len:Nat),ax G w u (.vec b o len xs.length k)->cx S w u (.sl ((xs.drop o).take len)):=λu o len vN=>by
  rw[hL]at vN;have jy:=vN.rG hs.inv hb lN;obtain⟨vM,⟨A,cc,q1,q2,q3,q4,q5⟩,_⟩:=jy;generalize hy:(xs.drop o).take len=ys;have uk:ys.length=len:=by rw[<-hy,List.length_take,List.length_drop];omega
  rw[q1,<-uk];show cx S w _ _;by_cases Va:True
  ·skip
   by_cases h0:len=0
   ·have:ys=[]:=List.eq_nil_of_length_eq_zero (by omega);subst this;exact .sl A 0 0 cc 0 [] (λ_ _=>undef) (λh=>absurd rfl h) (Nat.zero_le _) q3 (λ_ h=>absurd h agC) (λi j hi=>absurd hi (ago _)) (λi j x d hx=>by simp at hx)
   ·obtain⟨g,cap,s1,rfl,s3⟩:=q5 (by omega);obtain⟨g',A6,cur,r1,r2,r3,r4,r5,r6,r7,r8,r9⟩:=Al hs.inv hb (λe=>by rw[e]at lN;simp at lN;omega);rw[r2]at s1;cases s1
    have kT:bj s.h G b=some g:=(cJ hb).trans r1;have jg:∀i,i<len->ys[i]?=xs[o+i]?:=λi cy=>by rw[<-hy,List.getElem?_take_of_lt cy,List.getElem?_drop]
    have fQ:∀i j,i<len->j<k->o*k+i*k+j<cur.size:=λi j hi hj=>by
     have:=kh (i:=o+i) (k:=k) (L:=(bW xs).length) (j:=j) (by omega) hj;rw[Nat.add_mul]at this;have h2:(bW xs).length*k<=cap*k:=Nat.mul_le_mul_right k (by omega);rw[r7];omega
    have uz:∀(i j:Nat)(x:agK D)(d:D),i<len->ys[i]?=some x->x[j]?=some d->ax G w (cur.getD (o*k+i*k+j) undef) (.d d):=λi j x d hi hx hd=>by
     rw[jg i hi]at hx;have hj:j<k:=by rw[<-kM x (af8 hx)];exact(afV.1 hd).1
     refine r9 (o+i) j (x.map .d) (.d d) _ (by unfold bW;rw[af2,hx];rfl) (by rw[af2,hd];rfl) ?_;have hc:=fQ i j hi hj;rw[show(o+i)*k+j=o*k+i*k+j by rw[Nat.add_mul]];simp [Array.getD,hc]
    refine .sl _ g (o*k) cc k ys (λi j=>cur.getD (o*k+i*k+j) undef) (λ_=>rfl) (by omega) q3 (λx hx=> ?_) (λi j hi hj=>⟨?_,?_,?_⟩) (λi j x d hx hd=> ?_)
    ·rw[<-hy]at hx;exact kM x (List.mem_of_mem_drop (List.mem_of_mem_take hx))
    ·rw[hS];refine .inr ⟨kT,?_⟩;have:=kh (i:=o+i) (k:=k) (L:=(bW xs).length) (j:=j) (by omega) hj;rw[Nat.add_mul]at this;exact this
    ·rw[cell_of_row w g _ cur e (0,0) r4];have hc:=fQ i j (by omega) hj;simp [Array.getD,hc]
    ·have cy:i<len:=by omega
     obtain⟨x,hx⟩:∃x,ys[i]?=some x:=⟨_,afZ hi⟩;have qo:=hx;rw[jg i cy]at qo;have iF:=af8 qo;obtain⟨d,hd⟩:∃d,x[j]?=some d:=⟨_,afZ (by rw[kM x iF];exact hj)⟩;refine(uz i j x d cy hx hd).iJ ?_;have h1:=gu x iF;rw[agm]at h1;have h2:=h1 d (af8 hd);cases d with
     |v u=>exact h2
     |sl l=>rfl
    ·have cy:i<len:=by rw[<-uk];exact(afV.1 hx).1
     have:=uz i j x d cy hx hd;generalize cur.getD (o*k+i*k+j) undef=q at this;cases this with|d h=>exact h.aG hE.S hE.cell
  ·exact(Va trivial).elim
 have hinv:=T3 (b:=b) (f:=J.cM b k xs) hs.inv hE (λc o hq=>by rw[hS]at hq;exact hq.imp id And.left) (λhq=>hq.cM hE rfl Qn);have bR:bU {G with S:=S} w a ⟨s.n,s.t.map λp=>(p.1,p.2.cM b k xs),(s.h.map (aj.nb (J.cM b k xs))).set b .gone⟩:=by
  refine⟨hs.size,λi=> ?_,hinv,hs.df⟩;show ax _ _ _ (aQ (s.t.map λp=>(p.1,p.2.cM b k xs)) i);rw[E8 (J.cM b k xs) (by simp [J.cM])];exact(hs.tmp i).cM hE rfl Qn
 exact⟨_,hE,rfl,bR⟩
def tH(P:agN)(rs:agK ResultVar)(m:Nat)(s:St):agM (J×agK aj):=
 match qi P s rs with
 |some l=>bif bB m s.h.length&&((iO l).aS m).aA m&&(((s.h.take m).map (aj.aS m)).all (aj.aA m))then some (((iO l).aS m).nrm,((s.h.take m).map (aj.aS m)).map aj.ml)else none
 |none=>none
def qJ(P:agN)(fn:Func)(m:Nat)(R:J)(H:agK aj):Exit->St->Prop
 | .normal,s=>tH P fn.results.toList m s=some (R,H)
 | .ret,s=>tH P fn.results.toList m s=some (R,H)
 |_,_=>False
theorem MS{P:agN}{s:St}{fn:Func}{m:Nat}{R:J}{H:agK aj}(h:tH P fn.results.toList m s=some (R,H)):o8 P fn m (λr h'=>r.nrm=R/\h'.map aj.ml=H) s:=by
 unfold tH at h;split at h
 ·next l e=>
  obtain⟨hb,he⟩:=di h;cases he
  simp only[afX,cN]at hb;exact Cw _ _ _ e ⟨hb.1.1,hb.1.2,hb.2,rfl,rfl⟩
 ·cases h
theorem zW{P:agN}{s:St}{fn:Func}{m:Nat}{R:J}{H:agK aj}(h:tH P fn.results.toList m s=some (R,H)):qJ P fn m R H .ret s:=h
theorem Ap{P:agN}{f:FuncId}{fn:Func}{c:Code}{args:agK J}{h H:agK aj}{R:J}(m:Nat)(hf:P.funcs[f]?=some fn)(hb:fn.body=some c)(hn:(fn.name== "runtime.NumGoroutine")=false)(hm:h.length<=m)
 (hw:aX P none h.length c (qJ P fn m R H) {n:=args.length+(fn.ntmps-args.length),t:=jU 0 args,h:=h}):b5 P f args h λr1 h1=>r1=R/\h1=H:=by
 have h0:=zb (P:=P) (f:=f) (args:=args) (h:=h) (K:=λr h'=>r.nrm=R/\h'.map aj.ml=H) m hf hb hn hm (hw.mono λe s hq=>by
  cases e with
  |normal=>exact MS hq
  |ret=>exact MS hq
  |_=>exact hq.elim)
 refine⟨h0.1,λG w vs hi hl hr=>(h0.2 G w vs hi hl hr).mono λe w' hp=> ?_⟩;obtain⟨v,G',x,h',rfl,hE,hN,cy,hv,rfl,rfl⟩:=hp;exact⟨v,G',x.nrm,_,rfl,hE,hN,I8 cy,hv.nrm,rfl,rfl⟩
theorem xI{P:agN}{r:agM Nat}{N0:Nat}{c:Code}{s s':St}{Q:Exit->St->Prop}(e:s=s')(h:aX P r N0 c Q s'):aX P r N0 c Q s:=e▸h
def dv{V:Type}:agK (agL×V)->agL->V->V
 |[],_,d=>d
 |(k,v)::l,s,d=>bif bL k==bL s then v else dv l s d
def l9{V:Type}:agK (agL×V)->agL->Bool
 |[],_=>false
 |(k,_)::l,s=>bif bL k==bL s then true else l9 l s
def dz(l:agK (agL×Int)):agK (agL×D):=l.map λp=>(p.1, .v (.int .i64 p.2))
def wN(l:agK (agL×Bool)):agK (agL×D):=l.map λp=>(p.1, .v (.bool p.2))
def aZ(l:agK (agL×agL)):agK (agL×D):=l.map λp=>(p.1, .v (.string p.2))
theorem Re{V:Type}(f:V->D):∀(l:agK (agL×V))(s:agL)(d:V),dk (l.map λp=>(p.1,f p.2)) s=bif l9 l s then some (f (dv l s d))else none
 |[],s,d=>rfl
 |(k,v)::l,s,d=>by
  simp only[agl,dk,l9,dv];cases bL k==bL s with
  |true=>rfl
  |false=>simp only[cond_false];exact Re f l s d
theorem QR{V:Type}:∀(l:agK (agL×V))(s:agL)(d:V),l9 l s=false->dv l s d=d
 |[],s,d,_=>rfl
 |(k,v)::l,s,d,h=>by
  unfold l9 at h;unfold dv;cases e:bL k==bL s with
  |true=>rw[e]at h;cases h
  |false=>rw[e]at h;simp only[cond_false];exact QR l s d h
theorem Ir{V:Type}(f:V->D)(z:agO)(d0:V)(hz:f d0= .v z)(ok:Bool)(l:agK (agL×V))(s:agL):
 rh ok z (dk (l.map λp=>(p.1,f p.2)) s)=bif ok then .bp [.d (f (dv l s d0)), .d (.v (.bool (l9 l s)))]else .d (f (dv l s d0)):=by
 rw[Re f l s d0];cases e:l9 l s with
 |true=>cases ok<;>rfl
 |false=>rw[QR l s d0 e,hz];cases ok<;>rfl
theorem Bl(ok:Bool)(l:agK (agL×Int))(s:agL):rh ok (.int .i64 0) (dk (dz l) s)=bif ok then .bp [.d (.v (.int .i64 (dv l s 0))), .d (.v (.bool (l9 l s)))]else .d (.v (.int .i64 (dv l s 0))):=
 Ir (λn=> .v (.int .i64 n)) _ 0 rfl ok l s
theorem UA(ok:Bool)(l:agK (agL×Bool))(s:agL):rh ok (.bool false) (dk (wN l) s)=bif ok then .bp [.d (.v (.bool (dv l s false))), .d (.v (.bool (l9 l s)))]else .d (.v (.bool (dv l s false))):=
 Ir (λn=> .v (.bool n)) _ false rfl ok l s
theorem E5(ok:Bool)(l:agK (agL×agL))(s:agL):rh ok (.string (bs [])) (dk (aZ l) s)=bif ok then .bp [.d (.v (.string (dv l s (bs [])))), .d (.v (.bool (l9 l s)))]else .d (.v (.string (dv l s (bs [])))):=
 Ir (λn=> .v (.string n)) _ (bs []) rfl ok l s
theorem Ht{l:agK (agL×Int)}(h:Nat.blt l.length 9223372036854775807=true):(Sd.lt (dz l).length).ok:=by
 unfold dz;rw[af0];exact af3 h
theorem Yt{l:agK (agL×Bool)}(h:Nat.blt l.length 9223372036854775807=true):(Sd.lt (wN l).length).ok:=by
 unfold wN;rw[af0];exact af3 h
theorem Dz{l:agK (agL×agL)}(h:Nat.blt l.length 9223372036854775807=true):(Sd.lt (aZ l).length).ok:=by
 unfold aZ;rw[af0];exact af3 h
theorem yV{n:Nat}(h:Nat.ble n 9223372036854775807=true):n<=maxLen:=af3 h
def gI(g:Nat):agK Int:=((wF wc g).getD []).map λv=>match v with| .int _ n=>n|_=>0
def ab2(l:agK Int):agL:=⟨(l.map λn=>UInt8.ofNat n.toNat).toArray⟩
theorem Xd{α:Type}{c:Bool}{x y z:α}(h:(bif c then x else y)=z):(c=true/\x=z)\/(c=false/\y=z):=by
 cases c with
 |true=>exact .inl ⟨rfl,h⟩
 |false=>exact .inr ⟨rfl,h⟩
inductive HD
 |same
 |push (B:aj)
 |set (n:Nat) (B:aj)
def HD.app:HD->agK aj->agK aj
 | .same,h=>h
 | .push B,h=>h++[B]
 | .set n B,h=>h.set n B
def zN:Int->agM Nat
 | .ofNat n=>some n
 | .negSucc _=>none
theorem yK{z:Int}{n:Nat}(h:zN z=some n):0<=z/\z.toNat=n:=by
 cases z with
 |ofNat m=>cases h;exact⟨Int.natCast_nonneg _,rfl⟩
 |negSucc m=>cases h
def rS(ρ:Operand->J)(d:Nat):agM Operand->agM Nat
 |none=>some d
 |some y=>match (ρ y).int? with
  |some z=>zN z
  |none=>none
def yl(k:Nat)(xs:agK (agK D)):Bool:=xs.all λc=>c.length==k
def EI(P:agN)(T:TypeId)(x i:J):agM J:=
 match dn P T with
 |some (_,k)=>match x with
  | .row n off len _ k'=>match i.int? with
    |some z=>match zN z with
     |some q=>bif k'==k&&bB (q+1) len then some (.ptr n (off+q*k))else none
     |none=>none
    |none=>none
  |x=>match x.ep,i.int? with
   |some xs,some z=>match zN z with
    |some q=>match xs[q]? with
     |some c=>bif c.length==k then some (.aY [c] 0 0)else none
     |none=>none
    |none=>none
   |_,_=>none
 |none=>match rj P T,x,i.int? with
  |some (n,_,k), .ptr b off,some z=>match zN z with
   |some q=>bif bB (q+1) n then some (.ptr b (off+q*k))else none
   |none=>none
  |some (n,_,k), .aY xs e off,some z=>match zN z with
   |some q=>bif k==1&&bB (q+1) n then match xs[e]? with
    |some c=>match c[off+q]? with
     |some d=>some (.aY [[d]] 0 0)
     |none=>none
    |none=>none
    else none
   |none=>none
  |_,_,_=>none
theorem Xp{P:agN}{T:TypeId}{x i y:J}{K:J->Prop}(h:EI P T x i=some y)(hK:K y):pN P T x i K:=by
 unfold EI at h;unfold pN;split at h
 ·next e k eT=>
  simp only[eT];split at h
  ·next n off len cap k'=>
   simp only;split at h
   ·next z ez=>
    simp only[ez];split at h
    ·next q eq=>
     obtain⟨h0,h1⟩:=yK eq;obtain⟨hb,he⟩:=di h;rw[afX,cN]at hb;refine bf.2 ⟨hb.1,h0,by omega,?_⟩;rw[h1,he];exact hK
    ·cases h
   ·cases h
  ·next x' lE=>
   split at h
   ·next xs z e1 e2=>
    split at h
    ·next q eq=>
     obtain⟨h0,h1⟩:=yK eq;split at h
     ·next c ec=>
      obtain⟨hb,he⟩:=di h;simp only[e1,e2];refine⟨h0,?_⟩;rw[h1,ec];exact⟨by simpa using hb,by rw[he];exact hK⟩
     ·cases h
    ·cases h
   ·cases h
 ·next eT=>
  simp only[eT];split at h
  ·next n e k b off z e1 e2=>
   simp only[e1,e2];split at h
   ·next q eq=>
    obtain⟨h0,h1⟩:=yK eq;obtain⟨hb,he⟩:=di h;rw[cN]at hb;exact⟨h0,by omega,by rw[h1,he];exact hK⟩
   ·cases h
  ·next n e0 k xs e off z e1 e2=>
   simp only[e1,e2];split at h
   ·next q eq=>
    obtain⟨h0,h1⟩:=yK eq;obtain⟨hb,h⟩:=mh h;rw[afX,cN]at hb;split at h
    ·next c ec=>
     split at h
     ·next d ed=>
      cases h
      refine bf.2 ⟨hb.1,h0,by omega,?_⟩;rw[ec];simp only;rw[h1,ed];exact hK
     ·cases h
    ·cases h
   ·cases h
  ·cases h
def afQ(P:agN)(T:TypeId)(ρ:Operand->J)(x:J)(lo hi mx:agM Operand):agM J:=
 match mx with
 |none=>
  match x with
  | .d (.v (.string b))=>match rS ρ b.size hi,rS ρ 0 lo with
    |some h,some l=>bif fu P T&&bB h b.size&&bB l h then some (.d (.v (.string (b.extract l h))))else none
    |_,_=>none
  | .ptr n off=>match rj P T with
    |some (m,_,k)=>match rS ρ m hi,rS ρ 0 lo with
     |some h,some l=>bif bB m 4096&&bB h m&&(bB l h&& !bB m l)then some (.row n (off+l*k) (h-l) (m-l) k)else none
     |_,_=>none
    |none=>none
  |x=>match x.ep,dn P T with
   |some xs,some (_,k)=>match rS ρ xs.length hi,rS ρ 0 lo with
    |some h,some l=>bif yl k xs&&bB h xs.length&&bB l h then some (.d (.sl ((xs.take h).drop l)))else none
    |_,_=>none
   |_,_=>none
 |some m=>match lo,hi with
  |none,some y=>match x.ep,dn P T with
   |some xs,some (_,k)=>match rS ρ 0 (some m),rS ρ 0 (some y)with
    |some c,some h=>bif yl k xs&&bB c xs.length&&h==c then some (.full (xs.take h))else none
    |_,_=>none
   |_,_=>none
  |_,_=>none
def aft(P:agN)(T:TypeId)(h:agK aj)(x y:J):agM (J×HD):=
 match dn P T with
 |some (e,k)=>match gi P e,nV P e with
  |some z,some cq=>match C8 h k y with
   |some ys=>bif bB 1 k&&z.cells.toList.length==k&&yl k ys then
    match x with
    | .own n xs=>match h[n]? with
      |some (.front e' k' len)=>bif e'==e&&k'==k&&len==xs.length&&yl k xs&&bB (xs.length+ys.length) maxLen&&bB ((xs.length+ys.length)*cq) 140737488355328 then some (.own n (xs++ys), .set n (.front e k (xs.length+ys.length)))else none
      |_=>none
    | .d (.v (.slice none 0 0))=>bif bB ys.length maxLen&&bB (ys.length*cq) 140737488355328 then some (.own h.length ys, .push (.front e k ys.length))else none
    | .full xs=>bif yl k xs&&bB (xs.length+ys.length) maxLen&&bB ((xs.length+ys.length)*cq) 140737488355328 then some (.own h.length (xs++ys), .push (.front e k (xs.length+ys.length)))else none
    |_=>none
    else none
   |none=>none
  |_,_=>none
 |none=>none
def PF:agK (agK D)->agM (agK Int)
 |[]=>some []
 |[.v (.int .u8 n)]::l=>match PF l with
  |some ns=>some (n::ns)
  |none=>none
 |_=>none
def Jz:agM (J×In)->agM J
 |some (x, .none)=>some x
 |some (x, .nz b)=>bif b==0 then none else some x
 |some (x, .nn b)=>match zN b with
  |some _=>some x
  |none=>none
 |some (x, .cat n)=>bif bB n maxLen then some x else none
 |_=>none
theorem Wf{r:agM (J×In)}{x:J}(P:agN)(h:Jz r=some x):∃i,r=some (x,i)/\OK P i .ok:=by
 unfold Jz at h;split at h
 ·cases h;exact⟨_,rfl, .none⟩
 ·next b=>
  cases hb:b==0 with
  |true=>rw[hb]at h;cases h
  |false=>rw[hb]at h;cases h;exact⟨_,rfl, .nz (by simpa using hb)⟩
 ·next b=>
  split at h
  ·next e=>cases h;exact⟨_,rfl, .nn (yK e).1⟩
  ·cases h
 ·obtain⟨hb,he⟩:=di h;cases he
  exact⟨_,rfl, .cat (cN.1 hb)⟩
 ·cases h
def pX(r:agM J):agM (J×HD):=
 match r with
 |some x=>some (x, .same)
 |none=>none
def afA(P:agN)(src dst:TypeId)(x:J):agM J:=
 match DX P src dst x .none with
 |some (y, .none)=>some y
 |_=>match x.ep,dn P src with
  |some xs,some (e,_)=>match PF xs with
   |some ns=>match x with
    | .d (.v _)=>none
    |_=>bif yk P e&&fu P dst then some (.d (.v (.string (ab2 ns))))else none
   |none=>none
  |_,_=>none
def jK(P:agN)(op:Op)(ρ:Operand->J)(h:agK aj):agM (J×HD):=
 match op with
 | .move x| .assign x=>some (ρ x, .same)
 | .pick c x y=>match ρ c with
   | .d (.v (.bool b))=>some (bif b then ρ x else ρ y, .same)
   |_=>none
 | .alloc e=>match gi P e with
   |some z=>some (.ptr h.length 0, .push (.cells (z.cells.toList.map λu=> .d (.v u))))
   |none=>none
 | .box _ x=>bif (ρ x).gZ then some (.ptr h.length 0, .push (.cells (ρ x).cells))else none
 | .load t p=>match sT h (ρ p)with
   |some (cs,off)=>pX (vK P t cs off)
   |none=>none
 | .store t p x=>match ρ p with
   | .ptr n off=>match h[n]? with
     |some (.cells cs)=>match eD P t with
      |some k=>bif k==(ρ x).cells.length&&(ρ x).gZ&&bB (off+(ρ x).cells.length) cs.length then some (.d (.v undef), .set n (.cells (gM cs off (ρ x).cells)))else none
      |none=>none
     |_=>none
   |_=>none
 | .nilCheck x=>match ρ x with
   | .ptr n off=>some (.ptr n off, .same)
   | .aY xs i off=>some (.aY xs i off, .same)
   | .fn f cs=>some (.fn f cs, .same)
   |_=>none
 | .fieldAddr S x f=>match oS P S f with
   |some (fo,_,_)=>match ρ x with
    | .ptr n off=>some (.ptr n (off+fo), .same)
    | .aY xs i off=>some (.aY xs i (off+fo), .same)
    |_=>none
   |none=>none
 | .field T x f=>pX (DJ P T (ρ x) f)
 | .indexAddr T x i=>pX (EI P T (ρ x) (ρ i))
 | .extract x i=>match ρ x with
   | .bp cs=>match cs[i]? with
     |some c=>some (c, .same)
     |none=>none
   |_=>none
 | .makeFunc (.func f) first cF=>match first.toList with
   |[]=>some (.fn f (cF.toList.map ρ), .same)
   |_=>none
 | .binOp op T x y _=>pX (Jz (F0 P T op (ρ x) (ρ y)))
 | .unOp op _ x=>match ρ x with
   | .d (.v u)=>match Eu op u with
     |some v=>some (.d (.v v), .same)
     |none=>none
   |_=>none
 | .call c=>match c.callee with
   | .builtin .len=>match c.args.toList,c.argTypes.toList with
     |[x],[T]=>match ρ x with
      | .d (.v (.string s))=>bif fu P T then some (.d (.v (.int .i64 s.size)), .same)else none
      | .row _ _ len _ _=>bif (dn P T).isSome then some (.d (.v (.int .i64 len)), .same)else none
      |x=>match x.ep with
       |some xs=>bif (dn P T).isSome then some (.d (.v (.int .i64 xs.length)), .same)else none
       |none=>none
     |_,_=>none
   |_=>none
 |_=>none
theorem ES{r:agM J}{x:J}{d:HD}(h:pX r=some (x,d)):r=some x/\d= .same:=by
 unfold pX at h;split at h
 ·cases h;exact⟨rfl,rfl⟩
 ·cases h
theorem Ov{P:agN}{o:Oper}{ρ:Operand->J}{h:agK aj}{x:J}{d:HD}{C:J->agK aj->Prop}(h1:jK P o.op ρ h=some (x,d))(hC:C x (d.app h)):bM P o ρ h C:=by
 obtain⟨dst,op,type,pos,after,guard⟩:=o;simp only at h1;unfold jK at h1;unfold bM;split at h1
 ·cases h1;exact hC
 ·cases h1;exact hC
 ·next c y z=>
  split at h1
  ·next b e=>
   cases h1
   simp only[e];cases b with
   |true=>exact⟨λ_=>hC,λh=>Bool.noConfusion h⟩
   |false=>exact⟨λh=>Bool.noConfusion h,λ_=>hC⟩
  ·cases h1
 ·split at h1
  ·next z e=>cases h1;simp only[e];exact hC
  ·cases h1
 ·obtain⟨hb,he⟩:=di h1;cases he;exact bf.2 ⟨hb,hC⟩
 ·split at h1
  ·next cs off e=>
   obtain⟨e2,rfl⟩:=ES h1;exact I9 e e2 hC
  ·cases h1
 ·split at h1
  ·next n off e=>
   split at h1
   ·next cs e2=>
    split at h1
    ·next k e3=>obtain⟨hb,he⟩:=di h1;cases he;simp only[e,ua,e2,e3];exact bf.2 ⟨hb,hC⟩
    ·cases h1
   ·cases h1
  ·cases h1
 ·split at h1
  ·next e=>cases h1;simp only[e];exact hC
  ·next e=>cases h1;simp only[e];exact hC
  ·next e=>cases h1;simp only[e];exact hC
  ·cases h1
 ·split at h1
  ·next e=>
   simp only[e];split at h1
   ·next e2=>cases h1;simp only[e2];exact hC
   ·next e2=>cases h1;simp only[e2];exact hC
   ·cases h1
  ·cases h1
 ·obtain⟨e,rfl⟩:=ES h1;exact Nd e hC
 ·obtain⟨e,rfl⟩:=ES h1;exact Xp e hC
 ·split at h1
  ·next e=>
   split at h1
   ·next e2=>cases h1;simp only[e,e2];exact hC
   ·cases h1
  ·cases h1
 ·split at h1
  ·next e=>cases h1;simp only[e];exact hC
  ·cases h1
 ·obtain⟨e,rfl⟩:=ES h1;obtain⟨i,e2,bh⟩:=Wf P e;exact MR e2 bh hC
 ·unfold tC;split at h1
  ·next e=>
   split at h1
   ·next e2=>cases h1;simp only[e,e2];exact hC
   ·cases h1
  ·cases h1
 ·next c=>
  split at h1
  ·next hc=>
   simp only[hc];split at h1
   ·next y T e1 e2=>
    simp only[e1,e2];unfold od;split at h1
    ·next s e=>obtain⟨hb,he⟩:=di h1;cases he;simp only[e];exact bf.2 ⟨hb,hC⟩
    ·next e=>obtain⟨hb,he⟩:=di h1;cases he;simp only[e];exact bf.2 ⟨hb,hC⟩
    ·next n1 n2=>
     split at h1
     ·next xs e=>
      obtain⟨hb,he⟩:=di h1;cases he;split
      ·next s e'=>exact absurd e' (n1 s)
      ·next e'=>exact absurd e' (n2 _ _ _ _ _)
      ·simp only[e];exact bf.2 ⟨hb,hC⟩
     ·cases h1
   ·cases h1
  ·cases h1
 ·cases h1
def dh(n:Nat)(t:agK (Nat×J)):agK J:=(List.range n).map (aQ t)
theorem ab1{n:Nat}{t:agK (Nat×J)}{i:Nat}{c:J}(h:(dh n t)[i]?=some c):aQ t i=c:=by
 unfold dh at h;rw[af2]at h;by_cases hi:i<n
 ·rw[List.getElem?_range hi]at h;exact age h
 ·rw[ags (by simpa using hi)]at h;cases h
def Lk(P:agN)(N0:Nat)(Q:Exit->St->Prop)(s:St):LS->Prop
 | .ready=>Q .normal s
 | .done c=>aX P none N0 c Q s
 | .busy=>False
theorem Wu{P:agN}{N0:Nat}{s:St}{Q:Exit->St->Prop}{g:Operand}{p:Nat}{assign body:Code}{gf:FuncId}{cF:agK J}(hg:ev s g= .fn gf cF)
 (hc:b5 P gf (.cm s.h.length::cF) (s.h++[.lp .ready p assign body (dh s.n s.t)]) λ_ h'=>∃(ls:LS)(p1:Nat)(pY pP:Code)(sr:agK J),h'[s.h.length]?=some (.lp ls p1 pY pP sr)/\Lk P N0 Q ⟨s.n,s.t,h'.set s.h.length .gone⟩ ls):
 aX P none N0 (.rangeFunc g #[p] assign body) Q s:=by
 constructor
 intro G w a n hs hN;have hv:=hs.ev g;rw[hg]at hv;obtain⟨lb,ea,hl,hr⟩:∃lb:Array agO,a.eval g= .func (.func gf) #[] lb/\lb.size=cF.length/\∀(i:Nat)(u:agO)(c:J),lb[i]?=some u->cF[i]?=some c->ax G w u c:=by
  generalize a.eval g=u at hv;cases hv with|fn _ vs _ hl hr=>exact⟨vs,rfl,hl,hr⟩
 obtain⟨Kr,iq⟩:=hc;refine wpIn_rangeFunc (F:=WF none) ?_;intro fn _;obtain⟨Am,Qk⟩:=acv hs.inv;obtain⟨G0,iR⟩:∃G0:Gh,G0={G with Z:=λb=>G.Z b\/b=w.heap.size}:=⟨_,rfl⟩;obtain⟨w0,nx⟩:∃w0,w0=w.alloc (.deferred (some [])):=⟨_,rfl⟩;rw[<-iR,<-nx]at Am Qk;have bE:G0.N=G.N:=by rw[iR]
 have eQ:w0.heap.size=w.heap.size+1:=by rw[nx];simp
 obtain⟨gg,s5,K3⟩:=Ul Qk fn a.tmps w.heap.size p assign body (dh s.n s.t) (by simp [dh,hs.size]) λi u c hu hc=>by
  have h9:=hs.tmp i;rw[ab1 hc]at h9;have e:a.tmps.getD i undef=u:=by
   have az:=(aga.1 hu).1;rw[agi az]at hu;simp [Array.getD,az];exact age hu
  rw[e]at h9;exact h9.aG Am (Nat.le_of_eq bE.symm)
 obtain⟨w1,Di⟩:∃w1,w1=w0.alloc (.loop {state:= .ready,pending:=none,fn:=fn,tmps:=a.tmps,params:= #[p],assign:=assign,body:=body,defers:=w.heap.size}):=⟨_,rfl⟩;obtain⟨G1,II⟩:∃G1:Gh,G1=G0.cA w0.heap.size:=⟨_,rfl⟩;rw[<-Di,<-II]at gg s5 K3;have eO:G1.N=G.N+1:=by rw[II,<-bE];rfl
 have X6:G1.aF s.h.length=w.heap.size+1:=by rw[II,hs.inv.len,<-bE];simp [Gh.cA,eQ]
 rw[eQ]at K3;have Mt:a7 G.N G w G1 w1:=Am.trans (gg.less (Nat.le_of_eq bE.symm));refine⟨w.heap.size+1,[{target:= .collected w.heap.size,args:= #[]}],w1,{target:= .fn (.func gf) lb,args:= #[.func (.yield (w.heap.size+1)) #[] #[]]},w1,gf, #[.func (.yield (w.heap.size+1)) #[] #[]]++lb,w1,?_,?_,λ_ _=>trivial,?_,λh=>(by simp [WF,Fence.wide]at h),?_⟩
 ·rw[Di,nx];exact run_enterLoop_outer _ _ _ _ _
 ·simp only[resolve,ea];simp [Deferred.ofValue,go_sem]
 ·simp [invoke,SR Kr]
 have hK:=iq G1 w1 (#[.func (.yield (w.heap.size+1)) #[] #[]]++lb) s5 (by simp [hl];omega) (λi u c hu hc=>by
  match i with
  |0=>
   rw[Array.getElem?_append_left (by simp)]at hu;simp at hu hc;subst hu;subst hc;exact K3
  |i+1=>
   rw[Array.getElem?_append_right (by simp)]at hu;simp at hu hc;exact(hr i u c hu hc).aG Mt (by rw[eO];exact Nat.le_succ _))
 refine CallsIn.mono (F:=WF none) (callsIn_wide (n:=n-1).2 hK) ?_;rintro e w2 ⟨v,G2,r,h',rfl,gy,ZE,Ez,_,ls,p1,pY,pP,sr,hk,K6⟩;have vo:s.h.length<G1.N:=by rw[hs.inv.len,eO];exact agI _
 have FC:G2.aF s.h.length=w.heap.size+1:=(gy.aF _ vo).trans X6;obtain⟨_,Zn,Zx,D2,g3,g4,g5,QC⟩:=Fk Ez hk;rw[FC]at g3;have YA:a7 G.N G w G2 w2:=Mt.trans (gy.less (by rw[eO];exact Nat.le_succ _));have Ci:G.N<=G2.N:=by rw[eO]at ZE;omega
 obtain⟨ob,kT⟩:∃ob:Obj,ob= .loop {state:= .exhausted,pending:=ls.pd,fn:=Zn,tmps:=Zx,params:= #[p1],assign:=pY,body:=pP,defers:=D2}:=⟨_,rfl⟩;obtain⟨zE,zI⟩:=adZ Ez hk ob;rw[FC]at zE zI;have yi:a7 G.N G w G2 (w2.putObj (w.heap.size+1) ob):=YA.trans (zE.less Ci);have hM:=hs.inv.gl.2;have Lz:G0.Z w.heap.size:=by rw[iR];exact .inr rfl
 have Na:G2.Z w.heap.size:=gy.Z.1.1 _ (gg.Z.1.1 _ Lz);have hDh:(w2.putObj (w.heap.size+1) ob).heap[w.heap.size]?=some (.deferred (some [])):=by
  rw[zE.old _ Na,gy.old _ (gg.Z.1.1 _ Lz),gg.old _ Lz,nx];exact World.alloc_heap_new w _
 have bR:bU G2 (w2.putObj (w.heap.size+1) ob) {a with defers:=[{target:= .collected w.heap.size,args:= #[]}]++a.defers} ⟨s.n,s.t,h'.set s.h.length .gone⟩:=by
  refine⟨hs.size,λi=>(hs.tmp i).aG yi Ci,zI,?_⟩;obtain⟨l,l1,l2,l3⟩:=hs.df.aG yi;obtain⟨l',l1',TB,l3'⟩:=hs.df;have lN:l=l':=by
   rw[l2]at TB;have Uh:∀(x y:agK Nat),x.map (λD=>({target:= .collected D,args:= #[]}:Deferred))=y.map (λD=>{target:= .collected D,args:= #[]})->x=y:=by
     intro x
     induction x with
     |nil=>intro y h;cases y with
      |nil=>rfl
      |cons b y=>simp at h
     |cons a x ih=>intro y h;cases y with
      |nil=>simp at h
      |cons b y=>simp at h;rw[h.1,ih y (by simpa using h.2)]
   exact Uh _ _ TB
  refine⟨w.heap.size::l,?_,by rw[agl,<-l2];rfl,λD hD=> ?_⟩
  ·rw[List.nodup_cons];exact⟨λh=>agA _ (hs.inv.z _ (l3' _ (lN▸h)).2.1),l1⟩
  ·rcases agq.1 hD with rfl|hD
   ·exact⟨by rw[yi.Z.2];exact hM,Na,hDh⟩
   ·exact l3 D hD
 subst kT;have Aq:=λhb=>run_endLoop (P:=P) g3 hb;cases ls with
 |busy=>exact K6.elim
 |ready=>
  refine⟨_,_,Aq (by simp [LS.st]),?_⟩;exact⟨G2,_,yi.less hN,agd hN Ci,bR,K6⟩
 |done c=>
  refine⟨_,_,Aq (by simp [LS.st]),?_⟩;refine wpIn_mono (K6.run G2 _ _ n (bR) (agd hN Ci)) λ_ _ _ hn=> ?_;exact hn.trans (yi.less hN)
set_option linter.unusedSimpArgs false
set_option linter.unusedVariables false
mutual
theorem wZ:∀x:J,x.ay id=x
 | .agg cs=>by rw[J.ay,qB cs]
 | .bp cs=>by rw[J.ay,qB cs]
 | .fn f cs=>by rw[J.ay,qB cs]
 | .own .. =>by simp [J.ay]
 | .d _=>by simp [J.ay]
 | .ptr .. =>by simp [J.ay]
 | .aY .. =>by simp [J.ay]
 | .full _=>by simp [J.ay]
 | .row .. =>by simp [J.ay]
 | .mp _=>by simp [J.ay]
 | .cm _=>by simp [J.ay]
 | .vec .. =>by simp [J.ay]
 | .cz .. =>by simp [J.ay]
 | .hid _=>by simp [J.ay]
 | .dead=>by simp [J.ay]
theorem qB:∀l:agK J,J.cZ id l=l
 |[]=>by simp [J.cZ]
 |x::l=>by rw[J.cZ,wZ x,qB l]
end
theorem JM(B:aj):B.ay id=B:=by
 cases B with
 |cells cs=>simp only[aj.ay,qB]
 |lp ls p as bd cs=>simp only[aj.ay,qB]
 |it sn cs=>simp only[aj.ay,qB]
 |vec e k cs=>simp only[aj.ay];congr 1;exact(agr λx _=>qB x).trans (List.map_id _)
 |_=>rfl
theorem ax.low{G:Gh}{w:agP}{u:agO}{x:J}(h:ax G w u x):x.aA G.N=true:=by
 have lt:∀{n:Nat},n<G.N->(!bB G.N n)=true:=fun{n} hn=>by
  rw[Bool.not_eq_true',<-Bool.not_eq_true,cN];omega
 have eP:∀(vs:Array agO)(cs:agK J),vs.size=cs.length->(∀(i:Nat)(u:agO)(c:J),vs[i]?=some u->cs[i]?=some c->c.aA G.N=true)->J.kK G.N cs=true:=λvs cs hl h=>by
  rw[kW,agm];intro c hc;obtain⟨i,hi,rfl⟩:=List.mem_iff_getElem.1 hc;exact h i vs[i] _ (agi (by omega)) (afZ hi)
 induction h with
 |agg vs cs hl _ ih=>rw[J.aA];exact eP vs cs hl ih
 |bp vs cs hl _ ih=>rw[J.aA];exact eP vs cs hl ih
 |fn f vs cs hl _ ih=>rw[J.aA];exact eP vs cs hl ih
 |ptr n off h=>rw[J.aA];exact lt h
 |own n xs h=>rw[J.aA];exact lt h
 |row n off len cap k h=>rw[J.aA];exact lt h
 |mp n h=>rw[J.aA];exact lt h
 |cm n h=>rw[J.aA];exact lt h
 |vec n o len L k h=>rw[J.aA];exact lt h
 |cz n i j L k h=>rw[J.aA];exact lt h
 |_=>simp [J.aA]
def SLe(N0:Nat)(s s':St):Prop:=∀(G:Gh)(w:agP)(a:Act),N0<=G.N->bU G w a s->∃G',a7 N0 G w G' w/\N0<=G'.N/\bU G' w a s'
theorem SLe.refl(N0:Nat)(s:St):SLe N0 s s:=λG _ _ hN hs=>⟨G,a7.refl _ _ _,hN,hs⟩
theorem SLe.trans{N0:Nat}{s1 s2 s3:St}(h:SLe N0 s1 s2)(k:SLe N0 s2 s3):SLe N0 s1 s3:=λG w a hN hs=>by
 obtain⟨G1,e1,n1,h1⟩:=h G w a hN hs;obtain⟨G2,e2,n2,h2⟩:=k G1 w a n1 h1;exact⟨G2,e1.trans e2,n2,h2⟩
theorem SLe.of_eq{N0:Nat}{s s':St}(h:gJ s s'):SLe N0 s s':=λG _ _ hN hs=>
 ⟨G,a7.refl _ _ _,hN,hs.size.trans h.n,λi=>by rw[<-h.t i];exact hs.tmp i,by rw[<-h.h];exact hs.inv,hs.df⟩
theorem SLe.ay{N0:Nat}{s s':St}(σ τ:Nat->Nat)(hn:s.n=s'.n)(hlen:s'.h.length=s.h.length)(az:∀i,i<s.h.length->σ i<s.h.length)(hτ:∀i,i<s.h.length->τ i<s.h.length)
 (rk:∀i,i<s.h.length->τ (σ i)=i) (jo:∀i,i<s.h.length->σ (τ i)=i) (s6:∀i,i<N0->σ i=i)
 (ht:∀i,(aQ s.t i).aA s.h.length=true->aQ s'.t i=(aQ s.t i).ay σ\/aQ s'.t i= .dead) (hh:∀i,i<s.h.length->s'.h[σ i]?=(s.h[i]?).map (aj.ay σ)):SLe N0 s s':=λG w a hN hs=>by
 have hl:s.h.length=G.N:=hs.inv.len;rw[hl]at az hτ rk jo hh hlen ht;have Gx:∀i,i<N0->τ i=i:=λi hi=>by
  have h1:=rk i (by omega);rw[s6 i hi]at h1;exact h1
 let G':Gh:={G with aF:=λn=>G.aF (τ n),sg:=λn=>G.sg (τ n),ow:=λn=>G.ow (τ n),fl:=λn=>G.fl (τ n)}
 have hR:nu σ G G':=⟨az,λn h=>by show G.aF (τ (σ n))=_;rw[rk n h],λn h=>by show G.sg (τ (σ n))=_;rw[rk n h],λn h=>by show G.fl (τ (σ n))=_;rw[rk n h],λn h=>by show G.ow (τ (σ n))=_;rw[rk n h],λ_ _=>Iff.rfl⟩;have hE:a7 N0 G w G' w:=⟨af6 _,λ_ _ h=>h,λ_ _ _=>rfl,λn h=>by show G.aF (τ n)=_;rw[Gx n h],λn h=> .inl ⟨by show G.fl (τ n)=_;rw[Gx n h],by show G.sg (τ n)=_;rw[Gx n h]⟩,fi rfl,λ_ _=>rfl,rfl,rfl,rfl,λ_ _ h=> .inl h⟩;have dt:∀(n:Nat)(B:aj),s'.h[n]?=some B->∃m B0,m<G.N/\σ m=n/\s.h[m]?=some B0/\B=B0.ay σ:=λn B hB=>by
  have dA:n<G.N:=by have:=(afV.1 hB).1;omega
  have h1:=hh (τ n) (hτ n dA);rw[jo n dA,hB]at h1;cases h2:s.h[τ n]? with
  |none=>rw[h2]at h1;cases h1
  |some B0=>rw[h2]at h1;cases h1;exact⟨τ n,B0,hτ n dA,jo n dA,h2,rfl⟩
 have db:∀(n b:Nat),bj s'.h G' n=some b->∃m,m<G.N/\σ m=n/\bj s.h G m=some b:=λn b hb=>by
  obtain⟨B,hB,hb⟩:=ly hb;obtain⟨m,B0,k1,k2,k3,rfl⟩:=dt n B hB;subst k2;rw[JV hR k1]at hb;exact⟨m,k1,rfl,by rw[cJ k3];exact hb⟩
 refine⟨G',hE,hN,hs.size.trans hn,λi=> ?_,⟨hlen,hs.inv.z,hs.inv.S,λn B hB=> ?_,λm n b hm dA=> ?_,hs.inv.gl.aG hE⟩,hs.df.aG hE⟩
 ·have hv:=hs.tmp i;rcases ht i hv.low with e|e
  ·rw[e];exact hv.ay hR
  ·rw[e];exact .dead _
 ·obtain⟨m,B0,k1,k2,k3,rfl⟩:=dt n B hB;subst k2;have hb:=hs.inv.b6 m B0 k3;exact cX.ay hR k1 (λb h1=>hb.jD h1) hb
 ·obtain⟨m',k1,k2,k3⟩:=db m b hm;obtain⟨n',j1,j2,j3⟩:=db n b dA;have:=hs.inv.inj m' n' b k3 j3;rw[<-k2,<-j2,this]
def HL:agO->agO->Bool
 | .bool a, .bool b=>a==b
 | .int k a, .int l b=>decide (k=l)&&decide (a=b)
 | .string a, .string b=>bL a==bL b
 | .pointer none, .pointer none=>true
 | .slice none a b, .slice none c d=>a==c&&b==d
 | .map none, .map none=>true
 | .nilFunc, .nilFunc=>true
 | .nilIface, .nilIface=>true
 | .tuple a, .tuple b=>a.size==0&&b.size==0
 |_,_=>false
theorem aaz{u v:agO}(h:HL u v=true):u=v:=by
 unfold HL at h;split at h
 ·rw[beq_iff_eq]at h;subst h;rfl
 ·rw[afX,decide_eq_true_eq,decide_eq_true_eq]at h;obtain⟨h1,h2⟩:=h;subst h1;subst h2;rfl
 ·rw[beq_iff_eq]at h;rw[nN h]
 ·rfl
 ·rw[afX,beq_iff_eq,beq_iff_eq]at h;obtain⟨h1,h2⟩:=h;subst h1;subst h2;rfl
 ·rfl
 ·rfl
 ·rfl
 ·rw[afX,beq_iff_eq,beq_iff_eq]at h;rw[Array.eq_empty_of_size_eq_zero h.1,Array.eq_empty_of_size_eq_zero h.2]
 ·cases h
mutual
def D.p8:D->D->Bool
 | .v a, .v b=>HL a b
 | .sl xs, .sl ys=>D.oI xs ys
 |_,_=>false
def D.oI:agK (agK D)->agK (agK D)->Bool
 |[],[]=>true
 |x::xs,y::ys=>D.wo x y&&D.oI xs ys
 |_,_=>false
def D.wo:agK D->agK D->Bool
 |[],[]=>true
 |x::xs,y::ys=>D.p8 x y&&D.wo xs ys
 |_,_=>false
end
mutual
theorem D.J1:∀x y:D,D.p8 x y=true->x=y
 | .v a, .v b,h=>by rw[D.p8]at h;rw[aaz h]
 | .sl xs, .sl ys,h=>by rw[D.p8]at h;rw[D.xX xs ys h]
 | .v _, .sl _,h=>by simp [D.p8]at h
 | .sl _, .v _,h=>by simp [D.p8]at h
theorem D.xX:∀x y:agK (agK D),D.oI x y=true->x=y
 |[],[],_=>rfl
 |x::xs,y::ys,h=>by rw[D.oI,afX]at h;rw[D.P5 x y h.1,D.xX xs ys h.2]
 |[],_::_,h=>by simp [D.oI]at h
 |_::_,[],h=>by simp [D.oI]at h
theorem D.P5:∀x y:agK D,D.wo x y=true->x=y
 |[],[],_=>rfl
 |x::xs,y::ys,h=>by rw[D.wo,afX]at h;rw[D.J1 x y h.1,D.P5 xs ys h.2]
 |[],_::_,h=>by simp [D.wo]at h
 |_::_,[],h=>by simp [D.wo]at h
end
mutual
def J.dV(σ:Nat->Nat):J->J->Bool
 | .d x,y=>(match y with| .d y=>D.p8 x y|_=>false)
 | .agg a,y=>(match y with| .agg b=>J.nf σ a b|_=>false)
 | .bp a,y=>(match y with| .bp b=>J.nf σ a b|_=>false)
 | .fn f a,y=>(match y with| .fn g b=>f==g&&J.nf σ a b|_=>false)
 | .ptr n o,y=>(match y with| .ptr m p=>σ n==m&&o==p|_=>false)
 | .aY xs i o,y=>(match y with| .aY ys j p=>D.oI xs ys&&(i==j&&o==p)|_=>false)
 | .own n xs,y=>(match y with| .own m ys=>σ n==m&&D.oI xs ys|_=>false)
 | .full xs,y=>(match y with| .full ys=>D.oI xs ys|_=>false)
 | .row n i1 i2 i3 i4,y=>(match y with| .row m j1 j2 j3 j4=>σ n==m&&(i1==j1&&(i2==j2&&(i3==j3&&i4==j4)))|_=>false)
 | .mp n,y=>(match y with| .mp m=>σ n==m|_=>false)
 | .cm n,y=>(match y with| .cm m=>σ n==m|_=>false)
 | .vec n i1 i2 i3 i4,y=>(match y with| .vec m j1 j2 j3 j4=>σ n==m&&(i1==j1&&(i2==j2&&(i3==j3&&i4==j4)))|_=>false)
 | .cz n i1 i2 i3 i4,y=>(match y with| .cz m j1 j2 j3 j4=>σ n==m&&(i1==j1&&(i2==j2&&(i3==j3&&i4==j4)))|_=>false)
 | .dead,y=>(match y with| .dead=>true|_=>false)
 | .hid _,_=>false
def J.nf(σ:Nat->Nat):agK J->agK J->Bool
 |[],y=>(match y with|[]=>true|_=>false)
 |x::xs,l=>(match l with|y::ys=>J.dV σ x y&&J.nf σ xs ys|_=>false)
end
mutual
theorem J.Cd(σ:Nat->Nat):∀x y:J,J.dV σ x y=true->y=x.ay σ
 | .d x,y,h=>by
   cases y with
   |d y=>simp only[J.dV,afX,beq_iff_eq]at h;rw[J.ay,D.J1 _ _ h]
   |_=>simp [J.dV]at h
 | .agg a,y,h=>by
   cases y with
   |agg b=>simp only[J.dV,afX,beq_iff_eq]at h;rw[J.ay,J.sH σ _ _ h]
   |_=>simp [J.dV]at h
 | .bp a,y,h=>by
   cases y with
   |bp b=>simp only[J.dV,afX,beq_iff_eq]at h;rw[J.ay,J.sH σ _ _ h]
   |_=>simp [J.dV]at h
 | .fn f a,y,h=>by
   cases y with
   |fn g b=>simp only[J.dV,afX,beq_iff_eq]at h;rw[J.ay,J.sH σ _ _ h.2,h.1]
   |_=>simp [J.dV]at h
 | .ptr n o,y,h=>by
   cases y with
   |ptr m p=>simp only[J.dV,afX,beq_iff_eq]at h;rw[J.ay,h.1,h.2]
   |_=>simp [J.dV]at h
 | .aY xs i o,y,h=>by
   cases y with
   |aY ys j p=>simp only[J.dV,afX,beq_iff_eq]at h;rw[J.ay,D.xX _ _ h.1,h.2.1,h.2.2]
   |_=>simp [J.dV]at h
 | .own n xs,y,h=>by
   cases y with
   |own m ys=>simp only[J.dV,afX,beq_iff_eq]at h;rw[J.ay,D.xX _ _ h.2,h.1]
   |_=>simp [J.dV]at h
 | .full xs,y,h=>by
   cases y with
   |full ys=>simp only[J.dV,afX,beq_iff_eq]at h;rw[J.ay,D.xX _ _ h]
   |_=>simp [J.dV]at h
 | .row n i1 i2 i3 i4,y,h=>by
   cases y with
   |row m j1 j2 j3 j4=>simp only[J.dV,afX,beq_iff_eq]at h;rw[J.ay,h.1,h.2.1,h.2.2.1,h.2.2.2.1,h.2.2.2.2]
   |_=>simp [J.dV]at h
 | .vec n i1 i2 i3 i4,y,h=>by
   cases y with
   |vec m j1 j2 j3 j4=>simp only[J.dV,afX,beq_iff_eq]at h;rw[J.ay,h.1,h.2.1,h.2.2.1,h.2.2.2.1,h.2.2.2.2]
   |_=>simp [J.dV]at h
 | .cz n i1 i2 i3 i4,y,h=>by
   cases y with
   |cz m j1 j2 j3 j4=>simp only[J.dV,afX,beq_iff_eq]at h;rw[J.ay,h.1,h.2.1,h.2.2.1,h.2.2.2.1,h.2.2.2.2]
   |_=>simp [J.dV]at h
 | .mp n,y,h=>by
   cases y with
   |mp m=>simp only[J.dV,afX,beq_iff_eq]at h;rw[J.ay,h]
   |_=>simp [J.dV]at h
 | .cm n,y,h=>by
   cases y with
   |cm m=>simp only[J.dV,afX,beq_iff_eq]at h;rw[J.ay,h]
   |_=>simp [J.dV]at h
 | .dead,y,h=>by
   cases y with
   |dead=>rw[J.ay]
   |_=>simp [J.dV]at h
 | .hid _,y,h=>by simp [J.dV]at h
theorem J.sH(σ:Nat->Nat):∀x y:agK J,J.nf σ x y=true->y=J.cZ σ x
 |[],y,h=>by
  cases y with
  |nil=>rw[J.cZ]
  |cons=>simp [J.nf]at h
 |x::xs,l,h=>by
  cases l with
  |nil=>simp [J.nf]at h
  |cons y ys=>simp only[J.nf,afX]at h;rw[J.cZ,J.Cd σ _ _ h.1,J.sH σ _ _ h.2]
end
def uO:agK (agL×D)->agK (agL×D)->Bool
 |[],[]=>true
 |(k,d)::l,(k',d')::l'=>bL k==bL k'&&D.p8 d d'&&uO l l'
 |_,_=>false
theorem NO:∀x y,uO x y=true->x=y
 |[],[],_=>rfl
 |(k,d)::l,(k',d')::l',h=>by
  rw[uO,afX,afX]at h;rw[nN (beq_iff_eq.1 h.1.1),D.J1 _ _ h.1.2,NO l l' h.2]
 |[],_::_,h=>by simp [uO]at h
 |_::_,[],h=>by simp [uO]at h
def vx(σ:Nat->Nat):agK (agK J)->agK (agK J)->Bool
 |[],[]=>true
 |x::xs,y::ys=>J.nf σ x y&&vx σ xs ys
 |_,_=>false
theorem Tw(σ:Nat->Nat):∀x y,vx σ x y=true->y=x.map (J.cZ σ)
 |[],[],_=>rfl
 |x::xs,y::ys,h=>by
  rw[vx,afX]at h;rw[agl,J.sH σ x y h.1,Tw σ xs ys h.2]
 |[],_::_,h=>by simp [vx]at h
 |_::_,[],h=>by simp [vx]at h
def aj.dV(σ:Nat->Nat):aj->aj->Bool
 | .cells a,y=>(match y with| .cells b=>J.nf σ a b|_=>false)
 | .front e k l,y=>(match y with| .front e' k' l'=>e==e'&&(k==k'&&l==l')|_=>false)
 | .vec e k cs,y=>(match y with| .vec e' k' ds=>e==e'&&(k==k'&&vx σ cs ds)|_=>false)
 | .map kv,y=>(match y with| .map Bk=>uO kv Bk|_=>false)
 | .eE _,_=>false
 | .it sn cs,y=>(match y with| .it sn' ds=>sn==sn'&&J.nf σ cs ds|_=>false)
 | .gone,y=>(match y with| .gone=>true|_=>false)
 | .lp ..,_=>false
theorem aj.Cd(σ:Nat->Nat)(x y:aj)(h:aj.dV σ x y=true):y=x.ay σ:=by
 cases x<;>cases y<;>simp only[aj.dV,afX,beq_iff_eq,Bool.false_eq_true]at h
 ·rw[aj.ay,J.sH σ _ _ h]
 ·rw[aj.ay,h.1,h.2.1,h.2.2]
 ·rw[aj.ay,h.1,h.2.1,Tw σ _ _ h.2.2]
 ·rw[aj.ay,NO _ _ h]
 ·rw[aj.ay,h.1,J.sH σ _ _ h.2]
 ·rfl
def dS(h0:Nat)(p:agK Nat)(i:Nat):Nat:=bif bB h0 i then p.getD (i-h0) i else i
def vt(ts uB:agK (Nat×J))(ks:agK Nat)(i:Nat):Nat:=
 match ks with
 |[]=>i
 |d::ks=>match aQ ts d,aQ uB d with
  | .ptr n _, .ptr m _=>bif n==i then m else vt ts uB ks i
  | .own n _, .own m _=>bif n==i then m else vt ts uB ks i
  | .vec n _ _ _ _, .vec m _ _ _ _=>bif n==i then m else vt ts uB ks i
  | .mp n, .mp m=>bif n==i then m else vt ts uB ks i
  |_,_=>vt ts uB ks i
def AG(s s':St)(ks:agK Nat)(h0:Nat):Nat->agK Nat
 |0=>[]
 |k+1=>vt s.t s'.t ks h0::AG s s' ks (h0+1) k
def Oo(h0:Nat)(ks:agK Nat)(s s':St)(p q:agK Nat):Bool:=
 (s'.h.length==s.h.length)&&(((List.range s.h.length).all λi=>bB (dS h0 p i+1) s.h.length&&bB (dS h0 q i+1) s.h.length&&dS h0 q (dS h0 p i)==i&&dS h0 p (dS h0 q i)==i)&&(ks.all (λd=>J.dV (dS h0 p) (aQ s.t d) (aQ s'.t d))&&
  ((List.range s.h.length).all λi=>match s.h[i]?,s'.h[dS h0 p i]? with
    |some B,some B'=>aj.dV (dS h0 p) B B'
    |_,_=>false)))
def N7(h0:Nat)(ks:agK Nat)(s s':St):Bool:=Oo h0 ks s s' (AG s s' ks h0 (s.h.length-h0)) (AG s' s ks h0 (s.h.length-h0))
structure jl(ks:List Nat)(s0 s:St):Prop where
 n:s.n=s0.n
 t:∀d,d ∉ ks->aQ s.t d=aQ s0.t d
theorem jl.refl(ks:agK Nat)(s:St):jl ks s s:=⟨rfl,λ_ _=>rfl⟩
theorem jl.put{ks:agK Nat}{s0 s:St}(h:jl ks s0 s)(h1:agK aj){d:agM Nat}(x:J)(hd:∀k,d=some k->k∈ks):jl ks s0 ((s.wh h1).put d x):=
 ⟨by rw[nZ];exact h.n,λi hi=>by
  rw[o7,if_neg]
  ·exact h.t i hi
  ·rintro⟨e,_⟩;exact hi (hd i e)⟩
theorem afI{N0 h0:Nat}{ks:agK Nat}{s0 s s':St}(hN:N0<=h0)(uc:∀i,(aQ s0.t i).aA h0=true)(hb:jl ks s0 s)(dZ:jl ks s0 s')(h:N7 h0 ks s s'=true):SLe N0 s s':=by
 unfold N7 at h;generalize AG s s' ks h0 (s.h.length-h0)=p at h;generalize AG s' s ks h0 (s.h.length-h0)=q at h;unfold Oo at h;simp only[afX,beq_iff_eq,agm,List.mem_range,cN]at h;obtain⟨h1,h2,h3,h4⟩:=h;have s6:∀i,i<h0->dS h0 p i=i:=λi hi=>by
  unfold dS;have:bB h0 i=false:=by rw[<-Bool.not_eq_true,cN];omega
  rw[this];rfl
 refine SLe.ay (dS h0 p) (dS h0 q) (hb.n.trans dZ.n.symm) h1 (λi hi=>(h2 i hi).1.1.1) (λi hi=>(h2 i hi).1.1.2) (λi hi=>(h2 i hi).1.2) (λi hi=>(h2 i hi).2) (λi hi=>s6 i (by omega)) (λi _=> ?_) λi hi=> ?_
 ·left
  by_cases hk:i∈ks
  ·exact J.Cd _ _ _ (h3 i hk)
  ·rw[hb.t i hk,dZ.t i hk,sX (τ:=id) s6 _ (uc i),wZ]
 ·have h5:=h4 i hi;split at h5
  ·next B B' e1 e2=>rw[e1,e2,aj.Cd _ _ _ h5];rfl
  ·cases h5
def FE(N0:Nat)(K:St->Prop):Prop:=∀s s',SLe N0 s s'->K s'->K s
theorem FE.c{N0:Nat}{K:St->Prop}(h:FE N0 K):sh K:=λs s' e hk=>h s' s (SLe.of_eq e.symm) hk
theorem afh{P:agN}{r:agM Nat}{N0:Nat}{s:St}{Q:Exit->St->Prop}{m:Bool}{id:Nat}{ops:Array Oper}(hm:P.follows .mixedOrders=true)
 (h:N0<=s.h.length->(∀i,(aQ s.t i).aA s.h.length=true)->lG m P ops (λs1=>∃s2,SLe N0 s1 s2/\Q .normal s2) ops.size (Array.replicate ops.size false) s):aX P r N0 (.region id ops true) Q s:=by
 constructor
 intro G w a n hs hN;obtain⟨d1,d2⟩:=hs.drew;refine wpIn_region_any hm ?_;have hl:=hs.inv.len;refine AQ (G:=G) (w:=w) (N0:=N0) (K:=λs1=>∃s2,SLe N0 s1 s2/\Q .normal s2) (λa' w' hn=> ?_) ops.size _ G _ a s (d1.less hN) hN d2 (h (by omega) λi=>by rw[hl];exact(hs.tmp i).low);obtain⟨G',s',x1,x2,x3,s2,e0,x4⟩:=hn;obtain⟨G2,y1,y2,y3⟩:=e0 G' w' a' x2 x3;exact⟨G2,s2,x1.trans y1,y2,y3,x4⟩
theorem abL{N0:Nat}(Q:St->Prop):FE N0 (λs1=>∃s2,SLe N0 s1 s2/\Q s2):=λ_ _ h ⟨s2,h1,h2⟩=>⟨s2,h.trans h1,h2⟩
def bits(f:Nat->Bool):Nat->Nat
 |0=>0
 |n+1=>bif f n then bits f n|||(1<<<n)else bits f n
theorem CH(f:Nat->Bool):∀(n j:Nat),Nat.testBit (bits f n) j=(decide (j<n)&&f j)
 |0,j=>by simp [bits]
 |n+1,j=>by
  unfold bits;have ih:=CH f n j;cases hf:f n with
  |true=>
   simp only[cond_true,Nat.testBit_or,ih,Nat.one_shiftLeft,Nat.testBit_two_pow];by_cases e:n=j
   ·subst e;simp [hf]
   ·have:decide (j<n+1)=decide (j<n):=by simp;omega
    rw[this];simp [e]
  |false=>
   simp only[cond_false,ih];by_cases e:n=j
   ·subst e;simp [hf]
   ·have:decide (j<n+1)=decide (j<n):=by simp;omega
    rw[this]
def fN{α:Type}(n:Nat)(f:Nat->α):α:=Nat.casesOn (Nat.succ n) (f 0) f
theorem A0{α:Type}(n:Nat)(f:Nat->α):fN n f=f n:=rfl
def fL{α:Type}:agK Nat->(agK Nat->α)->α
 |[],f=>f []
 |n::l,f=>fN n λn=>fL l λl=>f (n::l)
theorem yP{α:Type}:∀(l:agK Nat)(f:agK Nat->α),fL l f=f l
 |[],_=>rfl
 |n::l,f=>by rw[fL,A0,yP l]
section
variable (ops:Array Oper)
def u4(o:Oper)(n j:Nat):Bool:=o.after.any λe=>Region.binds .any e&&(e.on==j||(j==n&&bB n e.on))
def Br(k:Nat):Nat:=match ops[k]? with
 |some o=>bits (u4 o ops.size) (ops.size+1)
 |none=>1<<<ops.size
def Qw(m:Bool)(M:Array Nat)(k j:Nat):Bool:= !(j==k)&&(!((M.getD j 0).testBit k)&&match ops[k]?,ops[j]? with
 |some oi,some oj=> !(oi.apart ops oj&&vL m oi oj)
 |_,_=>true)
def AH(m:Bool)(M:Array Nat)(k:Nat):Nat:=bits (Qw ops m M k) ops.size
def pv:Nat->Nat->agK Nat
 |_,0=>[]
 |k,n+1=>Br ops k::pv (k+1) n
def nA(m:Bool)(M:Array Nat):Nat->Nat->agK Nat
 |_,0=>[]
 |k,n+1=>AH ops m M k::nA m M (k+1) n
end
def ox:agK Nat->Nat->Nat->agK Nat
 |[],_,_=>[]
 |a::A,L,k=>bif !(Nat.testBit L k)&&(L&&&a==a)then k::ox A L (k+1)else ox A L (k+1)
def zX(C:agK Nat)(L:Nat):agK Nat->agM Nat
 |[]=>none
 |k::r=>bif (C.getD k 0)|||L==L then some k else zX C L r
section
variable (ops:Array Oper) (st:Oper->St->agM St) (h0:Nat) (ks A C:agK Nat)
def lK:agK Oper->agK Nat
 |[]=>[]
 |o::l=>match o.dst with
  |some d=>d::lK l
  |none=>lK l
end
theorem Fc:∀{l:agK Oper}{o:Oper},o∈l->∀d,o.dst=some d->d∈lK l
 |[],_,h,_,_=>by cases h
 |a::l,o,h,d,hd=>by
  unfold lK;rcases agq.1 h with rfl|h
  ·rw[hd];simp
  ·split
   ·exact af4 _ (Fc h d hd)
   ·exact Fc h d hd
theorem M4(ops:Array Oper):∀(n k i:Nat),(pv ops k n)[i]?=if i<n then some (Br ops (k+i))else none
 |0,k,i=>by simp [pv]
 |n+1,k,0=>by simp [pv]
 |n+1,k,i+1=>by rw[pv,agx,M4 ops n (k+1) i];simp only[Nat.add_lt_add_iff_right];rw[show k+1+i=k+(i+1) by omega]
theorem NH(ops:Array Oper)(m:Bool)(M:Array Nat):∀(n k i:Nat),(nA ops m M k n)[i]?=if i<n then some (AH ops m M (k+i))else none
 |0,k,i=>by simp [nA]
 |n+1,k,0=>by simp [nA]
 |n+1,k,i+1=>by rw[nA,agx,NH ops m M n (k+1) i];simp only[Nat.add_lt_add_iff_right];rw[show k+1+i=k+(i+1) by omega]
theorem Qj{L:Nat}:∀(A:agK Nat)(k i:Nat),i∈ox A L k↔k<=i/\Nat.testBit L i=false/\∃a,A[i-k]?=some a/\L&&&a=a
 |[],k,i=>by simp [ox]
 |a::A,k,i=>by
  have ih:=Qj (L:=L) A (k+1) i;unfold ox;have key:i∈ox A L (k+1)↔k<i/\Nat.testBit L i=false/\∃b,(a::A)[i-k]?=some b/\L&&&b=b:=by
   rw[ih];constructor
   ·rintro⟨h1,h2,b,h3,h4⟩;refine⟨h1,h2,b,?_,h4⟩;rw[show i-k=(i-(k+1))+1 by omega,agx];exact h3
   ·rintro⟨h1,h2,b,h3,h4⟩;refine⟨h1,h2,b,?_,h4⟩;rw[show i-k=(i-(k+1))+1 by omega,agx]at h3;exact h3
  cases hb:(!(Nat.testBit L k)&&(L&&&a==a))with
  |true=>
   simp only[cond_true,agq,key];simp only[afX,Bool.not_eq_true',beq_iff_eq]at hb;constructor
   ·rintro(rfl|⟨h1,h2⟩)
    ·exact⟨af6 _,hb.1,a,by simp,hb.2⟩
    ·exact⟨by omega,h2⟩
   ·rintro⟨h1,h2⟩;rcases Nat.lt_or_eq_of_le h1 with h|h
    ·exact .inr ⟨h,h2⟩
    ·exact .inl h.symm
  |false=>
   simp only[cond_false,key];constructor
   ·rintro⟨h1,h2⟩;exact⟨by omega,h2⟩
   ·rintro⟨h1,h2,b,h3,h4⟩;rcases Nat.lt_or_eq_of_le h1 with h|h
    ·exact⟨h,h2,b,h3,h4⟩
    ·subst h;simp at h3;subst h3;rw[h2]at hb;simp at hb;exact absurd h4 hb
theorem Rl{C:agK Nat}{L:Nat}:∀{r:agK Nat}{k:Nat},zX C L r=some k->k∈r/\(C.getD k 0)|||L=L
 |[],k,h=>by cases h
 |a::r,k,h=>by
  unfold zX at h;cases hb:((C.getD a 0)|||L==L)with
  |true=>rw[hb]at h;cases h;exact⟨by simp,by simpa using hb⟩
  |false=>rw[hb]at h;have:=Rl h;exact⟨af4 _ this.1,this.2⟩
structure LM(ops:Array Oper)(L:Nat)(listed:Array Bool):Prop where
 sz:listed.size=ops.size
 b:∀i,Nat.testBit L i=listed.getD i false
theorem LM.set{ops:Array Oper}{L:Nat}{listed:Array Bool}(h:LM ops L listed){k:Nat}(hk:k<ops.size):LM ops (L|||(1<<<k)) (listed.setIfInBounds k true):=by
 refine⟨by simp [h.sz],λi=> ?_⟩;rw[Nat.testBit_or,Nat.one_shiftLeft,Nat.testBit_two_pow,h.b i];by_cases e:k=i
 ·subst e;have:k<listed.size:=by rw[h.sz];exact hk
  simp [this]
 ·rw[getD_set_ne false e];simp [e]
theorem LM.ready{ops:Array Oper}{L:Nat}{listed:Array Bool}(h:LM ops L listed)(i:Nat):i∈Region.ready .any ops listed↔i∈ox (pv ops 0 ops.size) L 0:=by
 rw[mem_ready,Qj];simp only[Nat.zero_le,true_and,Nat.sub_zero,M4,agf];have Ma:∀j,ops.size<=j->Nat.testBit L j=false:=λj hj=>by
   rw[h.b,Array.getD_eq_getD_getElem?,Array.getElem?_eq_none (by rw[h.sz];exact hj)];rfl
 constructor
 ·rintro⟨h1,o,ho,h2⟩;have hi:=(aga.1 ho).1;have hgd:listed.getD i false=false:=by
   have cy:i<listed.size:=by rw[h.sz];exact hi
   simpa [cy]using h1
  refine⟨by rw[h.b];exact hgd,_,by rw[if_pos hi],?_⟩;apply Nat.eq_of_testBit_eq;intro j;rw[Nat.testBit_and];unfold Br;rw[ho];simp only[CH];cases hb:(decide (j<ops.size+1)&&u4 o ops.size j)with
  |false=>simp
  |true=>
   simp only[Bool.and_true];rw[afX]at hb;have hb:=hb.2;unfold u4 at hb;rw[Array.any_eq_true']at hb;obtain⟨e,he,hb⟩:=hb;simp only[afX,Bool.or_eq_true,beq_iff_eq,cN]at hb;have h3:=h2 e he hb.1;have:e.on<ops.size:=by
    rcases Nat.lt_or_ge e.on ops.size with hl|hl
    ·exact hl
    ·have:=Ma e.on hl;rw[h.b]at this;rw[this]at h3;cases h3
   rcases hb.2 with hj|⟨_,hj⟩
   ·rw[<-hj,h.b];exact h3
   ·omega
 ·rintro⟨h1,a,ha,h2⟩;split at ha
  ·next hi=>
   cases ha
   have ho:ops[i]?=some ops[i]:=agi hi;refine⟨?_,ops[i],ho,λe he I5=> ?_⟩
   ·rw[h.b]at h1;have cy:i<listed.size:=by rw[h.sz];exact hi
    simpa [cy]using h1
   ·have jh:∀j,j<ops.size+1->u4 ops[i] ops.size j=true->Nat.testBit L j=true:=λj hj hf=>by
     have:=congrArg (λn=>Nat.testBit n j) h2;simp only[Nat.testBit_and]at this;unfold Br at this;rw[ho]at this;simp only[CH]at this;rw[hf]at this
     simpa [hj]using this
    have QD:∀j,(e.on==j||(j==ops.size&&bB ops.size e.on))=true->u4 ops[i] ops.size j=true:=λj hj=>by
     unfold u4;rw[Array.any_eq_true'];exact⟨e,he,by rw[I5,hj];rfl⟩
    rcases Nat.lt_or_ge e.on ops.size with hl|hl
    ·rw[<-h.b];exact jh e.on (by omega) (QD _ (by simp))
    ·have:=jh ops.size (by omega) (QD _ (by simp [cN.2 hl]));rw[Ma _ (af6 _)]at this;cases this
  ·cases ha
section
variable {P:agN} {ops:Array Oper} {st:Oper->St->agM St} {h0:Nat} {m:Bool} {N0:Nat} {K:St->Prop} {s0:St}
end
end Go.Proofs.YtmkmibahjanejaaGreatDoor
namespace Go.Proofs.YtmkmibahjanejaaGreatDoor
open Go.RowKit
inductive Ex
 |n
 |r
 |x (id:Nat)
def Hc{α:Type}(n:Nat)(f:Nat->α):α:=Nat.casesOn (Nat.succ n) (f 0) f
theorem aaG{α:Type}(n:Nat)(f:Nat->α):Hc n f=f n:=rfl
def J.force{α:Type}(x:J)(f:J->α):α:=
 match x with
 | .d (.v (.int k (.ofNat n)))=>Hc n λn=>f (.d (.v (.int k (.ofNat n))))
 | .d (.v (.bool b))=>bif b then f (.d (.v (.bool true)))else f (.d (.v (.bool false)))
 |x=>f x
theorem J.force_eq{α:Type}(x:J)(f:J->α):x.force f=f x:=by
 unfold J.force;split
 ·rw[aaG]
 ·next b=>cases b<;>rfl
 ·rfl
def D5{α:Type}:agK aj->(agK aj->α)->α
 |[],f=>f []
 |b::l,f=>D5 l λr=>f (b::r)
theorem Pp{α:Type}:∀(l:agK aj)(f:agK aj->α),D5 l f=f l
 |[],_=>rfl
 |b::l,f=>by rw[D5,Pp l]
abbrev JJ:=Bool->Nat->Code->St->agM (Ex×St)
abbrev Kd:=FuncId->agK J->agM (agM J)
def afz:agM (agM J)->Bool
 |some none=>true
 |_=>false
mutual
def J.Oq:J->agK Nat
 | .fn _ cs=>J.Jj cs
 |_=>[]
def J.Jj:agK J->agK Nat
 |[]=>[]
 | .ptr n _::l=>n::J.Jj l
 |x::l=>x.Oq++J.Jj l
end
def Gp:agK Nat->J->agK aj->agM (J×agK aj)
 |[],r,h=>some (r,h)
 |b::l,r,h=>match h[b]? with
  |some (.cells cs)=>match lv cs with
   |some ds=>Gp l (r.dJ b ds) ((h.map (aj.dJ b ds)).set b .gone)
   |none=>none
  |_=>none
def Mh:J->agM D
 | .d x=>some x
 |_=>none
def Gb:agK J->agM (agK D)
 |[]=>some []
 |x::l=>match Mh x,Gb l with
  |some d,some r=>some (d::r)
  |_,_=>none
def C7:agK (agK J)->agM (agK (agK D))
 |[]=>some []
 |x::l=>match Gb x,C7 l with
  |some d,some r=>some (d::r)
  |_,_=>none
mutual
def J.Pb:J->Bool
 | .vec .. =>true
 | .agg cs=>J.Gd cs
 | .bp cs=>J.Gd cs
 | .fn _ cs=>J.Gd cs
 |_=>false
def J.Gd:agK J->Bool
 |[]=>false
 |x::l=>x.Pb||J.Gd l
end
def qT:agK Nat->J->agK aj->J×agK aj
 |[],r,h=>(r,h)
 |b::l,r,h=>match h[b]? with
  |some (.vec _ k cs)=>match C7 cs with
   |some xs=>bif xs.all (λc=>c.all D.wz)then(r.cM b k xs).force λr=>D5 ((h.map (aj.nb (J.cM b k xs))).set b .gone) λh=>qT l r h else qT l r h
   |none=>qT l r h
  |_=>qT l r h
def Xy(h:agK aj):agK Nat:=(List.range h.length).reverse++(List.range h.length).reverse
def Fs(r:J)(h:agK aj):agM J:=
 match Gp r.Oq r h with
 |some (r,_)=>some (r.aS 0)
 |none=>none
def Ta(r:J)(h:agK aj):agM J:=
 bif r.Pb then(match qT (Xy h) r h with|(r,h)=>Fs r h)else Fs r h
section
variable (run:JJ) (P:agN) (Qz:Kd)
def bY(lo:Nat)(f:FuncId)(args:agK J)(h:agK aj):agM (J×agK aj):=
 match P.funcs[f]? with
 |some fn=>match fn.body with
  |some c=>Hc (args.length+(fn.ntmps-args.length)) λn=>match run true lo c ⟨n,jU 0 args,h⟩with
   |some (.x _,_)=>none
   |some (_,s)=>match qi P s fn.results.toList with
    |some l=>some (iO l,s.h)
    |none=>none
   |none=>none
  |none=>none
 |none=>none
end
section
variable {run:JJ} {P:agN} {Qz:Kd} {lo:Nat} {s s':St}
end
mutual
theorem xa(m:Nat):∀x:J,x.aA m=true->x.aS m=x
 | .own n xs,h=>by
   rw[J.aA]at h;rw[J.aS];cases e:bB m n with
   |true=>rw[e]at h;cases h
   |false=>rfl
 | .agg cs,h=>by rw[J.aA]at h;rw[J.aS,Er m cs h]
 | .bp cs,h=>by rw[J.aA]at h;rw[J.aS,Er m cs h]
 | .fn f cs,h=>by rw[J.aA]at h;rw[J.aS,Er m cs h]
 | .d _,_=>by simp only[J.aS]
 | .ptr ..,_=>by simp only[J.aS]
 | .aY ..,_=>by simp only[J.aS]
 | .full _,_=>by simp only[J.aS]
 | .row ..,_=>by simp only[J.aS]
 | .mp _,_=>by simp only[J.aS]
 | .cm _,_=>by simp only[J.aS]
 | .vec ..,_=>by simp only[J.aS]
 | .cz ..,_=>by simp only[J.aS]
 | .hid _,_=>by simp only[J.aS]
 | .dead,_=>by simp only[J.aS]
theorem Er(m:Nat):∀l:agK J,J.kK m l=true->J.mn m l=l
 |[],_=>by simp [J.mn]
 |x::l,h=>by
  rw[J.kK,afX]at h;rw[J.mn,xa m x h.1,Er m l h.2]
end
theorem aev{m:Nat}{B:aj}(h:B.aA m=true):B.aS m=B:=by
 cases B with
 |cells cs=>
  simp only[aj.aA,agm]at h;simp only[aj.aS]
  congr 1
  exact(agr λx hx=>xa m x (h x hx)).trans (List.map_id _)
 |lp ls p as bd cs=>
  simp only[aj.aA,agm]at h;simp only[aj.aS]
  congr 1
  exact(agr λx hx=>xa m x (h x hx)).trans (List.map_id _)
 |it sn cs=>
  simp only[aj.aA,agm]at h;simp only[aj.aS]
  congr 1
  exact(agr λx hx=>xa m x (h x hx)).trans (List.map_id _)
 |vec e k cs=>
  simp only[aj.aA,agm]at h;simp only[aj.aS]
  congr 1
  exact(agr λx hx=>(agr λy hy=>xa m y (h x hx y hy)).trans (List.map_id _)).trans (List.map_id _)
 |front e k len=>rfl
 |map kv=>rfl
 |eE kv=>rfl
 |gone=>rfl
theorem HG{m:Nat}{h:agK aj}(e:h.all (aj.aA m)=true):h.map (aj.aS m)=h:=
 (agr λB hB=>aev (agm.1 e B hB)).trans (List.map_id _)
end Go.Proofs.YtmkmibahjanejaaGreatDoor
namespace Go.Proofs.YtmkmibahjanejaaGreatDoor
open Go.RowKit
section
variable {P:agN} {r:agM Nat} {n N0:Nat} {G:Gh} {w:agP} {a:Act} {s:St} {o:Oper} {Q:Exit->St->Prop}
end
theorem b5.cut{P:agN}{f:FuncId}{args:agK J}{h h':agK aj}{r:J}(m:Nat)(hc:b5 P f args h λr1 h1=>r1=r/\h1=h')(h1:h.length<=m)(h2:m<=h'.length)(hb:(((h'.take m).map (aj.aS m)).all (aj.aA m))=true)(hr:(r.aS m).aA m=true):
 b5 P f args h λr1 h1=>r1=r.aS m/\h1=(h'.take m).map (aj.aS m):=by
 refine⟨hc.1,λG w vs hi hl hv=>(hc.2 G w vs hi hl hv).mono λe w' hp=> ?_⟩;obtain⟨v,G',_,_,rfl,hE,hN,cy,IU,rfl,rfl⟩:=hp;exact⟨v,G'.cut m,_,_,rfl,hE.trans (mO _ _ _ _),by rw[<-hi.len];exact h1,H4 cy h2 hb,(IU.aS m).cut hr,rfl,rfl⟩
section
variable {run:JJ} {P:agN} {Qz:Kd} {lo:Nat} {s s':St}
theorem b5.Qa{f:FuncId}{args:agK J}{h0 h h2:agK aj}{r r2:J}{tl:agK (Nat×J)}(hc:b5 P f args h0 λr1 h1=>r1=r/\h1=h)
 (hT:∀(G:Gh)(w:agP)(a:Act),bU G w a ⟨1,[(0,r)],h⟩->∃G',a7 G.N G w G' w/\G'.N=G.N/\bU G' w a ⟨1,(0,r2)::tl,h2⟩):b5 P f args h0 λr1 h1=>r1=r2/\h1=h2:=by
 refine⟨hc.1,λG w vs hi hl hv=>(hc.2 G w vs hi hl hv).mono λe w' hp=> ?_⟩;obtain⟨v,G',_,_,rfl,hE,hN,cy,IU,rfl,rfl⟩:=hp;obtain⟨G2,e1,e2,e3⟩:=hT G' w' {tmps:= #[v],defers:=[]} ⟨rfl,λi=>by
  show ax G' w' _ (aQ [(0,_)] i);rw[kF];split
  ·next ei=>subst ei;exact IU
  ·exact .dead _,cy,n4.nil _ _⟩
 exact⟨v,G2,r2,h2,rfl,hE.trans (e1.less hN),by rw[e2];exact hN,e3.inv,e3.tmp 0,rfl,rfl⟩
theorem QG{f:FuncId}{args:agK J}{h0:agK aj}:∀(l:agK Nat){h h2:agK aj}{r r2:J},(b5 P f args h0 λr1 h1=>r1=r/\h1=h)->Gp l r h=some (r2,h2)->b5 P f args h0 λr1 h1=>r1=r2/\h1=h2
 |[],h,h2,r,r2,hc,e=>by cases e;exact hc
 |b::l,h,h2,r,r2,hc,e=>by
  unfold Gp at e;split at e
  ·next cs e1=>
   split at e
   ·next ds e2=>
    refine QG l (b5.Qa (tl:=[]) hc λG w a hs=> ?_) e;refine hs.AM (b:=b) ?_;simp only[Go.Proofs.YtmkmibahjanejaaGreatDoor.AM,e1,e2];rfl
   ·cases e
  ·cases e
theorem NP:∀{l:agK J}{ds:agK D},Gb l=some ds->l=ds.map J.d
 |[],ds,h=>by cases h;rfl
 |x::l,ds,h=>by
  unfold Gb at h;split at h
  ·next d r e1 e2=>
   cases h
   rw[NP e2];cases x<;>simp [Mh]at e1
   subst e1;rfl
  ·cases h
theorem Sp:∀{l:agK (agK J)}{xs:agK (agK D)},C7 l=some xs->l=bW xs
 |[],xs,h=>by cases h;rfl
 |x::l,xs,h=>by
  unfold C7 at h;split at h
  ·next d r e1 e2=>cases h;rw[Sp e2,NP e1];rfl
  ·cases h
theorem yL{f:FuncId}{args:agK J}{h0:agK aj}:∀(l:agK Nat){h:agK aj}{r:J},(b5 P f args h0 λr1 h1=>r1=r/\h1=h)->b5 P f args h0 λr1 h1=>r1=(qT l r h).1/\h1=(qT l r h).2
 |[],h,r,hc=>hc
 |b::l,h,r,hc=>by
  unfold qT;split
  ·next e k cs e1=>
   split
   ·next xs e2=>
    rw[J.force_eq,Pp,cond_eq_ite];split
    ·next h1=>
     refine yL l (b5.Qa (tl:=[]) hc λG w a hs=> ?_);have e3:=Sp e2;exact hs.SS xs (by show h[b]?=_;rw[e1,e3]) (λc hc=>agm.1 h1 c hc)
    ·exact yL l hc
   ·exact yL l hc
  ·exact yL l hc
theorem Px{f:FuncId}{args:agK J}{h:agK aj}{r r2:J}(hc:b5 P f args [] λr1 h1=>r1=r/\h1=h)(e:Ta r h=some r2)(hb:r2.aA 0=true):gj P f args (·=r2):=by
 have fin:∀{r:J}{h:agK aj},(b5 P f args [] λr1 h1=>r1=r/\h1=h)->(r.aS 0).aA 0=true->gj P f args (·=r.aS 0):=λhc hb=>
  (hc.cut 0 (af6 _) (Nat.zero_le _) (by simp) hb).mono λr1 h1 ⟨k1,k2⟩=>⟨by simpa using k2,k1⟩
 have gen:∀{r:J}{h:agK aj},(b5 P f args [] λr1 h1=>r1=r/\h1=h)->Fs r h=some r2->gj P f args (·=r2):=λhc e=>by
  unfold Fs at e;split at e
  ·next r3 h3 e1=>
   cases e
   exact fin (QG _ hc e1) hb
  ·cases e
 unfold Ta at e;rcases Xd e with⟨_,e⟩|⟨_,e⟩
 ·exact gen (yL _ hc) e
 ·exact gen hc e
end
theorem Pj:∀(H' H e:agK aj),H'.length=H.length->fg (List.range H.length) H' (H++e)=H'++e:=by
 intro H' H e hl;have gen:∀(n:Nat)(a b B r:agK aj),b.length=n->B.length=n->fg ((List.range n).map (a.length+·)) B (a++(b++r))=a++(B++r):=by
  intro n
  induction n with
  |zero=>intro a b B r hb hB;rw[List.length_eq_zero_iff.1 hb,List.length_eq_zero_iff.1 hB];simp [fg]
  |succ n ih=>
   intro a b B r hb hB;cases b with
   |nil=>simp at hb
   |cons b0 b=>
    cases B with
    |nil=>simp at hB
    |cons B0 B=>
     rw[List.range_succ_eq_map,agl,List.map_map,fg];have e1:(a++(b0::b++r)).set (a.length+0) B0=(a++[B0])++(b++r):=by
       rw[Nat.add_zero,List.set_append_right _ _ (af6 _),Nat.sub_self];simp
     have e2:(λx=>a.length+x)∘Nat.succ=λx=>(a++[B0]).length+x:=by
      funext x
      simp only[Function.comp_apply,afW,afY,af7];omega
     rw[e1,e2,ih (a++[B0]) b B r (by simpa using hb) (by simpa using hB)];simp
 have:=gen H.length [] H H' e rfl hl
 simpa using this
theorem HA{P:agN}{k:Nat}{x:J}{H:agK aj}{C:Bool->agK aj->Prop}(hy:YS P k x H C)(e:agK aj)(hb:H.all (aj.aA H.length)=true)(hx:x.aA H.length=true)
 (hC:∀b h',C b h'->h'.length=H.length/\h'.all (aj.aA H.length)=true):YS P k x (H++e) λb h'=>∃H',C b H'/\h'=H'++e:=by
 intro G w v r n hi hv;have ue:∀i,i<H.length->rn (List.range H.length) (H++e).length i=i:=λi h=>vw (List.range H.length) _ i i (by rw[List.getElem?_range h]);have B9:∀y:J,y.aA H.length=true->y.ay (rn (List.range H.length) (H++e).length)=y:=λy hy=>(sX (τ:=id) ue y hy).trans (wZ y);have A1:∀B:aj,B.aA H.length=true->B.ay (rn (List.range H.length) (H++e).length)=B:=λB hB=>(I4 (τ:=id) ue B hB).trans (JM B);obtain⟨G0,bE,oT,pC,LK⟩:=NN (H:=H) (l:=List.range H.length) (h:=H++e) List.nodup_range (λj hj=>by have:=List.mem_range.1 hj;simp;omega) (λi j lq=>by
  obtain⟨az,rfl⟩:i<H.length/\j=i:=by
   have h1:=(afV.1 lq).1;rw[List.length_range]at h1;rw[List.getElem?_range h1]at lq;exact⟨h1,(age lq).symm⟩
  rw[af5 az,afZ az,Option.map_some,A1 _ (agm.1 hb _ (List.getElem_mem az))]) (by simp) hb hi
 obtain⟨hk,p,as,bd,fn,tm,D,h1,h2⟩:=hy G0 w v r n oT (ax.rR pC (by rw[B9 x hx];exact hv) x rfl (by rw[bE];exact hx));have kt:k<H.length:=bE▸hk;have fq:G.aF k=G0.aF k:=by
  have:=pC.aF k hk
  rwa [ue k kt]at this
 refine⟨by have:=pC.lt k hk;rwa [ue k kt]at this,p,as,bd,fn,tm,D,by rw[fq];exact h1,?_⟩;rw[fq];refine h2.mono λe1 w' hp=> ?_;obtain⟨b,G1,H',rfl,hE,eO,hi1,hc⟩:=hp;rw[bE]at hE eO;obtain⟨G2,a1,a2,a3,_⟩:=LK G1 w' H' hE eO hi1;obtain⟨c1,c2⟩:=hC b H' hc;refine⟨b,G2,H'++e,rfl,a1,a2,?_,H',hc,rfl⟩;have hm:H'.map (aj.ay (rn (List.range H.length) (H++e).length))=H':=(agr λB hB=>A1 B (agm.1 c2 B hB)).trans (List.map_id _);rw[hm,Pj H' H e c1]at a3;exact a3
def kE(P:agN)(k:Nat):agK J->(Bool->agK aj->Prop)->agK aj->Prop
 |[],C,h=>C true h
 |x::l,C,h=>YS P k x h λb h1=>(h1.length=h.length/\h1.all (aj.aA h.length)=true)/\bif b then kE P k l C h1 else C false h1
theorem R3{P:agN}{k:Nat}:∀(l:agK J){C C':Bool->agK aj->Prop}{h:agK aj},(∀b h1,C b h1->C' b h1)->kE P k l C h->kE P k l C' h
 |[],_,_,_,hc,hs=>hc _ _ hs
 |x::l,C,C',h,hc,hs=>YS.mono hs λb h1 ⟨h2,h3⟩=>⟨h2,by
  cases b with
  |true=>exact R3 l hc h3
  |false=>exact hc _ _ h3⟩
theorem Og{P:agN}{k:Nat}:∀(l l':agK J){C:Bool->agK aj->Prop}{h:agK aj},kE P k (l++l') C h->kE P k l (λb h1=>bif b then kE P k l' C h1 else C false h1) h
 |[],_,_,_,hs=>hs
 |x::l,l',C,h,hs=>YS.mono hs λb h1 ⟨h2,h3⟩=>⟨h2,by
  cases b with
  |true=>exact Og l l' h3
  |false=>exact h3⟩
def qM(h h1:agK aj):Prop:=h1.length=h.length/\h1.all (aj.aA h.length)=true
def G9(P:agN)(gf:FuncId)(cF:agK J)(xs:agK J):Prop:=
 ∀(k:Nat)(h:agK aj)(C:Bool->agK aj->Prop),h.all (aj.aA h.length)=true->k<h.length->kE P k xs C h->b5 P gf (.cm k::cF) h λ_ h1=>∃b,C b h1
def Mn(P:agN)(T:TypeId):agK J:=match gi P T with|some z=>z.cells.toList.map λu=> .d (.v u)|none=>[]
section
variable {P:agN} {r:agM Nat} {N0:Nat} {Q:Exit->St->Prop} {ops:Array Oper} {o o1 o2 o3 o4 o5:Oper} {s:St} {K:St->Prop} {id:Nat}
theorem bN{rest:agK Oper}(hg:o.guard=none)(h:lu P o (jk P ops rest K) s):jk P ops (o::rest) K s:=by
 unfold jk fk;rw[hg];exact h
theorem xg{n d:Nat}{t:agK (Nat×J)}{h h':agK aj}{x:J}{hd:HD}(hx:jK P o.op (ev ⟨n,t,h⟩) h=some (x,hd))(gz:o.dst=some d)(hn:Nat.ble n d=false)(he:hd.app h=h')(hK:K ⟨n,(d,x)::t,h'⟩):lu P o K ⟨n,t,h⟩:=by
 refine .inr (.inr (.inl (Ov hx ?_)));show K ((St.wh ⟨n,t,h⟩ (hd.app h)).put o.dst x);rw[gz,he];have az:d<n:=Nat.lt_of_not_le λhle=>by rw[Nat.ble_eq_true_of_le hle]at hn;cases hn
 rw[nQ (s:=St.wh ⟨n,t,h⟩ h') az];exact hK
theorem cp{n d:Nat}{t:agK (Nat×J)}{h:agK aj}{x:J}(hx:jK P o.op (ev ⟨n,t,h⟩) h=some (x, .same))(gz:o.dst=some d)(hn:Nat.ble n d=false)(hK:K ⟨n,(d,x)::t,h⟩):lu P o K ⟨n,t,h⟩:=xg hx gz hn rfl hK
theorem GV{n:Nat}{t:agK (Nat×J)}{h h':agK aj}{x:J}{hd:HD}(hx:jK P o.op (ev ⟨n,t,h⟩) h=some (x,hd))(gz:o.dst=none)(he:hd.app h=h')(hK:K ⟨n,t,h'⟩):lu P o K ⟨n,t,h⟩:=by
 refine .inr (.inr (.inl (Ov hx ?_)));show K ((St.wh ⟨n,t,h⟩ (hd.app h)).put o.dst x);rw[gz,he];exact hK
theorem Wz{h l:agK aj}{i off:Nat}{cs:agK J}(hi:l[i]?=some (.cells cs)):sT (h++l) (.ptr (h.length+i) off)=some (cs,off):=by
 unfold sT;simp only;rw[agb (agB _ _),Nat.add_sub_cancel_left,hi]
theorem uC{ρ:Operand->J}{h l:agK aj}{T:TypeId}{p:Operand}{i off:Nat}{cs:agK J}{x:J}(hp:ρ p= .ptr (h.length+i) off)(hi:l[i]?=some (.cells cs))(hl:vK P T cs off=some x):jK P (.load T p) ρ (h++l)=some (x, .same):=by
 unfold jK;simp only[hp,Wz hi,hl,pX]
theorem TX{ρ:Operand->J}{h l:agK aj}{T:TypeId}{y:Operand}{v:J}(hv:ρ y=v)(hb:v.gZ=true):jK P (.box T y) ρ (h++l)=some (.ptr (h.length+l.length) 0, .push (.cells v.cells)):=by
 subst hv;unfold jK;simp only[hb,cond_true,afW]
theorem Js{ρ:Operand->J}{h l:agK aj}{T:TypeId}(hz:(gi P T).isSome=true):jK P (.alloc T) ρ (h++l)=some (.ptr (h.length+l.length) 0, .push (.cells (Mn P T))):=by
 unfold jK Mn;cases e:gi P T with
 |none=>rw[e]at hz;cases hz
 |some z=>simp only[e,afW]
theorem F7{h l:agK aj}{B:aj}:(HD.push B).app (h++l)=h++(l++[B]):=by simp [HD.app]
theorem GK{ρ:Operand->J}{h l:agK aj}{T:TypeId}{p y:Operand}{i off k:Nat}{cs:agK J}{v:J}(hp:ρ p= .ptr (h.length+i) off)(hi:l[i]?=some (.cells cs))(hk:eD P T=some k)(hv:ρ y=v)(hb:(k==v.cells.length&&v.gZ&&bB (off+v.cells.length) cs.length)=true){bC:agK J}(eN:gM cs off v.cells=bC):
 jK P (.store T p y) ρ (h++l)=some (.d (.v undef), .set (h.length+i) (.cells bC)):=by
 subst hv eN;unfold jK;simp only[hp,hk];rw[agb (agB _ _),Nat.add_sub_cancel_left,hi];simp only[hb,cond_true]
theorem HF{ρ:Operand->J}{h:agK aj}{T:TypeId}{a i:Operand}{xs:agK (agK D)}{q e k:Nat}{c:agK D}(hx:ρ a= .d (.sl xs))(hi:ρ i= .d (.v (.int .i64 (Int.ofNat q))))(hT:dn P T=some (e,k))(hc:xs[q]?=some c)(hk:(c.length==k)=true):jK P (.indexAddr T a i) ρ h=some (.aY [c] 0 0, .same):=by
 unfold jK;simp only[hx,hi];unfold EI;simp only[hT,J.ep,J.int?,zN,hc,hk,cond_true,pX]
theorem Jn{h l:agK aj}{B:aj}{i:Nat}:(HD.set (h.length+i) B).app (h++l)=h++l.set i B:=by
 simp only[HD.app];rw[List.set_append_right _ _ (agB _ _),Nat.add_sub_cancel_left]
theorem ab0{n d:Nat}{t:agK (Nat×J)}{h:agK aj}{T:TypeId}{x y:Operand}{p:TypeId}{xs:agK (agK D)}{q:TypeId×Nat}(ho:o.op= .binOp .eql T x y p)(hx:(ev ⟨n,t,h⟩ x).ep=some xs)(hy:ev ⟨n,t,h⟩ y= .d (.v (.slice none 0 0)))(hT:dn P T=some q)(gz:o.dst=some d)(hn:Nat.ble n d=false)
 (h1:xs=[]->K ⟨n,(d, .d (.v (.bool true)))::t,h⟩) (h2:K ⟨n,(d, .d (.v (.bool false)))::t,h⟩):lu P o K ⟨n,t,h⟩:=by
 refine .inr (.inl ?_);have az:d<n:=Nat.lt_of_not_le λhle=>by rw[Nat.ble_eq_true_of_le hle]at hn;cases hn
 unfold AO;simp only[ho,hx,hy,hT,uw,gz,nQ (s:=⟨n,t,h⟩) az];exact⟨h1,h2⟩
theorem B4{n d k:Nat}{t:agK (Nat×J)}{h:agK aj}{c:Call}{f:Operand}{x:J}(ho:o.op= .call c)(hc:c.callee= .value f)(hf:ev ⟨n,t,h⟩ f= .cm k)(hx:c.args.toList.map (ev ⟨n,t,h⟩)=[x])(gz:o.dst=some d)(hn:Nat.ble n d=false)
 (hy:YS P k x h λb h'=>K ⟨n,(d, .d (.v (.bool b)))::t,h'⟩):lu P o K ⟨n,t,h⟩:=by
 refine .inr (.inr (.inr (.inl ?_)));unfold FV;simp only[ho,hc,hf,hx];refine hy.mono λb h' hK=> ?_;have az:d<n:=Nat.lt_of_not_le λhle=>by rw[Nat.ble_eq_true_of_le hle]at hn;cases hn
 rw[gz,nQ (s:=St.wh ⟨n,t,h⟩ h') az];exact hK
theorem MM{n:Nat}{t:agK (Nat×J)}{h:agK aj}{c:Call}{f:Operand}{g:FuncId}{cF:agK J}(ho:o.op= .call c)(hc:c.callee= .value f)(hf:ev ⟨n,t,h⟩ f= .fn g cF)
 (hA:b5 P g (c.args.toList.map (ev ⟨n,t,h⟩)++cF) h λx h'=>K ((St.wh ⟨n,t,h⟩ h').put o.dst x)):lu P o K ⟨n,t,h⟩:=by
 refine .inr (.inr (.inl ?_));unfold nC bM;simp only[ho,hc,hf];exact hA
end
theorem Wb{P:agN}{f:FuncId}{args:agK J}{H:agK aj}{K:J->agK aj->Prop}(hc:b5 P f args H K)(e:agK aj)(hb:H.all (aj.aA H.length)=true)(ha:args.all (J.aA H.length)=true)
 (hK:∀r h',K r h'->h'.length=H.length/\h'.all (aj.aA H.length)=true/\r.aA H.length=true):b5 P f args (H++e) λr h'=>∃H',K r H'/\h'=H'++e:=by
 have ue:∀i,i<H.length->rn (List.range H.length) (H++e).length i=i:=λi h=>vw (List.range H.length) _ i i (by rw[List.getElem?_range h]);have B9:∀y:J,y.aA H.length=true->y.ay (rn (List.range H.length) (H++e).length)=y:=λy hy=>(sX (τ:=id) ue y hy).trans (wZ y);have A1:∀B:aj,B.aA H.length=true->B.ay (rn (List.range H.length) (H++e).length)=B:=λB hB=>(I4 (τ:=id) ue B hB).trans (JM B);have:=hc.Mx (l:=List.range H.length) (h:=H++e) List.nodup_range (λj hj=>by have:=List.mem_range.1 hj;simp;omega) (λi j lq=>by
  obtain⟨az,rfl⟩:i<H.length/\j=i:=by
   have h1:=(afV.1 lq).1;rw[List.length_range]at h1;rw[List.getElem?_range h1]at lq;exact⟨h1,(age lq).symm⟩
  rw[af5 az,afZ az,Option.map_some,A1 _ (agm.1 hb _ (List.getElem_mem az))]) (by simp) ha hb
 have ea:args.map (J.ay (rn (List.range H.length) (H++e).length))=args:=(agr λx hx=>B9 x (agm.1 ha x hx)).trans (List.map_id _);rw[ea]at this;refine this.mono λr' h' ⟨r,H',k1,k2,k3⟩=> ?_;obtain⟨c1,c2,c3⟩:=hK r H' k1;have hm:H'.map (aj.ay (rn (List.range H.length) (H++e).length))=H':=(agr λB hB=>A1 B (agm.1 c2 B hB)).trans (List.map_id _);rw[hm,Pj H' H e c1]at k3;rw[B9 r c3]at k2;exact⟨H',by rw[k2];exact k1,k3⟩
theorem aeU{h:agK aj}{p:J}{K K':agK J->Nat->Prop}(hk:∀cs off,K cs off->K' cs off)(hp:oK h p K):oK h p K':=by
 unfold oK at hp ⊢;split at hp
 ·next n off=>
  split at hp
  ·next cs e=>(try simp only[e]);exact hk _ _ hp
  ·exact hp.elim
 ·next xs i off=>
  split at hp
  ·next cs e=>(try simp only[e]);exact hk _ _ hp
  ·exact hp.elim
 ·exact hp.elim
theorem Vc{P:agN}{T:TypeId}{h:agK aj}{p:J}{K K':J->Prop}(hk:∀x,K x->K' x)(hp:lH P T h p K):lH P T h p K':=
 aeU (λcs off hc=>by
  split at hc
  ·next k e1 e2=>
   try simp only[e1,e2]
   exact bf.2 ⟨(bf.1 hc).1,hk _ (bf.1 hc).2⟩
  ·next k e1 e2=>
   try simp only[e1,e2]
   split at hc
   ·next c e3=>(try simp only[e3]);exact hk _ hc
   ·exact hc.elim
  ·exact hc.elim) hp
theorem aeI{P:agN}{fn:Func}{n:Nat}{t:agK (Nat×J)}{H l:agK aj}{K:J->agK aj->Prop}(hb:H.all (aj.aA H.length)=true)(hr:kr P ⟨n,t,H++l⟩ fn.results.toList λrs=>((iO rs).aS H.length).aA H.length=true/\K ((iO rs).aS H.length) H):o8 P fn H.length K ⟨n,t,H++l⟩:=by
 have ht:(((H++l).take H.length).map (aj.aS H.length))=H:=by rw[List.take_left];exact HG hb
 unfold o8;show kr P ⟨n,t,H++l⟩ fn.results.toList λrs=>H.length<=(H++l).length/\_;simp only[ht];have gen:∀(rv:agK ResultVar){C C':agK J->Prop},(∀x,C x->C' x)->kr P ⟨n,t,H++l⟩ rv C->kr P ⟨n,t,H++l⟩ rv C':=by
  intro rv
  induction rv with
  |nil=>intro C C' hc h;exact hc _ h
  |cons x rv ih=>
   intro C C' hc h;cases x with
   |tmp t=>exact ih (λy hy=>hc _ hy) h
   |cell p t=>exact Vc (λx h=>ih (λy hy=>hc _ hy) h) h
 exact gen _ (λrs ⟨h1,h2⟩=>⟨by simp,h1,hb,h2⟩) hr
theorem Bh{n:Nat}{t:agK (Nat×J)}{H l:agK aj}(live:agK Nat)(hb:H.all (aj.aA H.length)=true):(⟨n,t,H++l⟩:St).mask live H.length=⟨n,live.map λk=>(k,(aQ t k).aS H.length),H⟩:=by
 unfold St.mask;rw[show((H++l).take H.length).map (aj.aS H.length)=H by rw[List.take_left];exact HG hb]
theorem yO{n:Nat}{t:agK (Nat×J)}{H l:agK aj}(live:agK Nat)(hb:H.all (aj.aA H.length)=true)(hl:(live.all λk=>((aQ t k).aS H.length).aA H.length)=true):(⟨n,t,H++l⟩:St).wT live H.length:=
 ⟨by simp,hl,by rw[show((H++l).take H.length).map (aj.aS H.length)=H by rw[List.take_left];exact HG hb];exact hb⟩
theorem SL{n:Nat}{t:agK (Nat×J)}{H:agK aj}(live:agK Nat)(hb:H.all (aj.aA H.length)=true):(⟨n,t,H⟩:St).mask live H.length=⟨n,live.map λk=>(k,(aQ t k).aS H.length),H⟩:=by
 have:=Bh (n:=n) (t:=t) (l:=[]) live hb
 rwa [agh]at this
theorem NM{n:Nat}{t:agK (Nat×J)}{H:agK aj}(live:agK Nat)(hb:H.all (aj.aA H.length)=true)(hl:(live.all λk=>((aQ t k).aS H.length).aA H.length)=true):(⟨n,t,H⟩:St).wT live H.length:=by
 have:=yO (n:=n) (t:=t) (l:=[]) live hb hl
 rwa [agh]at this
theorem CF{k m:Nat}(h:k<m):((J.cm k).aS m).aA m=true:=by simp [J.aS,J.aA,bB];omega
structure BH(s:St)(m:Nat)(s':St):Prop where
 cut:∀{G:Gh}{w:World}{a:Act},bU G w a s->bU (G.cut m) w a s'
theorem BH.S{s s':St}{live:agK Nat}{m:Nat}(h:gr s live m=some s'):BH s m s':=⟨λhs=>hs.gr h⟩
theorem Xe{P:agN}{r:agM Nat}{N0 m:Nat}{c:Code}{s:St}{R R':Exit->St->Prop}(hm:N0<=m)(h:aX P r N0 c R s)(hR:∀e s2,R e s2->∃s',BH s2 m s'/\R' e s'):aX P r N0 c R' s:=by
 constructor
 intro G w a n hs hN;refine wpIn_mono (h.run G w a n hs hN) λe a1 w1 hn=> ?_;obtain⟨G1,s1,hE,_,dK,hq⟩:=hn;obtain⟨s',k1,k2⟩:=hR e s1 hq;exact⟨G1.cut m,s',hE.trans (mO _ _ _ _),hm,k1.cut dK,k2⟩
def EB(m:Nat)(n:Nat)(T:agK (Nat×J))(LP:aj)(next:agK aj->Prop)(Q:Exit->St->Prop)(e:Exit)(s:St):Prop:=
 ∃hs,hs.length=m/\hs.all (aj.aA (m+1))=true/\BH s (m+1) ⟨s.n,[],hs++[LP]⟩/\match e with
  | .normal=>next hs
  | .ret=>Q .ret ⟨n,T,hs++[.gone]⟩
  | .exit i=>Q (.exit i) ⟨n,T,hs++[.gone]⟩
  |_=>False
theorem Jv{P:agN}{N0 n m:Nat}{T:agK (Nat×J)}{H:agK aj}{Q:Exit->St->Prop}{g:Operand}{p:Nat}{as bd:Code}{gf:FuncId}{cF:agK J}(hg:ev ⟨n,T,H⟩ g= .fn gf cF){α:Type}{enc:α->J}{xs:agK α}(hI:G9 P gf cF (xs.map enc))
 {ι:Type} (Hs:ι->agK aj) (I:ι->agK α->Prop) (i0:ι) (h0:H=Hs i0) (oT:I i0 xs) (hl:∀i,(Hs i).length=m) (na:∀i,(Hs i).all (aj.aA (m+1))=true) (hT:(dh n T).all (J.aA (m+1))=true) (hp:Nat.ble n p=false)
 (round:∀i x l,I i (x::l)->∀(rr:Nat)(a b:Code),aX P (some rr) (m+1) as (fA (λs1=>∃hs e,hs.length=m/\s1.h=hs++ .lp .ready p a b (dh n T)::e/\
  aX P (some rr) (m+1) bd (EB m n T (.lp .busy p a b (dh n T)) (λbR=>∃i',bR=Hs i'/\I i' l) Q) ⟨s1.n,s1.t,hs++ .lp .busy p a b (dh n T)::e⟩) (λ_ _=>False)) ⟨n,(p,enc x)::jU 0 (dh n T),Hs i++[.lp .ready p a b (dh n T)]⟩)
 (done:∀i,I i []->Q .normal ⟨n,T,Hs i++[.gone]⟩):aX P none N0 (.rangeFunc g #[p] as bd) Q ⟨n,T,H⟩:=by
 subst h0;have hm:(Hs i0).length=m:=hl i0;have Rs:(dh n T).length=n:=by simp [dh]
 have Ee:∀ls,(aj.lp ls p as bd (dh n T)).aA (m+1)=true:=λls=>hT;refine Wu hg ?_;show b5 P gf (.cm (Hs i0).length::cF) (Hs i0++[.lp .ready p as bd (dh n T)]) _;have BD:∀(hs:agK aj)(B B':aj),hs.length=m->(hs++[B]).set m B'=hs++[B']:=λhs B B' h=>by
  rw[List.set_append_right _ _ (Nat.le_of_eq h),h,Nat.sub_self];rfl
 have dt:∀(hs:agK aj)(B:aj)(e:agK aj),hs.length=m->(hs++B::e)[m]?=some B:=λhs B e h=>by
  rw[agb (Nat.le_of_eq h),h,Nat.sub_self];rfl
 have seq:∀(l:agK α)(i:ι),I i l->kE P m (l.map enc) (λb h1=>∃(hs:agK aj)(ls:LS),hs.length=m/\h1=hs++[.lp ls p as bd (dh n T)]/\Lk P N0 Q ⟨n,T,hs++[.gone]⟩ ls) (Hs i++[.lp .ready p as bd (dh n T)]):=by
  intro l
  induction l with
  |nil=>intro i hi;exact⟨Hs i, .ready,hl i,rfl,done i hi⟩
  |cons x l ih=>
   intro i hi;have hlen:(Hs i++[aj.lp .ready p as bd (dh n T)]).length=m+1:=by simp [hl i]
   refine X9 ⟨p,as,bd,dh n T,dt _ _ [] (hl i),?_,λrr=> ?_⟩
   ·rw[Rs];exact Nat.lt_of_not_le λhle=>by rw[Nat.ble_eq_true_of_le hle]at hp;cases hp
   ·rw[hlen,Rs];refine(round i x l hi rr as bd).mono λe s1 dK=> ?_;cases e with
    |normal=>
     obtain⟨hs,e',k1,k2,k3⟩:=dK;refine⟨p,as,bd,dh n T,by rw[k2];exact dt _ _ _ k1,?_⟩;have XO:s1.h.set m (.lp .busy p as bd (dh n T))=hs++ .lp .busy p as bd (dh n T)::e':=by
      rw[k2,List.set_append_right _ _ (Nat.le_of_eq k1),k1,Nat.sub_self];rfl
     rw[XO];refine Xe (af6 _) k3 λe2 s2 hr=> ?_;obtain⟨wm,c2,c5,c3,c4⟩:=hr;refine⟨_,c3,?_⟩;have dw:∀B,B.aA (m+1)=true->(wm++[B]).all (aj.aA (m+1))=true:=λB hB=>by
       rw[List.all_append,c5];simp [hB]
     have yY:(wm++[aj.lp .busy p as bd (dh n T)])[m]?=some (.lp .busy p as bd (dh n T)):=dt _ _ [] c2;cases e2 with
     |normal=>
      obtain⟨i',rfl,cy⟩:=c4;refine⟨p,as,bd,dh n T,yY,?_⟩;simp only[BD _ _ _ c2];exact⟨⟨by simp [hl],dw _ (Ee _)⟩,ih i' cy⟩
     |ret=>
      refine⟨p,as,bd,dh n T,yY,?_⟩;simp only[BD _ _ _ c2];exact⟨⟨by simp [c2],dw _ (Ee _)⟩,wm, .done .ret,c2,rfl,e7 c4⟩
     |exit j=>
      refine⟨p,as,bd,dh n T,yY,?_⟩;simp only[BD _ _ _ c2];exact⟨⟨by simp [c2],dw _ (Ee _)⟩,wm, .done (.exit j),c2,rfl,qQ c4⟩
     |_=>exact c4.elim
    |_=>exact dK.elim
 have RJ:(Hs i0++[aj.lp .ready p as bd (dh n T)]).length=m+1:=by simp [hm]
 refine(hI (Hs i0).length _ _ (by rw[RJ,List.all_append,na i0];simp [Ee]) (by rw[RJ,hm];exact agI m) (by rw[hm];exact seq xs i0 oT)).mono λ_ h1 hb=> ?_;obtain⟨b,hs,ls,k1,rfl,k2⟩:=hb;refine⟨ls,p,as,bd,dh n T,?_,?_⟩
 ·show(hs++[aj.lp ls p as bd (dh n T)])[(Hs i0).length]?=_;rw[hm];exact dt _ _ [] k1
 ·show Lk P N0 Q ⟨n,T,(hs++[aj.lp ls p as bd (dh n T)]).set (Hs i0).length .gone⟩ ls;rw[hm,BD _ _ _ k1];exact k2
section
variable {m n:Nat} {T:agK (Nat×J)} {LP:aj} {next:agK aj->Prop} {Q:Exit->St->Prop} {s:St}
theorem H8(hs:agK aj)(hl:hs.length=m)(hb:hs.all (aj.aA (m+1))=true)(hc:gr s [] (m+1)=some ⟨s.n,[],hs++[LP]⟩)(hn:next hs):EB m n T LP next Q .normal s:=⟨hs,hl,hb, .S hc,hn⟩
theorem Tg(hs:agK aj)(hl:hs.length=m)(hb:hs.all (aj.aA (m+1))=true)(hc:gr s [] (m+1)=some ⟨s.n,[],hs++[LP]⟩)(hq:Q .ret ⟨n,T,hs++[.gone]⟩):EB m n T LP next Q .ret s:=⟨hs,hl,hb, .S hc,hq⟩
theorem adg{i:Nat}(hs:agK aj)(hl:hs.length=m)(hb:hs.all (aj.aA (m+1))=true)(hc:gr s [] (m+1)=some ⟨s.n,[],hs++[LP]⟩)(hq:Q (.exit i) ⟨n,T,hs++[.gone]⟩):EB m n T LP next Q (.exit i) s:=⟨hs,hl,hb, .S hc,hq⟩
end
set_option linter.unusedSimpArgs false
set_option linter.unusedVariables false
abbrev Lf:=St×agK Nat×agK (Nat×agK (In×bm))
def qu(go:Nat->agM (agK Lf)):agK Nat->agM (agK Lf)
 |[]=>some []
 |k::r=>match go k with
  |some a=>match qu go r with
   |some b=>some (a++b)
   |none=>none
  |none=>none
def wa(P:agN)(ops:Array Oper)(A C:agK Nat)(as:agK (Nat×bm)):Nat->Nat->agK Nat->agK (Nat×agK (In×bm))->St->agM (agK Lf)
 |0,L,al,acc,s=>match ox A L 0 with
  |[]=>some [(s,al,acc)]
  |_=>none
 |f+1,L,al,acc,s=>match ox A L 0 with
  |[]=>some [(s,al,acc)]
  |k0::r=>qu (λk=>match ops[k]? with
     |some o=>match lV P ops true o k as s with
      |some (s1,l)=>fN (L|||(1<<<k)) λL=>wa P ops A C as f L (al++List.replicate (s1.h.length-s.h.length) k) ((k,l)::acc) s1
      |none=>none
     |none=>none) (match zX C L (k0::r)with
      |some k=>[k]
      |none=>k0::r)
theorem MA{go:Nat->agM (agK Lf)}:∀{l:agK Nat}{ls:agK Lf},qu go l=some ls->∀k∈l,∃a,go k=some a/\∀x∈a,x∈ls
 |[],_,_,k,hk=>by cases hk
 |j::r,ls,h,k,hk=>by
  unfold qu at h;split at h
  ·next a e1=>
   split at h
   ·next b e2=>
    cases h
    rcases agq.1 hk with rfl|hk
    ·exact⟨a,e1,λx hx=>List.mem_append_left _ hx⟩
    ·obtain⟨a',e3,h3⟩:=MA e2 k hk;exact⟨a',e3,λx hx=>List.mem_append_right _ (h3 x hx)⟩
   ·cases h
  ·cases h
section
variable {P:agN} {ops:Array Oper} {as:agK (Nat×bm)} {K:St->Prop} {s0:St}
theorem ae4{o:Oper}{j:Nat}{dr:Bool}{s s1:St}{l:agK (In×bm)}(h:lV P ops dr o j as s=some (s1,l))(ho:o∈ops.toList)(hB:jl (lK ops.toList) s0 s):jl (lK ops.toList) s0 s1:=by
 have cI:∀{i a r l},qN i a r=some (s1,l)->∃m,r=some (s1,m):=fun{i a r l} h=>by
  unfold qN at h;split at h
  ·exact⟨_,h⟩
  ·split at h
   ·cases h;exact⟨_,rfl⟩
   ·cases h
 have cR:∀{m r l},nq m r=some (s1,l)->∃m,r=some (s1,m):=fun{m r l} h=>by
  unfold nq at h;split at h
  ·cases h;exact⟨_,rfl⟩
  ·cases h
 have QO:jl (lK ops.toList) s0 (zf o s):=hB.put s.h (.d (.v undef)) (Fc ho);have st:∀l,kP P dr o j as s=some (s1,l)->jl (lK ops.toList) s0 s1:=λl h=>by
  unfold kP at h;cases hd:dr&&uS (gn as (3*j+1))&& !vE o (gn as (3*j+1))with
  |true=>rw[hd]at h;cases h
  |false=>
   rw[hd]at h;simp only[cond_false]at h;split at h
   ·split at h<;>(obtain⟨m,e⟩:=cI h;cases e;exact hB.put _ _ (Fc ho))
   ·cases h
 unfold lV at h;split at h
 ·exact st _ h
 ·split at h
  ·obtain⟨m,e⟩:=cR h;revert e;generalize ((_:Bool)==_)=q;intro e;cases q with
   |true=>exact st _ e
   |false=>cases e;exact QO
  ·obtain⟨m,e⟩:=cR h;cases e;exact QO
  ·cases h
theorem RK(hK:sh K)(hM:oC (Region.before ops) ops=true)(t0:agK (Nat×J)):
 ∀(fuel L:Nat)(listed:Array Bool)(al:agK Nat)(acc:agK (Nat×agK (In×bm)))(s:St)(ls:agK Lf),LM ops L listed->Dn ops listed->wa P ops (pv ops 0 ops.size) (nA ops false (Region.before ops) 0 ops.size) as fuel L al acc s=some ls->
  (∃x,x∈ls)/\(∀x∈ls,(∀p∈acc,p∈x.2.2)/\((∃pre,s.t=pre++t0)->∃pre,x.1.t=pre++t0)/\(jl (lK ops.toList) s0 s->jl (lK ops.toList) s0 x.1))/\((∀x∈ls,(∀p∈x.2.2,fb P p.2)/\K x.1)->lG false P ops K fuel listed s)
 |0,L,listed,al,acc,s,ls,hL,hD,h=>by
  unfold wa at h;split at h
  ·next hr=>
   cases h
   refine⟨⟨_,af1⟩,λx hx=> ?_,λhk=>⟨?_,(hk _ af1).2⟩⟩
   ·rw[List.mem_singleton]at hx;subst hx;exact⟨λ_ h=>h,λh=>h,λh=>h⟩
   ·rw[List.eq_nil_iff_forall_not_mem];intro i hi;have:=(hL.ready i).1 hi;rw[hr]at this;cases this
  ·cases h
 |fuel+1,L,listed,al,acc,s,ls,hL,hD,h=>by
  have mem:∀{k:Nat}{o:Oper},ops[k]?=some o->o∈ops.toList:=λho=>Array.mem_toList_iff.2 (Array.mem_of_getElem? ho);unfold wa at h;split at h
  ·next hr=>
   cases h
   refine⟨⟨_,af1⟩,λx hx=> ?_,λhk=>⟨λ_=>(hk _ af1).2,λi hi=> ?_⟩⟩
   ·rw[List.mem_singleton]at hx;subst hx;exact⟨λ_ h=>h,λh=>h,λh=>h⟩
   ·have:=(hL.ready i).1 hi;rw[hr]at this;cases this
  ·next k0 r hr=>
   generalize Yl:(λk:Nat=>(match ops[k]? with
    |some o=>match lV P ops true o k as s with
     |some (s1,l)=>fN (L|||(1<<<k)) λL=>wa P ops (pv ops 0 ops.size) (nA ops false (Region.before ops) 0 ops.size) as fuel L (al++List.replicate (s1.h.length-s.h.length) k) ((k,l)::acc) s1
     |none=>none
    |none=>none:agM (agK Lf)))=go at h
   have one:∀k a,k∈Region.ready .any ops listed->go k=some a->∃o s1 l,ops[k]?=some o/\lV P ops true o k as s=some (s1,l)/\(∃x,x∈a)/\(∀x∈a,(∀p∈(k,l)::acc,p∈x.2.2)/\((∃pre,s.t=pre++t0)->∃pre,x.1.t=pre++t0)/\(jl (lK ops.toList) s0 s->jl (lK ops.toList) s0 x.1))/\
       ((∀x∈a,(∀p∈x.2.2,fb P p.2)/\K x.1)->∃y h1,lr false P ops o s y h1/\lG false P ops K fuel (listed.setIfInBounds k true) ((s.wh h1).put o.dst y)):=λk a Gj q9=>by
    rw[<-Yl]at q9;simp only at q9;split at q9
    ·next o ho=>
     split at q9
     ·next s1 l hg=>
      rw[A0]at q9;obtain⟨h1,h2,h3⟩:=RK hK hM t0 fuel _ _ _ _ s1 a (hL.set (aga.1 ho).1) (hD.set Gj) q9;refine⟨o,s1,l,ho,hg,h1,λx hx=>⟨(h2 x hx).1,fun⟨pre,hp⟩=> ?_,λhB=>(h2 x hx).2.2 (ae4 hg (mem ho) hB)⟩,λhk=> ?_⟩
      ·obtain⟨⟨p1,e1⟩,_⟩:=Nn hg;exact(h2 x hx).2.1 ⟨p1++pre,by rw[e1,hp,agc]⟩
      ·obtain⟨x,hx⟩:=h1;have hl:fb P l:=(hk x hx).1 (k,l) ((h2 x hx).1 _ af1);have h4:=E6 (K:=(·=s1)) hg hl rfl;have h5:=h3 hk;have:∃y h1,lr false P ops o s y h1/\(s.wh h1).put o.dst y=s1:=by
        rcases Ll h4 with⟨g,hd⟩|⟨g,hd⟩
        ·obtain⟨y,h1,h2,h3⟩:=Io hd;exact⟨y,h1, .inl ⟨g,h2⟩,h3⟩
        ·exact⟨_,s.h, .inr ⟨g,rfl,rfl⟩,hd⟩
       obtain⟨y,hh,q1,rfl⟩:=this;exact⟨y,hh,q1,h5⟩
     ·cases q9
    ·cases q9
   cases hf:zX (nA ops false (Region.before ops) 0 ops.size) L (k0::r)with
   |some k=>
    rw[hf]at h;obtain⟨qa,RW⟩:=Rl hf;have Gj:k∈Region.ready .any ops listed:=(hL.ready k).2 (by rw[hr];exact qa);unfold qu at h;split at h
    ·next a e1=>
     unfold qu at h;simp only[agh]at h;cases h
     obtain⟨o,s1,l,ho,hg,h1,h2,h3⟩:=one k _ Gj e1;refine⟨h1,λx hx=>⟨λp hp=>(h2 x hx).1 p (af4 _ hp),(h2 x hx).2⟩,λhk=> ?_⟩;obtain⟨y,hh,q1,q2⟩:=h3 hk;refine JW hK hM ho fuel listed s hD (λj oj hj bQ px uv=> ?_) Gj q1 q2;have Sk:=(aga.1 hj).1;have Be:=(aga.1 ho).1;have ZF:Nat.testBit L j=false:=by
      rw[hL.b];have fI:j<listed.size:=by rw[hL.sz];exact Sk
      simpa [fI]using px
     have wg:Nat.testBit (AH ops false (Region.before ops) k) j=false:=by
      rw[<-Bool.not_eq_true];intro hc;have h5:(nA ops false (Region.before ops) 0 ops.size).getD k 0=AH ops false (Region.before ops) k:=by
        rw[List.getD_eq_getElem?_getD,NH,if_pos Be,agf];rfl
      rw[h5]at RW;have:=congrArg (λn=>Nat.testBit n j) RW;simp only[Nat.testBit_or,hc,ZF]at this;cases this
     unfold AH at wg;rw[CH]at wg;unfold Qw at wg;rw[uv,ho,hj]at wg;simp [Sk,bQ]at wg;exact wg
    ·cases h
   |none=>
    rw[hf]at h;have OH:=MA h;have Im:k0∈Region.ready .any ops listed:=(hL.ready k0).2 (by rw[hr];simp);have back:∀(l:agK Nat)(ls:agK Lf),qu go l=some ls->∀x∈ls,∃k∈l,∃a,go k=some a/\x∈a:=by
      intro l
      induction l with
      |nil=>intro ls h x hx;cases h;cases hx
      |cons j r ih=>
       intro ls h x hx;unfold qu at h;split at h
       ·next a e1=>
        split at h
        ·next b e2=>
         cases h
         rcases agy.1 hx with hx|hx
         ·exact⟨j,af1,a,e1,hx⟩
         ·obtain⟨k,hk,a',h1,h2⟩:=ih b e2 x hx;exact⟨k,af4 _ hk,a',h1,h2⟩
        ·cases h
       ·cases h
    refine⟨?_,λx hx=> ?_,λhk=>⟨λe=>(by rw[e]at Im;cases Im),λi hi oi N4=> ?_⟩⟩
    ·obtain⟨a,e1,h1⟩:=OH k0 af1;obtain⟨o,s1,l,ho,hg,⟨x,hx⟩,_⟩:=one k0 a Im e1;exact⟨x,h1 x hx⟩
    ·obtain⟨k,hk,a,e1,MT⟩:=back _ _ h x hx;obtain⟨o,s1,l,ho,hg,h1,h2,h3⟩:=one k a ((hL.ready k).2 (by rw[hr];exact hk)) e1;exact⟨λp hp=>(h2 x MT).1 p (af4 _ hp),(h2 x MT).2⟩
    ·have cy:i∈k0::r:=by rw[<-hr];exact(hL.ready i).1 hi
     obtain⟨a,e1,h1⟩:=OH i cy;obtain⟨o,s1,l,ho,hg,_,_,h3⟩:=one i a hi e1;rw[ho]at N4;cases N4;exact h3 λx hx=>hk x (h1 x hx)
end
def IA(k:Nat):agK Nat->Nat
 |[]=>0
 |j::l=>bif bB (j+1) k then IA k l+1 else IA k l
def Hx(k:Nat):agK Nat->Nat
 |[]=>0
 |j::l=>bif j==k then Hx k l+1 else Hx k l
def IQ(h0:Nat)(all:agK Nat):agK Nat->agK Nat->agK Nat
 |_,[]=>[]
 |pre,k::l=>fN (h0+IA k all+Hx k pre) λq=>q::IQ h0 all (k::pre) l
def Mk(q:Nat):agK Nat->Nat->Nat
 |[],i=>i
 |x::l,i=>bif x==q then i else Mk q l (i+1)
def Jy(h0:Nat)(p:agK Nat):Nat->Nat->agK Nat
 |0,_=>[]
 |n+1,q=>fN (Mk q p h0) λi=>i::Jy h0 p n (q+1)
def zA(a:Nat×agK (In×bm)):agK (Nat×agK (In×bm))->agK (Nat×agK (In×bm))
 |[]=>[a]
 |b::l=>bif bB a.1 b.1 then a::b::l else b::zA a l
def zC:agK (Nat×agK (In×bm))->agK (Nat×agK (In×bm))
 |[]=>[]
 |a::l=>zA a (zC l)
def BA:agK (Nat×agK (In×bm))->agK (In×bm)
 |[]=>[]
 |a::l=>a.2++BA l
def pJ(p q:agK Nat)(h0:Nat)(h:agK aj):Nat->Nat->agK aj
 |0,_=>[]
 |n+1,i=>(match h[dS h0 q i]? with|some B=>B.ay (dS h0 p)|none=> .gone)::pJ p q h0 h n (i+1)
def uU(h0:Nat)(p:agK Nat):Bool:=(List.range p.length).all λi=>p.getD i 0==h0+i
theorem UB{h0:Nat}{p:agK Nat}(h:uU h0 p=true):dS h0 p=id:=by
 funext i
 unfold dS;cases e:bB h0 i with
 |false=>rfl
 |true=>
  rw[cN]at e;simp only[cond_true,id];by_cases hi:i-h0<p.length
  ·unfold uU at h;rw[agm]at h;have:=h (i-h0) (List.mem_range.2 hi);rw[beq_iff_eq,List.getD_eq_getElem?_getD,afZ hi]at this;rw[List.getD_eq_getElem?_getD,afZ hi];simp only[Option.getD_some]at this ⊢;omega
  ·rw[List.getD_eq_getElem?_getD,ags (by omega)];rfl
def Sc(aG:agK Nat)(s:St)(x:Lf)(p q:agK Nat):agM (agK (Nat×J)×agK aj×agK (In×bm)):=
 bif (x.1.t.take (x.1.t.length-s.t.length)).all (λp=>aG.any (·==p.1)||RR (aQ s.t p.1))&&(List.range x.1.h.length).all (λi=>bB (dS s.h.length p i+1) x.1.h.length&&bB (dS s.h.length q i+1) x.1.h.length&&dS s.h.length q (dS s.h.length p i)==i&&dS s.h.length p (dS s.h.length q i)==i)
 then some (aG.map λk=>(k,(aQ x.1.t k).ay (dS s.h.length p)),bif uU s.h.length p then x.1.h else pJ p q s.h.length x.1.h x.1.h.length 0,BA (zC x.2.2))else none
def Bu(aG:agK Nat)(s:St)(x:Lf):agM (agK (Nat×J)×agK aj×agK (In×bm)):=
 fL (IQ s.h.length x.2.1 [] x.2.1) λp=>fL (Jy s.h.length p p.length s.h.length) λq=>Sc aG s x p q
def Gu(aG:agK Nat)(s:St):agK Lf->agM (agK (agK (Nat×J)×agK aj×agK (In×bm)))
 |[]=>some []
 |x::l=>match Bu aG s x with
  |some a=>match Gu aG s l with
   |some b=>some (a::b)
   |none=>none
  |none=>none
def Eg(P:agN)(ol:agK Oper)(as:agK (Nat×bm))(aG:agK Nat)(s:St):agM (agK (agK (Nat×J)×agK aj×agK (In×bm))):=
 bif oC (Region.before ol.toArray) ol.toArray then fL (pv ol.toArray 0 ol.toArray.size) λA=>fL (nA ol.toArray false (Region.before ol.toArray) 0 ol.toArray.size) λC=>
  match wa P ol.toArray A C as ol.toArray.size 0 [] [] s with
  |some ls=>Gu aG s ls
  |none=>none
 else none
theorem RY{aG:agK Nat}{s:St}:∀{ls:agK Lf}{r},Gu aG s ls=some r->∀x∈ls,∃a∈r,Bu aG s x=some a
 |[],_,_,x,hx=>by cases hx
 |y::l,r,h,x,hx=>by
  unfold Gu at h;split at h
  ·next a e1=>
   split at h
   ·next b e2=>
    cases h
    rcases agq.1 hx with rfl|hx
    ·exact⟨a,af1,e1⟩
    ·obtain⟨a',h1,h2⟩:=RY e2 x hx;exact⟨a',af4 _ h1,h2⟩
   ·cases h
  ·cases h
theorem R7{a x:Nat×agK (In×bm)}:∀{l:agK (Nat×agK (In×bm))},x∈zA a l↔x=a\/x∈l
 |[]=>by simp [zA]
 |b::l=>by
  unfold zA;cases bB a.1 b.1 with
  |true=>simp
  |false=>
   simp only[cond_false,agq,R7 (l:=l)];constructor
   ·rintro(h|h|h)
    ·exact .inr (.inl h)
    ·exact .inl h
    ·exact .inr (.inr h)
   ·rintro(h|h|h)
    ·exact .inr (.inl h)
    ·exact .inl h
    ·exact .inr (.inr h)
theorem S2{x:Nat×agK (In×bm)}:∀{l:agK (Nat×agK (In×bm))},x∈zC l↔x∈l
 |[]=>by simp [zC]
 |a::l=>by rw[zC,R7,S2 (l:=l),agq]
theorem SN{P:agN}:∀{l:agK (Nat×agK (In×bm))},fb P (BA l)->∀p∈l,fb P p.2
 |[],_,p,hp=>by cases hp
 |a::l,h,p,hp=>by
  unfold BA at h;rcases agq.1 hp with rfl|hp
  ·exact λq hq=>h q (List.mem_append_left _ hq)
  ·exact SN (λq hq=>h q (List.mem_append_right _ hq)) p hp
theorem Ng{p q:agK Nat}{h0:Nat}{h:agK aj}:∀(n i j:Nat),(pJ p q h0 h n i)[j]?=if j<n then some (match h[dS h0 q (i+j)]? with|some B=>B.ay (dS h0 p)|none=> .gone)else none
 |0,i,j=>by simp [pJ]
 |n+1,i,0=>by simp [pJ]
 |n+1,i,j+1=>by
  rw[pJ,agx,Ng n (i+1) j];simp only[Nat.add_lt_add_iff_right];rw[show i+1+j=i+(j+1) by omega]
theorem TD{p q:agK Nat}{h0:Nat}{h:agK aj}:∀(n i:Nat),(pJ p q h0 h n i).length=n
 |0,_=>rfl
 |n+1,i=>by rw[pJ,afY,TD n]
theorem aet{P:agN}{ops:Array Oper}{N0:Nat}{aG:agK Nat}{s:St}{x:Lf}{Δ:agK (Nat×J)}{h':agK aj}{ps:agK (In×bm)}(h:Bu aG s x=some (Δ,h',ps))(hN:N0<=s.h.length)(uc:∀i,(aQ s.t i).aA s.h.length=true)
 (hn:x.1.n=s.n) (hp:∃pre,x.1.t=pre++s.t) (bh:fb P ps):SLe N0 x.1 ⟨s.n,Δ++s.t,h'⟩/\∀p∈x.2.2,fb P p.2:=by
 unfold Bu at h;rw[yP,yP]at h;generalize IQ s.h.length x.2.1 [] x.2.1=p at h;generalize Jy s.h.length p p.length s.h.length=q at h;unfold Sc at h;obtain⟨hb,he⟩:=di h;cases he
 rw[afX]at hb;obtain⟨hb,hc⟩:=hb;simp only[agm,List.mem_range,afX,beq_iff_eq,cN]at hc;have s6:∀i,i<s.h.length->dS s.h.length p i=i:=λi hi=>by
   unfold dS;have:bB s.h.length i=false:=by rw[<-Bool.not_eq_true,cN];omega
   rw[this];rfl
 refine⟨?_,λy hy=>SN bh y (S2.2 hy)⟩;refine SLe.ay (dS s.h.length p) (dS s.h.length q) hn (by
  cases uU s.h.length p with
  |true=>rfl
  |false=>exact TD _ _) (λi hi=>(hc i hi).1.1.1) (λi hi=>(hc i hi).1.1.2) (λi hi=>(hc i hi).1.2) (λi hi=>(hc i hi).2) (λi hi=>s6 i (by omega)) (λi _=> ?_) λi hi=> ?_
 ·obtain⟨pre,e1⟩:=hp;have tD:∀(f:Nat->J),(aG.map λk=>(k,f k)).map (·.1)=aG:=λf=>by rw[List.map_map];exact List.map_id _
  show aQ ((aG.map λk=>(k,(aQ x.1.t k).ay (dS s.h.length p)))++s.t) i=_\/_;rcases yU (aG.map λk=>(k,(aQ x.1.t k).ay (dS s.h.length p))) s.t i with⟨h1,h2⟩|⟨h1,h2⟩
  ·rw[tD]at h1;rw[h2,oG (λk=>(aQ x.1.t k).ay (dS s.h.length p)),if_pos h1];exact .inl rfl
  ·rw[tD]at h1;show _\/aQ ((aG.map λk=>(k,(aQ x.1.t k).ay (dS s.h.length p)))++s.t) i=_;rw[h2];rw[e1,afW,Nat.add_sub_cancel,List.take_left']at hb
   ·rw[e1];rcases yU pre s.t i with⟨h3,h4⟩|⟨h3,h4⟩
    ·right
     obtain⟨y,hy,rfl⟩:=List.mem_map.1 h3;have:=agm.1 hb y hy;rw[Bool.or_eq_true]at this;rcases this with this|this
     ·exfalso;obtain⟨k,hk,e⟩:=List.any_eq_true.1 this;rw[beq_iff_eq]at e;exact h1 (e▸hk)
     ·generalize aQ s.t y.1=z at this;cases z<;>first|rfl|cases this
    ·left
     rw[h4,sX (τ:=id) s6 _ (uc i),wZ]
   ·rfl
 ·show(bif uU s.h.length p then x.1.h else pJ p q s.h.length x.1.h x.1.h.length 0)[dS s.h.length p i]?=_;cases hid:uU s.h.length p with
  |true=>rw[UB hid];simp only[cond_true,id];rw[afZ hi,Option.map_some,JM]
  |false=>
  simp only[cond_false];rw[Ng,if_pos (Nat.lt_of_succ_le (hc i hi).1.1.1),agf,(hc i hi).1.2,afZ hi];rfl
theorem acK{P:agN}{ol:agK Oper}{as:agK (Nat×bm)}{aG:agK Nat}{s:St}{Δ:agK (Nat×J)}{h':agK aj}{ps:agK (In×bm)}{m N0:Nat}{K:St->Prop}(h:Eg P ol as aG s=some (List.replicate m (Δ,h',ps)))(bh:fb P ps)(hN:N0<=s.h.length)(uc:∀i,(aQ s.t i).aA s.h.length=true)(hK:FE N0 K)(hk:K ⟨s.n,Δ++s.t,h'⟩):
 lG false P ol.toArray K ol.toArray.size (Array.replicate ol.toArray.size false) s:=by
 unfold Eg at h;obtain⟨hM,h⟩:=mh h;rw[yP,yP]at h;split at h
 ·next ls e1=>
  obtain⟨_,h2,h3⟩:=RK (s0:=s) hK.c hM s.t _ 0 (Array.replicate ol.toArray.size false) _ _ s ls ⟨by simp,λi=>by
   rw[Nat.zero_testBit,Array.getD_eq_getD_getElem?,Array.getElem?_replicate];split<;>rfl⟩ (λj o ho hj=>by
   exfalso;rw[Array.getD_eq_getD_getElem?]at hj;rw[Array.getElem?_replicate]at hj;split at hj<;>simp at hj) e1
  refine h3 λx hx=> ?_;obtain⟨a,ha,e2⟩:=RY h x hx;rw[List.mem_replicate]at ha;obtain⟨_,rfl⟩:=ha;obtain⟨k1,k2⟩:=aet (P:=P) (ops:=ol.toArray) e2 hN uc ((h2 x hx).2.2 (jl.refl _ _)).n ((h2 x hx).2.1 ⟨[],rfl⟩) bh;exact⟨k2,hK _ _ k1 hk⟩
 ·cases h
section
variable {P:agN} {r:agM Nat} {N0 id n:Nat} {ol:agK Oper} {y:Code} {t:agK (Nat×J)} {h:agK aj} {Q Q':Exit->St->Prop}
theorem rte(m:Nat)(hm:P.follows .mixedOrders=true)(ar:agK (Nat×Ob P))(Δ:agK (Nat×J))(h':agK aj)(e:Eg P ol (jC ar) (Δ.map (·.1)) ⟨n,t,h⟩=some (List.replicate m (Δ,h',jW ar)))(k:Q .normal ⟨n,Δ++t,h'⟩):aX P r N0 (.region id ol.toArray true) Q ⟨n,t,h⟩:=
 afh hm λhN uc=>acK e (tc ar) hN uc (abL _) ⟨_,SLe.refl _ _,k⟩
end
theorem L0{f:J->J}(hf:∀d,f (.d d)= .d d)(xs:agK (agK D)):(bW xs).map (·.map f)=bW xs:=by
 unfold bW;rw[List.map_map];refine agr λc _=> ?_;simp only[Function.comp,List.map_map];exact agr λd _=>hf d
theorem ze(xs:agK (agK D)):(bW xs).length=xs.length:=by unfold bW;rw[af0]
theorem aaO{xs:agK (agK D)}{i:Nat}{c:agK D}(h:xs[i]?=some c):(bW xs)[i]?=some (c.map .d):=by unfold bW;rw[af2,h];rfl
theorem adb(xs ys:agK (agK D)):bW (xs++ys)=bW xs++bW ys:=by unfold bW;rw[List.map_append]
def aj.qZ(m:Nat):aj->aj
 | .vec e k cs=> .vec e k cs
 |B=>B.aS m
def aj.Il:aj->aj
 | .vec e k cs=> .vec e k cs
 |B=>B.ml
def aj.uA(m:Nat):aj->Prop
 | .vec _ _ cs=>cs.map (·.map (J.aS m))=cs/\cs.all (·.all (J.aA m))=true
 |_=>True
def iv(m:Nat):agK aj->Prop
 |[]=>True
 |B::l=>B.uA m/\iv m l
section
variable {m:Nat} {l:agK aj}
theorem Kt:iv m []:=trivial
theorem lJ{B:aj}(hB:B.uA m)(h:iv m l):iv m (B::l):=⟨hB,h⟩
theorem Yr(xs:agK (agK D)):(bW xs).all (·.all (J.aA m))=true:=by simp [bW,J.aA]
theorem PB{e k:Nat}{xs:agK (agK D)}(h:iv m l):iv m (.vec e k (bW xs)::l):=⟨⟨L0 (λd=>by simp [J.aS]) _,Yr _⟩,h⟩
theorem iv.mem:∀{l:agK aj},iv m l->∀B∈l,B.uA m
 |[],_,B,hB=>by cases hB
 |_::_,h,B,hB=>by
  rcases agq.1 hB with rfl|hB
  ·exact h.1
  ·exact iv.mem h.2 B hB
end
theorem Y3{m:Nat}{B:aj}(h:B.uA m):B.qZ m=B.aS m:=by
 cases B with
 |vec e k cs=>simp only[aj.qZ,aj.aS];rw[h.1]
 |_=>rfl
theorem abO{m:Nat}{B:aj}(h:B.uA m)(hl:(B.qZ m).wi m=true):(B.aS m).aA m=true:=by
 cases B with
 |vec e k cs=>simp only[aj.aS,aj.aA];rw[h.1];exact h.2
 |_=>exact hl
theorem XZ{G:Gh}{w:agP}{h:agK aj}(hi:bg G w h):bg G w (h.map aj.Il):=by
 have db:∀n,bj (h.map aj.Il) G n=bj h G n:=λn=>by
  unfold bj;rw[af2];cases h[n]? with
  |none=>rfl
  |some B=>cases B<;>rfl
 have h2:=I8 hi;refine⟨by rw[af0];exact hi.len,hi.z,hi.S,λn B hB=> ?_,λm n x hm hn=>hi.inj m n x (by rw[<-db];exact hm) (by rw[<-db];exact hn),hi.gl⟩;rw[af2]at hB;cases h1:h[n]? with
 |none=>rw[h1]at hB;cases hB
 |some B'=>
  rw[h1]at hB;cases hB
  have h3:=h2.b6 n B'.ml (by rw[af2,h1];rfl);cases B' with
  |vec e k cs=>exact hi.b6 n _ h1
  |_=>exact h3
def qv(kn:agK (Nat×Nat))(n:Nat):Nat->agK J->agK J
 |_,[]=>[]
 |i,x::l=>(bif kn.any (λp=>p.1==n&&p.2==i)then x else x.nrm)::qv kn n (i+1) l
def aj.OG(kn:agK (Nat×Nat))(n:Nat):aj->aj
 | .cells cs=> .cells (qv kn n 0 cs)
 |B=>B.Il
def mr(kn:agK (Nat×Nat)):Nat->agK aj->agK aj
 |_,[]=>[]
 |n,B::l=>B.OG kn n::mr kn (n+1) l
theorem O8(kn:agK (Nat×Nat))(n:Nat):∀(j:Nat)(cs:agK J),(qv kn n j cs).length=cs.length
 |_,[]=>rfl
 |j,x::l=>by rw[qv,afY,O8 kn n (j+1) l,afY]
theorem L8(kn:agK (Nat×Nat))(n:Nat):∀(j:Nat)(cs:agK J)(i:Nat)(c':J),(qv kn n j cs)[i]?=some c'->∃c,cs[i]?=some c/\(c'=c\/c'=c.nrm)
 |_,[],i,c',h=>by simp [qv]at h
 |j,x::l,0,c',h=>by
  simp only[qv,List.getElem?_cons_zero,Option.some.injEq]at h;refine⟨x,rfl,?_⟩;cases hk:kn.any (λp=>p.1==n&&p.2==j)with
  |true=>rw[hk]at h;exact .inl h.symm
  |false=>rw[hk]at h;exact .inr h.symm
 |j,x::l,i+1,c',h=>by
  simp only[qv,agx]at h;obtain⟨c,h1,h2⟩:=L8 kn n (j+1) l i c' h;exact⟨c,by simpa using h1,h2⟩
theorem K4(kn:agK (Nat×Nat)):∀(j:Nat)(h:agK aj)(i:Nat)(B':aj),(mr kn j h)[i]?=some B'->∃B,h[i]?=some B/\B'=B.OG kn (j+i)
 |_,[],i,B',h=>by simp [mr]at h
 |j,B::l,0,B',h=>by simp only[mr,List.getElem?_cons_zero,Option.some.injEq]at h;exact⟨B,rfl,h.symm⟩
 |j,B::l,i+1,B',h=>by
  simp only[mr,agx]at h;obtain⟨C,h1,h2⟩:=K4 kn (j+1) l i B' h;exact⟨C,by simpa using h1,by rw[h2];congr 1;omega⟩
theorem PX(kn:agK (Nat×Nat)):∀(j:Nat)(h:agK aj),(mr kn j h).length=h.length
 |_,[]=>rfl
 |j,B::l=>by rw[mr,afY,PX kn (j+1) l,afY]
theorem WA{G:Gh}{w:agP}{h:agK aj}(kn:agK (Nat×Nat))(hi:bg G w h):bg G w (mr kn 0 h):=by
 have db:∀n x,bj (mr kn 0 h) G n=some x->bj h G n=some x:=λn x hx=>by
  obtain⟨B',hB,h1⟩:=ly hx;obtain⟨B,h2,rfl⟩:=K4 kn 0 h n B' hB;rw[cJ h2,<-h1];cases B<;>rfl
 have h2:=XZ hi;refine⟨by rw[PX];exact hi.len,hi.z,hi.S,λn B' hB=> ?_,λm n x hm hn=>hi.inj m n x (db m x hm) (db n x hn),hi.gl⟩;obtain⟨B,h1,rfl⟩:=K4 kn 0 h n B' hB;cases B with
 |cells cs=>
  obtain⟨c1,c2,vs,T,c3,c4,c5⟩:=hi.b6 n _ h1;refine⟨c1,c2,vs,T,c3,by rw[O8];exact c4,λi u c hu hc=> ?_⟩;obtain⟨c0,h3,h4|h4⟩:=L8 _ _ _ _ _ _ hc
  ·rw[h4];exact c5 i u c0 hu h3
  ·rw[h4];exact(c5 i u c0 hu h3).nrm
 |_=>exact h2.b6 n _ (by rw[af2,h1];rfl)
def kf(s:St)(live:agK Nat)(m:Nat)(ks:agK Nat)(kn:agK (Nat×Nat)):agM St:=
 bif bB m s.h.length&&(live.all λk=>((aQ s.t k).aS m).aA m)&&(((s.h.take m).map (aj.qZ m)).all (aj.wi m))then some ⟨s.n,live.map λk=>(k,bif ks.any (·==k)then(aQ s.t k).aS m else(aQ s.t k).fin m),mr kn 0 ((s.h.take m).map (aj.qZ m))⟩else none
theorem abx{h:agK aj}{m:Nat}(hd:iv m (h.take m)):(h.take m).map (aj.qZ m)=(h.take m).map (aj.aS m):=agr λB hB=>Y3 (hd.mem B hB)
theorem ZB{h:agK aj}{m:Nat}(hd:iv m (h.take m))(hl:((h.take m).map (aj.qZ m)).all (aj.wi m)=true):((h.take m).map (aj.aS m)).all (aj.aA m)=true:=by
 rw[agm]at hl ⊢;intro B hB;obtain⟨B',h1,rfl⟩:=List.mem_map.1 hB;exact abO (hd.mem B' h1) (hl _ (List.mem_map.2 ⟨B',h1,rfl⟩))
section
variable {P:agN} {r:agM Nat} {n N0:Nat} {G:Gh} {w:agP} {a:Act} {s s':St} {Q Q':Exit->St->Prop} {live:agK Nat} {m:Nat} {ks:agK Nat} {kn:agK (Nat×Nat)}
theorem bU.kf(hs:bU G w a s)(hd:iv m (s.h.take m))(h:kf s live m ks kn=some s'):bU (G.cut m) w a s':=by
 unfold Go.Proofs.YtmkmibahjanejaaGreatDoor.kf at h;obtain⟨hb,rfl⟩:=di h;rw[afX,afX]at hb;have hm:=hs.mask (live:=live) ⟨cN.1 hb.1.1,hb.1.2,ZB hd hb.2⟩;refine⟨hs.size,λi=> ?_,by show bg _ _ (mr kn 0 ((s.h.take m).map (aj.qZ m)));rw[abx hd];exact WA kn hm.inv,hs.df⟩;have:=hm.tmp i
 change ax _ _ _ (aQ (live.map λk=>(k,(aQ s.t k).aS m)) i)at this
 rw[oG (λk=>(aQ s.t k).aS m)]at this;show ax _ _ _ (aQ (live.map λk=>(k,bif ks.any (·==k)then(aQ s.t k).aS m else(aQ s.t k).fin m)) i);rw[oG (λk=>bif ks.any (·==k)then(aQ s.t k).aS m else(aQ s.t k).fin m)];split at this
 ·rename_i hi
  rw[if_pos hi];cases ks.any (·==i)with
  |true=>exact this
  |false=>exact this.nrm
 ·rename_i hi;rw[if_neg hi];exact .dead _
theorem RB{c:Code}{ι:Type}(live:agK Nat)(m:Nat)(ks:agK Nat)(kn:agK (Nat×Nat))(st:ι->St)(I:ι->Prop)(μ:ι->Nat)(i0:ι)(hm:N0<=m)(h0:iv m (s.h.take m)/\Go.Proofs.YtmkmibahjanejaaGreatDoor.kf s live m ks kn=some (st i0))(hI:I i0)
 (round:∀i,I i->aX P r N0 c (fA (λs'=>∃i',(iv m (s'.h.take m)/\Go.Proofs.YtmkmibahjanejaaGreatDoor.kf s' live m ks kn=some (st i'))/\I i'/\μ i'<μ i) Q) (st i)):aX P r N0 (.loop c) Q s:=by
 constructor
 intro G w a n hs _;refine Iq (λ(i:ι) a' w'=>∃G',I i/\a7 N0 G w G' w'/\N0<=G'.N/\bU G' w' a' (st i)) μ i0 ⟨G.cut m,hI,mO _ _ _ _,hm,hs.kf h0.1 h0.2⟩ ?_;rintro i a' w' ⟨G',hi,hE,hN,bR⟩;refine wpIn_mono ((round i hi).run G' w' a' n bR hN) λe a1 w1 hn=> ?_;obtain⟨G1,s1,gg,eO,dK,hq⟩:=hn;cases e with
 |normal=>
  obtain⟨i',h1,h2,h3⟩:=hq;exact⟨i',⟨G1.cut m,h2,(hE.trans gg).trans (mO _ _ _ _),hm,dK.kf h1.1 h1.2⟩,h3⟩
 |_=>exact⟨G1,s1,hE.trans gg,eO,dK,hq⟩
theorem aba{c:Code}(live:agK Nat)(m:Nat)(ks:agK Nat)(kn:agK (Nat×Nat))(hm:N0<=m)(h0:iv m (s.h.take m)/\Go.Proofs.YtmkmibahjanejaaGreatDoor.kf s live m ks kn=some s')(h:aX P r N0 c Q s'):aX P r N0 c Q s:=by
 constructor
 intro G w a n hs _;exact wpIn_mono (h.run (G.cut m) w a n (hs.kf h0.1 h0.2) hm) λ_ _ _ hn=>hn.trans (mO N0 G w m)
theorem XD{c y:Code}{ι:Type}(live:agK Nat)(m:Nat)(ks:agK Nat)(kn:agK (Nat×Nat))(st:ι->St)(I:ι->Prop)(hm:N0<=m)(hc:aX P r N0 c (fA (λs'=>∃i,(iv m (s'.h.take m)/\Go.Proofs.YtmkmibahjanejaaGreatDoor.kf s' live m ks kn=some (st i))/\I i) Q) s)(hy:∀i,I i->aX P r N0 y Q' (st i)):aX P r N0 c (fA (λs=>aX P r N0 y Q' s) Q) s:=by
 refine hc.mono λe s' h=> ?_;cases e with
 |normal=>obtain⟨i,h1,h2⟩:=h;exact aba live m ks kn hm h1 (hy i h2)
 |_=>exact h
end
mutual
def J.rP(b:Nat):J->agK (Nat×Nat×Nat×Nat)
 | .vec n o len L k=>bif n==b then[(o,len,L,k)]else[]
 | .agg cs=>J.qV b cs
 | .bp cs=>J.qV b cs
 | .fn _ cs=>J.qV b cs
 |_=>[]
def J.qV(b:Nat):agK J->agK (Nat×Nat×Nat×Nat)
 |[]=>[]
 |x::l=>x.rP b++J.qV b l
end
mutual
def J.mlt(b:Nat)(xs:agK (agK D)):J->J
 | .vec n o len L k=>bif n==b then .d (.sl xs)else .vec n o len L k
 | .cz n i j L k=>bif n==b then .dead else .cz n i j L k
 | .agg cs=> .agg (J.oO b xs cs)
 | .bp cs=> .bp (J.oO b xs cs)
 | .fn f cs=> .fn f (J.oO b xs cs)
 |x=>x
def J.oO(b:Nat)(xs:agK (agK D)):agK J->agK J
 |[]=>[]
 |x::l=>x.mlt b xs::J.oO b xs l
end
mutual
theorem OM{b kk:Nat}{xs:agK (agK D)}:∀x:J,(∀q∈x.rP b,q=(0,xs.length,xs.length,kk))->x.cM b kk xs=x.mlt b xs
 | .vec n o len L k,h=>by
   unfold J.cM J.mlt;unfold J.rP at h;cases e:n==b with
   |false=>rfl
   |true=>
    rw[e]at h;have:=h _ af1;cases this
    simp
 | .agg cs,h=>by unfold J.cM J.mlt;rw[uG cs (by unfold J.rP at h;exact h)]
 | .bp cs,h=>by unfold J.cM J.mlt;rw[uG cs (by unfold J.rP at h;exact h)]
 | .fn f cs,h=>by unfold J.cM J.mlt;rw[uG cs (by unfold J.rP at h;exact h)]
 | .cz n i j L k,h=>by unfold J.cM J.mlt;rfl
 | .d _,_=>by simp [J.cM,J.mlt]
 | .ptr ..,_=>by simp [J.cM,J.mlt]
 | .aY ..,_=>by simp [J.cM,J.mlt]
 | .own ..,_=>by simp [J.cM,J.mlt]
 | .full _,_=>by simp [J.cM,J.mlt]
 | .row ..,_=>by simp [J.cM,J.mlt]
 | .mp _,_=>by simp [J.cM,J.mlt]
 | .cm _,_=>by simp [J.cM,J.mlt]
 | .hid _,_=>by simp [J.cM,J.mlt]
 | .dead,_=>by simp [J.cM,J.mlt]
theorem uG{b kk:Nat}{xs:agK (agK D)}:∀l:agK J,(∀q∈J.qV b l,q=(0,xs.length,xs.length,kk))->J.mQ b kk xs l=J.oO b xs l
 |[],_=>by simp [J.mQ,J.oO]
 |x::l,h=>by
  unfold J.qV at h;unfold J.mQ J.oO;rw[OM x λq hq=>h q (List.mem_append_left _ hq),uG l λq hq=>h q (List.mem_append_right _ hq)]
end
inductive ja(b L kk:Nat)(xs:List (List D)):List aj->List aj->Prop
 |nil:ja b L kk xs [] []
 |cells {cs bC:List J} {l l':List aj} (c:Nat) (h:J.qV b cs=List.replicate c (0,L,L,kk)) (e:J.oO b xs cs=bC) (t:ja b L kk xs l l'):ja b L kk xs (.cells cs::l) (.cells bC::l')
 |Fx {e k:Nat} {ys:List (List D)} {l l':List aj} (t:ja b L kk xs l l'):ja b L kk xs (.vec e k (bW ys)::l) (.vec e k (bW ys)::l')
 |row {e k i:Nat} {ys:List (List D)} {cs bC:List J} {l l':List aj} (c:Nat) (h:J.qV b cs=List.replicate c (0,L,L,kk)) (e1:J.oO b xs cs=bC) (t:ja b L kk xs l l'):ja b L kk xs (.vec e k ((bW ys).set i cs)::l) (.vec e k ((bW ys).set i bC)::l')
 |front {e k n:Nat} {l l':List aj} (t:ja b L kk xs l l'):ja b L kk xs (.front e k n::l) (.front e k n::l')
 |map {kv:List (ByteArray×D)} {l l':List aj} (t:ja b L kk xs l l'):ja b L kk xs (.map kv::l) (.map kv::l')
 |gone {l l':List aj} (t:ja b L kk xs l l'):ja b L kk xs (.gone::l) (.gone::l')
theorem LJ{c L kk:Nat}{xs:agK (agK D)}(hL:xs.length=L){l:agK (Nat×Nat×Nat×Nat)}(h:l=List.replicate c (0,L,L,kk)):∀q∈l,q=(0,xs.length,xs.length,kk):=λq hq=>by
 rw[h,List.mem_replicate]at hq;rw[hq.2,hL]
theorem ja.eq{b L kk:Nat}{xs:agK (agK D)}(hL:xs.length=L){l l':agK aj}(h:ja b L kk xs l l'):l'=l.map (aj.nb (J.cM b kk xs)):=by
 have hd:∀d,J.cM b kk xs (.d d)= .d d:=λd=>by simp [J.cM]
 induction h with
 |nil=>rfl
 |cells c h e t ih=>rw[agl,<-ih,<-e];simp only[aj.nb];rw[<-sV,uG _ (LJ hL h)]
 |Fx t ih=>rw[agl,<-ih];simp only[aj.nb];rw[L0 hd]
 |row c h e1 t ih=>rw[agl,<-ih,<-e1];simp only[aj.nb];rw[List.map_set,L0 hd,<-sV,uG _ (LJ hL h)]
 |front t ih=>rw[agl,<-ih];rfl
 |map t ih=>rw[agl,<-ih];rfl
 |gone t ih=>rw[agl,<-ih];rfl
theorem aem{P:agN}{r:agM Nat}{N0:Nat}{c:Code}{s:St}{Q:Exit->St->Prop}(live:agK Nat)(b:Nat)(xs:agK (agK D)){e k L:Nat}(h':agK aj)(c1:Nat)(hb:s.h[b]?=some (.vec e k (bW xs)))(gu:∀c∈xs,c.all D.wz=true)(hL:xs.length=L)
 (ho:(live.flatMap λi=>(aQ s.t i).rP b)=List.replicate c1 (0,L,L,k)) (hh:ja b L k xs s.h h') (K:aX P r N0 c Q ⟨s.n,live.map (λi=>(i,(aQ s.t i).mlt b xs)),h'.set b .gone⟩):aX P r N0 c Q s:=by
 constructor
 intro G w a n hs hN;obtain⟨G',hE,e1,bR⟩:=hs.SS xs hb gu;refine wpIn_mono (K.run G' w a n (bR.less rfl (by rw[hh.eq hL]) λi=> ?_) (by rw[e1];exact hN)) λ_ _ _ hn=>hn.trans (hE.less hN);show aQ (live.map (λi=>(i,(aQ s.t i).mlt b xs))) i=aQ (s.t.map λp=>(p.1,p.2.cM b k xs)) i\/_;rw[oG (λk=>(aQ s.t k).mlt b xs),E8 (J.cM b k xs) (by simp [J.cM])];split
 ·next hi=>
  left
  refine(OM _ λq hq=>LJ hL ho q ?_).symm;exact List.mem_flatMap.2 ⟨i,hi,hq⟩
 ·exact .inr rfl
theorem aez{G:Gh}{w:agP}{h:agK aj}(hi:bg G w h)(e k:Nat):a7 G.N G w (G.dy (.slice none 0 0) 0 none) w/\G.N<=(G.dy (.slice none 0 0) 0 none).N/\bg (G.dy (.slice none 0 0) 0 none) w (h++[.vec e k []])/\ax (G.dy (.slice none 0 0) 0 none) w (.slice none 0 0) (.vec h.length 0 0 0 k):=by
 obtain⟨a1,a2⟩:=I3 (w':=w) hi (.vec e k []) (λ_ _=>rfl) (.slice none 0 0) 0 none ⟨λ_ _=>rfl,af6 _,rfl,rfl,rfl⟩ (λ_ h=>by cases h)
  ⟨by simp [Gh.dy],Nat.zero_le _,λc hc=>absurd hc agC, .inl ⟨by simp [Gh.dy],rfl,none,by simp [Gh.dy]⟩⟩
 refine⟨a1,Nat.le_succ _,a2, .vec _ 0 0 0 k (by rw[hi.len];exact agI _) ⟨none,0,0,rfl⟩ (Nat.zero_le _) λ_=>⟨af6 _,⟨none,0,rfl,af6 _,Nat.zero_le _,af6 _,λh=>absurd h (agA _)⟩,λ_ _=> ?_⟩⟩;simp [Gh.dy,hi.len]
section
variable {P:agN} {r:agM Nat} {N0:Nat} {s:St} {Q:Exit->St->Prop} {c:Code}
theorem V3(b i e k:Nat){cs:agK J}(hb:s.h[b]?=some (.cells cs))(hx:cs[i]?=some (.d (.v (.slice none 0 0))))
 (h:aX P r N0 c Q ⟨s.n,s.t,(s.h++[aj.vec e k []]).set b (aj.cells (cs.set i (J.vec s.h.length 0 0 0 k)))⟩):aX P r N0 c Q s:=by
 constructor
 intro G w a n hs hN;obtain⟨h1,h2,vs,T,h3,h4,h5⟩:=hs.inv.b6 _ _ hb;have hi:i<cs.length:=(afV.1 hx).1;have hv:vs[i]?=some vs[i]:=agi (by omega);have uz:=(h5 i _ _ hv hx).val;obtain⟨a1,a2,a3,a4⟩:=aez hs.inv e k;have az:=(afV.1 hb).1;have bR:bU (G.dy (.slice none 0 0) 0 none) w a ⟨s.n,s.t,(s.h++[aj.vec e k []]).set b (aj.cells (cs.set i (J.vec s.h.length 0 0 0 k)))⟩:=by
  refine⟨hs.size,λj=>(hs.tmp j).aG a1 a2,HB a3 (by rw[af5 az];exact hb) (by rw[List.length_set]) λeF T' qc j u c hu hc=> ?_,hs.df.aG a1⟩;have e1:(G.dy (.slice none 0 0) 0 none).aF b=G.aF b:=rfl;rw[e1,h3]at qc;cases qc
  by_cases e2:i=j
  ·subst e2;rw[agp hi]at hc;cases hc
   rw[hv]at hu;cases hu
   rw[uz];exact a4
  ·rw[agu e2]at hc;exact(h5 j u c hu hc).aG a1 a2
 exact wpIn_mono (h.run _ w a n bR (agd hN a2)) λ_ _ _ hn=>hn.trans (a1.less hN)
end
theorem Xz{α:Type}{f:α->agK D}{E:agK α}{L:Nat}(h:E.length=L):(bW (E.map f)).length=L:=by rw[ze,af0,h]
theorem Xl{α:Type}{f:α->agK D}{E ys:agK α}{h:agK aj}{k L fa L' cq:Nat}{y:J}(hE:E.length=L)(hy:y.ep=some (ys.map f))(hk:∀c∈ys.map f,c.length=k)(hn:ys.length=fa)(hL:L+ys.length=L')(hm:L'<=maxLen)(hb:L'*cq<=140737488355328):
 (bW (E.map f)).length=L/\Bi h k y (bW (ys.map f))/\L'=L+(bW (ys.map f)).length/\((0+L+(bW (ys.map f)).length<=L/\L'=L/\bW ((E++ys).map f)=(bW (E.map f)).take (0+L)++bW (ys.map f)++(bW (E.map f)).drop (0+L+(bW (ys.map f)).length))\/(0=0/\L=L/\L'=L+(bW (ys.map f)).length/\bW ((E++ys).map f)=bW (E.map f)++bW (ys.map f)/\L'<=maxLen/\L'*cq<=140737488355328)):=by
 have hl:(bW (ys.map f)).length=ys.length:=by rw[ze,af0]
 refine⟨Xz hE, .inl ⟨_,hy,hk,rfl⟩,by rw[hl,hL], .inr ⟨rfl,rfl,by rw[hl,hL],by rw[List.map_append,adb],hm,hb⟩⟩
theorem YX{P:agN}{r:agM Nat}{N0:Nat}{c:Code}{s:St}{Q:Exit->St->Prop}(live:agK Nat)(b:Nat)(xs ys:agK (agK D)){e k L:Nat}(h':agK aj)(c1:Nat)(hb:s.h[b]?=some (.vec e k (bW xs)))(gu:∀c∈xs,c.all D.wz=true)(hL:xs.length=L)(hy:ys=xs)
 (ho:(live.flatMap λi=>(aQ s.t i).rP b)=List.replicate c1 (0,L,L,k)) (hh:ja b L k ys s.h h') (K:aX P r N0 c Q ⟨s.n,live.map (λi=>(i,(aQ s.t i).mlt b ys)),h'.set b .gone⟩):aX P r N0 c Q s:=by
 subst hy;exact aem live b _ h' c1 hb gu hL ho hh K
theorem ae3{α:Type}{f:α->agK D}(hf:∀x,(f x).all D.wz=true)(E:agK α):∀c∈E.map f,c.all D.wz=true:=λc hc=>by
 obtain⟨x,_,rfl⟩:=List.mem_map.1 hc;exact hf x
theorem V8{α:Type}{f:α->agK D}{E:agK α}{L:Nat}(h:E.length=L):(E.map f).length=L:=by rw[af0,h]
def Lx(o:Oper):Bool:=
 match o.op with
 | .call c=>match c.callee with
   | .value _=>false
   |_=>true
 |_=>true
def BO:bm->Bool
 | .va _=>true
 |_=>false
def Is(o:Oper)(a:bm):Bool:=F2 o||(Lx o&&((nh o||gN o&& !(bw o==0))|| !BO a))
def Fl(o:Oper)(a:bm):Bool:=Is o a||(!uS a&&(!BO a&& !gN o))
def DT(as:agK (Nat×bm)):Nat->agK Oper->Bool
 |_,[]=>true
 |j,o::l=>Fl o (gn as (3*j+1))&&DT as (j+1) l
section
variable {P:agN} {ops:Array Oper} {o:Oper} {j:Nat} {as:agK (Nat×bm)} {s s1:St} {l:agK (In×bm)} {K:St->Prop}
theorem TP(hn:Lx o=true)(h:nC P o K s):vG P o K s:=by
 unfold vG;unfold Lx at hn;split
 ·next c fm=>
  rw[fm]at hn;split
  ·next f hc=>simp only[hc]at hn;cases hn
  ·exact h
 ·exact h
theorem aci(h:kP P false o j as s=some (s1,l))(bh:fb P l)(hK:K s1)(hL:Is o (gn as (3*j+1))=true):tu true P o K s:=by
 unfold kP at h;simp only[Bool.false_and,cond_false]at h;split at h
 ·next x h' i hr=>
  have fin:OK P i (gn as (3*j+1))->K ((s.wh h').put o.dst x)->tu true P o K s:=λh1 h2=>by
   unfold Is at hL;rw[Bool.or_eq_true]at hL;unfold Ba at hr;split at hr
   ·next va e=>
    simp only[Bool.false_and,cond_false]at hr;split at hr
    ·next x2 Sl p e2=>
     cases hr
     rcases hL with hL|hL
     ·exfalso;rw[e]at h1;unfold F2 at hL;split at hL
      ·next c fm=>
       split at hL
       ·next t hc=>
        rw[fm]at e2;unfold fM at e2;simp only[hc]at e2;cases e2
       ·cases hL
      ·cases hL
     ·rw[e]at h1 hL;simp only[BO,Bool.not_true,Bool.or_false,afX]at hL;cases h1 with|pr _ hp=>exact .inr (.inr (.inl ⟨(by
        have h3:=hL.2;rw[Bool.or_eq_true,afX,Bool.not_eq_true']at h3;exact h3.elim (λe=> .inr (by rw[e];rfl)) λe=> .inl ⟨e.1,by rw[e.2];rfl⟩),va,x,h',p,e2,hp,h2⟩))
    ·cases hr
   ·rcases hL with hL|hL
    ·exact .inr (.inl ⟨by unfold kJ;rw[hL];rfl,x,h',h2,λC hC=>vW hr h1 hC⟩)
    ·rw[afX]at hL;exact .inl (TP hL.1 (vW (C:=λx h'=>K ((s.wh h').put o.dst x)) hr h1 h2))
  split at h
  ·next y hy=>
   obtain⟨m,e,h2,h3⟩:=BB h bh;cases e
   have:=h2 (.eq x, .eq y) af1;cases this with|eq e=>subst e;exact fin h3 hK
  ·obtain⟨m,e,h2,h3⟩:=BB h bh;cases e
   exact fin h3 hK
 ·cases h
theorem Xw{dr v:Bool}{op:Op}{ρ:Operand->J}{h:agK aj}{a:bm}(hv:BO a=false):Ba P dr v op ρ h a=rU P op ρ h a:=by
 cases a<;>first|rfl|cases hv
theorem Sz(h:kP P false o j as s=some (s1,l))(bh:fb P l)(hK:K s1)(hL:Fl o (gn as (3*j+1))=true):tu true P o K s:=by
 unfold Fl at hL;rw[Bool.or_eq_true]at hL;rcases hL with hL|hL
 ·exact aci h bh hK hL
 ·rw[afX,afX,Bool.not_eq_true',Bool.not_eq_true',Bool.not_eq_true']at hL;obtain⟨h1,h2,h3⟩:=hL;have h':kP P true o j as s=some (s1,l):=by
    unfold kP at h ⊢;rw[Xw h2]at h ⊢;rw[h1];exact h
  have:=Hy (dr:=true) h' bh hK;rcases this with h|⟨e,_⟩|⟨e,_⟩|h
  ·exact .inl h
  ·cases e
  ·exfalso;rcases e with e|e
   ·rw[h3]at e;exact absurd e.1 (by simp)
   ·cases e
  ·exact .inr (.inr (.inr h))
theorem acu(h:lV P ops false o j as s=some (s1,l))(bh:fb P l)(hK:K s1)(hL:Fl o (gn as (3*j+1))=true):fk ops o s (tu true P o K s) (K (s.put o.dst (.d (.v undef)))):=by
 unfold lV at h;split at h
 ·next hg=>unfold fk;rw[hg];exact Sz h bh hK hL
 ·next g want hg=>
  obtain⟨dst,op,ty,pos,after,guard⟩:=o;simp only at hg;subst hg;split at h
  ·next b hb=>
   obtain⟨n,e,h2,h3⟩:=tM h bh;have h4:=OK.DE (h3 (_,_) af1);rw[CT,h4];refine⟨λe2=> ?_,λe2=> ?_⟩
   ·subst e2;simp only[BEq.rfl,cond_true]at e;exact Sz e h2 hK hL
   ·subst e2;have:((!want)==want)=false:=by cases want<;>rfl
    rw[this]at e;simp only[cond_false]at e;cases e
    exact hK
  ·next hb=>
   obtain⟨n,e,h2,h3⟩:=tM h bh;cases e
   have h4:=h3 (_,_) af1;have h5:qz ops g s.t= .d (.v undef):=by
    generalize qz ops g s.t=z at h4;cases h4;rfl
   rw[CT,h5];exact hK
  ·cases h
theorem Ou:∀(ol:agK Oper)(j:Nat)(s:St)(l:agK (In×bm)),iK P ops false ol j as s=some (s1,l)->fb P l->DT as j ol=true->K s1->rf true P ops ol K s
 |[],_,s,l,h,_,_,hK=>by cases h;exact hK
 |o::rest,j,s,l,h,bh,hL,hK=>by
  unfold DT at hL;rw[afX]at hL;unfold iK at h;split at h
  ·next s2 m hg=>
   obtain⟨n,e,h2,h3⟩:=tM h bh;exact acu (K:=rf true P ops rest K) hg h3 (Ou rest (j+1) s2 n e h2 hL.2 hK) hL.1
  ·cases h
theorem Sq:∀(ol pre:agK Oper),n9 (pre++ol).toArray ((List.range ol.length).map (pre.length+·))=ol
 |[],_=>rfl
 |o::l,pre=>by
  rw[afY,List.range_succ_eq_map,agl,List.map_map];unfold n9;have h1:(pre++o::l).toArray[pre.length+0]?=some o:=by simp
  rw[h1];simp only;have h2:=Sq l (pre++[o]);rw[agc]at h2;simp only[List.singleton_append,afW,afY,af7,agf]at h2
  congr 1
  rw[show(pre.length+·)∘Nat.succ=(pre.length+1+·)from by funext i;simp only[Function.comp];omega];exact h2
theorem aed(ol:agK Oper):n9 ol.toArray (List.range ol.length)=ol:=by
 have:=Sq ol []
 simpa using this
end
section
variable {P:agN} {r:agM Nat} {N0 id n:Nat} {ol:agK Oper} {y:Code} {t:agK (Nat×J)} {h:agK aj} {Q Q':Exit->St->Prop}
theorem XM(hm:P.follows .mixedOrders=true)(hl:Gv true ol.toArray (List.range ol.length)=true)(ar:agK (Nat×Ob P))(Δ:agK (Nat×J))(h':agK aj)(e:DT (jC ar) 0 ol=true/\AI P false ol (jC ar) ⟨n,t,h⟩=some (Δ++t,h',jW ar))(k:Q .normal ⟨n,Δ++t,h'⟩):aX P r N0 (.region id ol.toArray true) Q ⟨n,t,h⟩:=by
 obtain⟨e0,e⟩:=e;refine ZX (m:=true) (List.range ol.length) hm (by simp) hl ?_;rw[aed];exact Ou ol 0 _ _ (Qt e) (tc ar) e0 k
end
section
variable {P:agN} {r:agM Nat} {N0:Nat} {Q:Exit->St->Prop} {c:Code} {o:Oper} {K:St->Prop}
theorem Cx{n d:Nat}{t:agK (Nat×J)}{h h':agK aj}{x:J}(hx:vV P o.op (ev ⟨n,t,h⟩) h=some (x,h'))(hd:o.dst=some d)(hn:Nat.ble n d=false)(hK:K ⟨n,(d,x)::t,h'⟩):lu P o K ⟨n,t,h⟩:=by
 refine .inr (.inr (.inr (.inr (.inl ⟨x,h',hx,?_⟩))));have az:d<n:=Nat.lt_of_not_le λhle=>by rw[Nat.ble_eq_true_of_le hle]at hn;cases hn
 rw[hd,nQ (s:=St.wh ⟨n,t,h⟩ h') az];exact hK
theorem aef{n d:Nat}{t:agK (Nat×J)}{h h':agK aj}{x:J}{p:Prop}(a:VA)(hx:fM P o.op (ev ⟨n,t,h⟩) h a=some (x,h',p))(hp:p)(hd:o.dst=some d)(hn:Nat.ble n d=false)(hK:K ⟨n,(d,x)::t,h'⟩):lu P o K ⟨n,t,h⟩:=by
 refine .inl ⟨a,x,h',p,hx,hp,?_⟩;have az:d<n:=Nat.lt_of_not_le λhle=>by rw[Nat.ble_eq_true_of_le hle]at hn;cases hn
 rw[hd,nQ (s:=St.wh ⟨n,t,h⟩ h') az];exact hK
theorem acV{ρ:Operand->J}{h:agK aj}{q:Call}{x y:Operand}{T U:TypeId}{e k m cq:Nat}{kq kn:IntKind}{z:agO}(hc:q.callee= .builtin .append)(h1:q.args.toList=[x,y])(h2:q.argTypes.toList=[T,U])(hx:(ρ x).isNil=true)(hT:dn P T=some (e,k))(hU:np P U=some kn)(hy:ρ y= .d (.v (.int kq (Int.ofNat m))))(hz:gi P e=some z)(hb:nV P e=some cq)(g1:1<=m)(g2:1<=k)(g3:z.cells.toList.length=k)(g4:m<=maxLen)(g5:m*cq<=140737488355328):
 vV P (.call q) ρ h=some (.vec h.length 0 m m k,h++[.vec e k (List.replicate m (z.cells.toList.map λu=> .d (.v u)))]):=by
 unfold vV;simp only[hc,h1,h2,hT,hU,hy,hz,hb,hx,cN.2 g1,cN.2 g2,cN.2 g4,cN.2 g5,g3,agF,Bool.and_self,cond_true]
theorem ab3{n t e k L:Nat}{ts:agK (Nat×J)}{cs:agK (agK J)}(bE:N0=0)(ht:aQ ts t= .vec 0 0 0 L k)(hL:cs.length=L)(h:aX P r N0 c Q ⟨n,[(t, .own 0 [])],[.front e k 0]⟩):aX P r N0 c Q ⟨n,ts,[.vec e k cs]⟩:=by
 subst bE;constructor
 intro G w a m hs hN;have hi:=hs.inv;have uP:([aj.vec e k cs]:agK aj)[0]?=some (.vec e k cs):=rfl;have hGN:G.N=1:=hi.len.symm;have hv:=hs.tmp t;rw[ht]at hv;obtain⟨vM,⟨A,cc,q1,q2,q3,q4,q5⟩,Pg⟩:=hv.rG hi uP hL;obtain⟨b1,b2,b3,b4⟩:=hi.b6 0 _ uP;have YR:∀(A:agM Addr),cc<=maxLen->cx G.S w (.slice A 0 cc) (.sl []):=λA hc=> .sl A 0 0 cc 0 [] (λ_ _=>undef) (λh=>absurd rfl h) (Nat.zero_le _) hc (λ_ h=>absurd h agC) (λi j hi=>absurd hi (ago _)) (λi j x d hx=>by simp at hx);obtain⟨G',eH⟩:∃G',G'={G with sg:=λi=>if i=0 then a.tmps.getD t undef else G.sg i,fl:=λi=>if i=0 then 0 else G.fl i}:=⟨_,rfl⟩;have hE:a7 0 G w G' w:=by
  subst eH;exact⟨af6 _,λ_ _ h=>h,λ_ _ _=>rfl,λ_ h=>absurd h (ago _),λ_ h=>absurd h (ago _),fi rfl,λ_ _=>rfl,rfl,rfl,rfl,λ_ _ h=> .inl h⟩
 have hinv:bg G' w [.front e k 0]:=by
  refine⟨by rw[eH];exact hi.len,by rw[eH];exact hi.z,by rw[eH];exact hi.S,λj B hB=> ?_,λi j x h1 h2=> ?_,by rw[eH];exact hi.gl⟩
  ·match j with
   |0=>
    cases hB
    refine⟨by rw[eH];simp,Nat.zero_le _,?_⟩;rcases b4 with⟨d1,d2,A',d3⟩|⟨g,cap,cur,d1,d2,d3,d4,d5,d6,d7,d8,d9⟩
    ·left
     refine⟨by rw[eH];exact d1,?_⟩;have tY:L=0:=by rw[<-hL,d2];rfl
     have:=Pg rfl tY.symm;rw[eH];exact⟨A',by simp only[if_true];rw[this];exact d3⟩
    ·by_cases tY:L=0
     ·have:=Pg rfl tY.symm
      right
      refine⟨g,cap,cur,by rw[eH];exact d1,?_,by rw[eH];exact d3,d4,Nat.zero_le _,d6,d7,λo _=>by rw[eH];exact d8 o⟩;rw[eH];simp only[if_true];rw[this,d2,hL,tY]
     ·obtain⟨g',A6,s1,rfl,s3⟩:=q5 (Nat.pos_of_ne_zero tY);rw[d2]at s1;cases s1
      right
      have:cc=cap:=by omega
      subst this;refine⟨g,cc,cur,by rw[eH];exact d1,?_,by rw[eH];exact d3,d4,Nat.zero_le _,d6,d7,λo _=>by rw[eH];exact d8 o⟩;rw[eH];simp only[if_true];rw[q1,Nat.zero_mul]
   |j+1=>simp at hB
  ·have hj:∀i x,bj [aj.front e k 0] G' i=some x->i=0:=λi x h=>by
    obtain⟨B,hB,_⟩:=ly h
    match i with
    |0=>rfl
    |i+1=>simp at hB
   rw[hj i x h1,hj j x h2]
 refine wpIn_mono (h.run G' w a m ⟨hs.size,λi=> ?_,hinv,?_⟩ (Nat.zero_le _)) λ_ _ _ hn=>hn.trans hE
 ·show ax G' w _ (aQ [(t, .own 0 [])] i);rw[kF];split
  ·next e=>
   subst e;refine .own 0 [] (by rw[eH];show 0<G.N;omega) ?_ (Nat.zero_le _) (λ_=>by rw[eH];simp);rw[q1,eH];exact YR A q3
  ·exact .dead _
 ·have:=hs.df;rw[eH];exact this
end
end Go.Proofs.YtmkmibahjanejaaGreatDoor
namespace Go.Proofs.YtmkmibahjanejaaGreatDoor.MK
open Go.RowKit
set_option linter.unusedVariables false
def aj(w:agP)(g:Nat)(t:TypeId)(cs:agK agO):Prop:=w.heap[g]?=some (.cells cs.toArray t (0,0))
section
variable {w w':agP} {g:Nat} {t:TypeId} {cs:agK agO}
end
section
variable {P:agN} (w:agP)
end
section
variable {P:agN} {w:agP}
end
section
variable {S E base:Nat} {w w' w'':agP}
end
end Go.Proofs.YtmkmibahjanejaaGreatDoor.MK
namespace Go.Proofs.YtmkmibahjanejaaGreatDoor
open Go.RowKit
set_option linter.unusedSimpArgs false
set_option linter.unusedVariables false
section
variable {P:agN}
end
def BM{α:Type}(x:J)(k:J->α):α:=
 match x with
 | .d y=>k (.d y)
 | .agg cs=>k (.agg cs)
 | .bp cs=>k (.bp cs)
 | .ptr n o=>fN n λn=>fN o λo=>k (.ptr n o)
 | .own n xs=>fN n λn=>k (.own n xs)
 | .fn f cs=>k (.fn f cs)
 | .mp n=>fN n λn=>k (.mp n)
 |x=>k x
theorem MZ{α:Type}(x:J)(k:J->α):BM x k=k x:=by cases x<;>simp [BM,A0]
def fT{α:Type}:agK (Nat×J)->(agK (Nat×J)->α)->α
 |[],k=>k []
 |(d,x)::l,k=>fN d λd=>BM x λx=>fT l λl=>k ((d,x)::l)
theorem OU{α:Type}:∀(l:agK (Nat×J))(k:agK (Nat×J)->α),fT l k=k l
 |[],k=>rfl
 |(d,x)::l,k=>by rw[fT,A0,MZ,OU l]
def fC{α:Type}:agK J->(agK J->α)->α
 |[],k=>k []
 |x::l,k=>BM x λx=>fC l λl=>k (x::l)
theorem PI{α:Type}:∀(l:agK J)(k:agK J->α),fC l k=k l
 |[],k=>rfl
 |x::l,k=>by rw[fC,MZ,PI l]
def fH{α:Type}:agK aj->(agK aj->α)->α
 |[],k=>k []
 | .cells cs::l,k=>fC cs λcs=>fH l λl=>k (.cells cs::l)
 | .front e z n::l,k=>fH l λl=>k (.front e z n::l)
 | .map kv::l,k=>fH l λl=>k (.map kv::l)
 | .gone::l,k=>fH l λl=>k (.gone::l)
 |B::l,k=>fH l λl=>k (B::l)
theorem pc{α:Type}:∀(l:agK aj)(k:agK aj->α),fH l k=k l
 |[],k=>rfl
 | .cells cs::l,k=>by rw[fH,PI,pc l]
 | .front e z n::l,k=>by rw[fH,pc l]
 | .map kv::l,k=>by rw[fH,pc l]
 | .gone::l,k=>by rw[fH,pc l]
 | .eE .. ::l,k=>by rw[fH,pc l]<;>simp
 | .vec .. ::l,k=>by rw[fH,pc l]<;>simp
 | .lp .. ::l,k=>by rw[fH,pc l]<;>simp
 | .it .. ::l,k=>by rw[fH,pc l]<;>simp
def GS{α:Type}(s:St)(k:St->α):α:=fN s.n λn=>fT s.t λt=>fH s.h λh=>k ⟨n,t,h⟩
theorem aaj{α:Type}(s:St)(k:St->α):GS s k=k s:=by unfold GS;rw[A0,OU,pc]
inductive Fr
 |S (y:Code)
 |B (id:Nat)
 |F (k:Nat) (f:St->Prop)
def fV(P:agN)(r:agM Nat)(N0:Nat)(Q:Exit->St->Prop):agK Fr->Exit->St->Prop
 |[]=>Q
 | .S y::K=>fA (λs=>aX P r N0 y (fV P r N0 Q K) s) (fV P r N0 Q K)
 | .B id::K=>nB id (fV P r N0 Q K)
 | .F _ f::K=>fA f (fV P r N0 Q K)
inductive Md
 |c (c:Code)
 |n
 |x (id:Nat)
inductive WR
 |at (c:Code) (K:List Fr) (s:St)
 |ret (s:St)
 |nrm (s:St)
 |fin (k:Nat) (s:St)
abbrev WO:=agM (WR×agK (In×bm))
def FG(l:agK (In×bm)):WO->WO
 |some (w,m)=>some (w,l++m)
 |none=>none
def j8(P:agN):Nat->Md->agK Fr->agK (agK (Nat×bm))->St->WO
 |0,_,_,_,_=>none
 |F+1,m,K,A,s=>match m with
  | .n=>match K with
    |[]=>some (.nrm s,[])
    | .S y::K=>j8 P F (.c y) K A s
    | .B _::K=>j8 P F .n K A s
    | .F k _::_=>some (.fin k s,[])
  | .x id=>match K with
    |[]=>none
    | .S _::K=>j8 P F (.x id) K A s
    | .B nr::K=>j8 P F (bif id==nr then .n else .x id) K A s
    | .F _ _::K=>j8 P F (.x id) K A s
  | .c c=>match c with
    | .seq a b=>j8 P F (.c a) (.S b::K) A s
    | .block id b=>j8 P F (.c b) (.B id::K) A s
    | .skip=>j8 P F .n K A s
    | .ret=>some (.ret s,[])
    | .exit id=>j8 P F (.x id) K A s
    | .region id ops dr=>match A with
      |[]=>some (.at (.region id ops dr) K s,[])
      |as::A=>bif !dr||uX ops then match iK P ops dr ops.toList 0 as s with
         |some (s1,l)=>GS s1 λs1=>FG l (j8 P F .n K A s1)
         |none=>none
       else none
    | .cond o x y=>match A with
      |[]=>some (.at (.cond o x y) K s,[])
      |as::A=>match gn as 0 with
       | .bit b=>FG [(.bit (ev s o), .bit b)] (j8 P F (.c (bif b then x else y)) K A s)
       |_=>none
    |c=>match A with
     |[]=>some (.at c K s,[])
     |_=>none
section
variable {P:agN} {r:agM Nat} {N0:Nat} {Q:Exit->St->Prop}
theorem Dw:∀(K:agK Fr)(s:St),Q .ret s->fV P r N0 Q K .ret s
 |[],_,h=>h
 | .S _::K,s,h=>Dw K s h
 | .B _::K,s,h=>Dw K s h
 | .F _ _::K,s,h=>Dw K s h
def aaA(P:agN)(r:agM Nat)(N0:Nat)(Q:Exit->St->Prop)(m:Md)(K:agK Fr)(s:St):Prop:=
 match m with
 | .c c=>aX P r N0 c (fV P r N0 Q K) s
 | .n=>fV P r N0 Q K .normal s
 | .x id=>fV P r N0 Q K (.exit id) s
def xA(P:agN)(r:agM Nat)(N0:Nat)(Q:Exit->St->Prop)(K0:agK Fr):WR->Prop
 | .at c K s=>aX P r N0 c (fV P r N0 Q K) s
 | .ret s=>Q .ret s
 | .nrm s=>Q .normal s
 | .fin k s=>∀f,Fr.F k f∈K0->f s
theorem xA.sub{K K':agK Fr}(h:∀k f,Fr.F k f∈K'->Fr.F k f∈K):∀{w:WR},xA P r N0 Q K w->xA P r N0 Q K' w
 | .at _ _ _,hp=>hp
 | .ret _,hp=>hp
 | .nrm _,hp=>hp
 | .fin k _,hp=>λf hf=>hp f (h k f hf)
theorem PT{l m:agK (In×bm)}{x:WO}{w:WR}(h:FG l x=some (w,m))(bh:fb P m):∃n,x=some (w,n)/\fb P n/\fb P l:=by
 unfold FG at h;split at h
 ·next w' n=>
  cases h
  exact⟨n,rfl,λp hp=>bh p (List.mem_append_right _ hp),λp hp=>bh p (List.mem_append_left _ hp)⟩
 ·cases h
theorem MW(hm:P.follows .mixedOrders=true):∀(F:Nat)(m:Md)(K:agK Fr)(A:agK (agK (Nat×bm)))(s:St)(w:WR)(l:agK (In×bm)),j8 P F m K A s=some (w,l)->fb P l->xA P r N0 Q K w->aaA P r N0 Q m K s
 |0,_,_,_,_,_,_,h,_,_=>by simp [j8]at h
 |F+1,m,K,A,s,w,l,h,bh,hp=>by
  have ih:=MW hm F;have tl:∀{x:Fr}{K:agK Fr},∀k f,Fr.F k f∈K->Fr.F k f∈x::K:=λ_ _ h=>af4 _ h;have pS:∀{y:Code}{K:agK Fr},∀k f,Fr.F k f∈Fr.S y::K->Fr.F k f∈K:=λk f h=>by
   rcases agq.1 h with h|h
   ·cases h
   ·exact h
  have pB:∀{y:Nat}{K:agK Fr},∀k f,Fr.F k f∈Fr.B y::K->Fr.F k f∈K:=λk f h=>by
   rcases agq.1 h with h|h
   ·cases h
   ·exact h
  unfold j8 at h;cases m with
  |n=>
   cases K with
   |nil=>cases h;exact hp
   |cons x K=>
    cases x with
    |S y=>exact ih (.c y) K _ _ _ _ h bh (hp.sub tl)
    |B id=>exact ih .n K _ _ _ _ h bh (hp.sub tl)
    |F k f=>cases h;exact hp _ af1
  |x id=>
   cases K with
   |nil=>cases h
   |cons x K=>
    cases x with
    |S y=>exact ih (.x id) K _ _ _ _ h bh (hp.sub tl)
    |B nr=>
     show(bif id==nr then fV P r N0 Q K .normal s else fV P r N0 Q K (.exit id) s);simp only at h;cases e:id==nr with
     |true=>rw[e]at h;exact ih .n K _ _ _ _ h bh (hp.sub tl)
     |false=>rw[e]at h;exact ih (.x id) K _ _ _ _ h bh (hp.sub tl)
    |F k f=>exact ih (.x id) K _ _ _ _ h bh (hp.sub tl)
  |c c=>
   simp only at h;split at h
   ·exact bA (ih (.c _) (.S _::K) _ _ _ _ h bh (hp.sub pS))
   ·exact iS (ih (.c _) (.B _::K) _ _ _ _ h bh (hp.sub pB))
   ·exact gQ (ih .n _ _ _ _ _ h bh hp)
   ·cases h;exact e7 (Dw K s hp)
   ·exact qQ (ih (.x _) _ _ _ _ _ h bh hp)
   ·next id ops dr=>
    split at h
    ·cases h;exact hp
    ·next as A=>
     obtain⟨hb,h⟩:=mh h;split at h
     ·next s1 l1 e=>
      rw[aaj]at h;obtain⟨n,e2,h2,h3⟩:=PT h bh;have hk:=ih .n _ _ _ _ _ e2 h2 hp;have cG:=vR (P:=P) (ops:=ops) (dr:=dr) (K:=fV P r N0 Q K .normal) ops.toList 0 s l1 e h3 hk;cases dr with
      |false=>exact er cG
      |true=>
       have hl:uX ops.toList.toArray=true:=by simpa using hb
       have:=Mw (P:=P) (r:=r) (N0:=N0) (Q:=fV P r N0 Q K) (s:=s) (id:=id) (l:=ops.toList) hm hl (by simpa using cG);show aX P r N0 (.region id ops true) (fV P r N0 Q K) s
       simpa using this
     ·cases h
   ·next o x y=>
    split at h
    ·cases h;exact hp
    ·next as A=>
     split at h
     ·next b e=>
      obtain⟨n,e2,h2,h3⟩:=PT h bh;have h4:=OK.DE (h3 (_,_) af1);have hk:=ih (.c _) _ _ _ _ _ e2 h2 hp;exact xc h4 (λe=>by subst e;exact hk) (λe=>by subst e;exact hk)
     ·cases h
   ·split at h
    ·cases h;exact hp
    ·cases h
end
def wK:WO->agK Fr
 |some (.at _ K _,_)=>K
 |_=>[]
def wS:WO->St
 |some (.at _ _ s,_)=>s
 |_=>⟨0,[],[]⟩
def fsOf(k:Nat):agK Fr->agK (St->Prop)
 |[]=>[]
 | .F k' f::K=>bif k'==k then f::fsOf k K else fsOf k K
 |_::K=>fsOf k K
theorem zZ{k:Nat}{f:St->Prop}:∀{K:agK Fr},Fr.F k f∈K->f∈fsOf k K
 |[],h=>by cases h
 | .S _::K,h=>by
   rcases agq.1 h with h|h
   ·cases h
   ·exact zZ (K:=K) h
 | .B _::K,h=>by
   rcases agq.1 h with h|h
   ·cases h
   ·exact zZ (K:=K) h
 | .F k' g::K,h=>by
   rcases agq.1 h with h|h
   ·cases h;simp [fsOf]
   ·unfold fsOf;cases k'==k with
    |true=>exact af4 _ (zZ h)
    |false=>exact zZ h
def rZ:WO->agM (agK (In×bm))
 |some (.at _ _ _,l)=>some l
 |_=>none
def kI(live:agK Nat)(m:Nat):WO->agM (St×agK (In×bm))
 |some (.at (.loop _) _ s,l)=>(gr s live m).map (·,l)
 |_=>none
def zJ(live:agK Nat)(m:Nat)(ks:agK Nat)(kn:agK (Nat×Nat)):WO->agM (St×agK (In×bm))
 |some (.at (.loop _) _ s,l)=>(kf s live m ks kn).map (·,l)
 |_=>none
def qf:WO->agM (agK (In×bm))
 |some (.at _ (.S _::_) _,l)=>some l
 |_=>none
def mw(k:Nat)(live:agK Nat)(m:Nat):WO->agM (St×agK (In×bm))
 |some (.fin k' s,l)=>bif k'==k then(gr s live m).map (·,l)else none
 |_=>none
def vI(k:Nat)(live:agK Nat)(m:Nat)(ks:agK Nat)(kn:agK (Nat×Nat)):WO->agM (St×agK (In×bm))
 |some (.fin k' s,l)=>bif k'==k then(kf s live m ks kn).map (·,l)else none
 |_=>none
def oe(P:agN)(rs:agK ResultVar):WO->agM (J×agK (In×bm))
 |some (.ret s,l)=>(sB P rs s).map (·,l)
 |some (.nrm s,l)=>(sB P rs s).map (·,l)
 |_=>none
def F1(P:agN)(rs:agK ResultVar)(m:Nat):WO->agM ((J×agK aj)×agK (In×bm))
 |some (.ret s,l)=>(tH P rs m s).map (·,l)
 |some (.nrm s,l)=>(tH P rs m s).map (·,l)
 |_=>none
def zM:agK Fr->agM (Code×agK Fr)
 | .S y::K=>some (y,K)
 | .B _::K=>zM K
 |_=>none
def Cl(P:agN)(aG:agK Nat)(as:agK (Nat×bm)):WO->agM (agK (Nat×J)×agK aj×agK (In×bm))
 |some (.at (.region _ ops dr) K s,_)=>bif (!dr||uX ops)&&(zM K).isSome then tI P dr ops.toList as aG s else none
 |_=>none
def fj(k:Nat)(f:St->Prop)(s:St):WO->WO
 |some (.at (.loop b) K _,_)=>some (.at b (.F k f::K) s,[])
 |_=>none
def u5(k:Nat)(f:St->Prop):WO->WO
 |some (.at c (.S _::K) s,_)=>some (.at c (.F k f::K) s,[])
 |_=>none
def wM(s:St):WO->WO
 |some (.at _ (.S y::K) _,_)=>some (.at y K s,[])
 |_=>none
def vp(Δ:agK (Nat×J))(h':agK aj):WO->WO
 |some (.at _ K s,_)=>match zM K with
  |some (y,K')=>some (.at y K' ⟨s.n,Δ++s.t,h'⟩,[])
  |none=>none
 |_=>none
def Kg(f:St->St):WO->WO
 |some (.at c K s,l)=>some (.at c K (f s),l)
 |_=>none
def M3:Nat:=4000
def wk(P:agN)(w:WO)(ar:agK (agK (Nat×Ob P))):WO:=
 match w with
 |some (.at c K s,_)=>j8 P M3 (.c c) K (ar.map jC) s
 |_=>none
def cQ{P:agN}(ar:agK (agK (Nat×Ob P))):agK (In×bm):=ar.flatMap jW
theorem afg{P:agN}(ar:agK (agK (Nat×Ob P))):fb P (cQ ar):=λp hp=>by
 obtain⟨l,_,h⟩:=List.mem_flatMap.1 hp;exact tc l p h
theorem nk{α β:Type}{x:agM α}{l:β}{y:α}{m:β}(h:x.map (·,l)=some (y,m)):x=some y/\l=m:=by
 cases x with
 |none=>cases h
 |some z=>cases h;exact⟨rfl,rfl⟩
def wV(P:agN)(r:agM Nat)(N0:Nat)(Q:Exit->St->Prop):WO->Prop
 |some (.at c K s,_)=>aX P r N0 c (fV P r N0 Q K) s
 |_=>True
structure GW(P:Program)(r:Option Nat)(N0:Nat)(Q:Exit->St->Prop)(w:WO):Prop where
 run:wV P r N0 Q w
section
variable {P:agN} {r:agM Nat} {N0:Nat} {Q:Exit->St->Prop} {w0:WO}
theorem lZ{ar:agK (agK (Nat×Ob P))}(hm:P.follows .mixedOrders=true){w:WR}(e:wk P w0 ar=some (w,cQ ar))(hp:∀K,(∀k f,Fr.F k f∈K->Fr.F k f∈wK w0)->xA P r N0 Q K w):GW P r N0 Q w0:=by
 constructor
 unfold wk at e;split at e
 ·next c K s l=>exact MW hm M3 (.c c) K _ s w _ e (afg ar) (hp K λk f h=>h)
 ·cases e
theorem uh(hm:P.follows .mixedOrders=true)(ar:agK (agK (Nat×Ob P)))(k:GW P r N0 Q (wk P w0 ar))(e:rZ (wk P w0 ar)=some (cQ ar):=by kernel_rfl):GW P r N0 Q w0:=by
 generalize hw:wk P w0 ar=w at e k;unfold rZ at e;split at e
 ·cases e;exact lZ hm hw λK _=>k.run
 ·cases e
theorem ZY(hm:P.follows .mixedOrders=true){fn:Func}{R:J}(ar:agK (agK (Nat×Ob P)))(e:oe P fn.results.toList (wk P w0 ar)=some (R,cQ ar)):GW P r N0 (iM P fn R) w0:=by
 generalize hw:wk P w0 ar=w at e;unfold oe at e;split at e
 ·obtain⟨e1,rfl⟩:=nk e;exact lZ hm hw λK _=>e1
 ·obtain⟨e1,rfl⟩:=nk e;exact lZ hm hw λK _=>e1
 ·cases e
theorem aaN(hm:P.follows .mixedOrders=true){fn:Func}{m:Nat}{R:J}{H:agK aj}(ar:agK (agK (Nat×Ob P)))(e:F1 P fn.results.toList m (wk P w0 ar)=some ((R,H),cQ ar)):GW P r N0 (qJ P fn m R H) w0:=by
 generalize hw:wk P w0 ar=w at e;unfold F1 at e;split at e
 ·obtain⟨e1,rfl⟩:=nk e;exact lZ hm hw λK _=>e1
 ·obtain⟨e1,rfl⟩:=nk e;exact lZ hm hw λK _=>e1
 ·cases e
theorem wr(hm:P.follows .mixedOrders=true){fn:Func}{R:J}(ar:agK (agK (Nat×Ob P)))(e:oe P fn.results.toList (wk P w0 ar)=some (R,cQ ar):=by kernel_rfl):GW P r N0 (iM P fn R) w0:=ZY hm ar e
theorem wrH(hm:P.follows .mixedOrders=true){fn:Func}{m:Nat}{R:J}{H:agK aj}(ar:agK (agK (Nat×Ob P)))(e:F1 P fn.results.toList m (wk P w0 ar)=some ((R,H),cQ ar):=by kernel_rfl):GW P r N0 (qJ P fn m R H) w0:=aaN hm ar e
structure EA{ι:Type}(k:Nat)(live:List Nat)(m:Nat)(st:ι->St)(I:ι->Prop)(μ:ι->Nat)(i0:ι)(f:St->Prop):Prop where
 h:∀s' i',gr s' live m=some (st i')->I i'->μ i'<μ i0->f s'
structure Iz{ι:Type}(k:Nat)(live:List Nat)(m:Nat)(ks:List Nat)(kn:List (Nat×Nat))(st:ι->St)(I:ι->Prop)(μ:ι->Nat)(i0:ι)(f:St->Prop):Prop where
 h:∀s' i',iv m (s'.h.take m)->kf s' live m ks kn=some (st i')->I i'->μ i'<μ i0->f s'
structure vg{ι:Type}(k:Nat)(live:List Nat)(m:Nat)(st:ι->St)(I:ι->Prop)(f:St->Prop):Prop where
 h:∀s' i',gr s' live m=some (st i')->I i'->f s'
structure FJ{ι:Type}(k:Nat)(live:List Nat)(m:Nat)(ks:List Nat)(kn:List (Nat×Nat))(st:ι->St)(I:ι->Prop)(f:St->Prop):Prop where
 h:∀s' i',iv m (s'.h.take m)->kf s' live m ks kn=some (st i')->I i'->f s'
theorem CN(hm:P.follows .mixedOrders=true){k:Nat}{s1:St}{f:St->Prop}(ar:agK (agK (Nat×Ob P)))(e1:fsOf k (wK w0)=[f])(e:wk P w0 ar=some (.fin k s1,cQ ar))(hf:f s1):GW P r N0 Q w0:=
 lZ hm e λK hK g hg=>by
  have:=zZ (hK k g hg);rw[e1,List.mem_singleton]at this;subst this;exact hf
theorem Ku(hm:P.follows .mixedOrders=true){ι:Type}{live:agK Nat}{m k:Nat}{st:ι->St}{I:ι->Prop}{μ:ι->Nat}{i0:ι}{f:St->Prop}(hf:EA k live m st I μ i0 f)(i:ι)(ar:agK (agK (Nat×Ob P)))(hI:I i)(hμ:μ i<μ i0:=by exact agI _)(e1:fsOf k (wK w0)=[f]:=by kernel_rfl)(e:mw k live m (wk P w0 ar)=some (st i,cQ ar):=by kernel_rfl):GW P r N0 Q w0:=by
 generalize hw:wk P w0 ar=w at e;unfold mw at e;split at e
 ·next k' s' l=>
  obtain⟨hb,e⟩:=mh e;obtain⟨e2,rfl⟩:=nk e;rw[beq_iff_eq]at hb;subst hb;exact CN hm ar e1 hw (hf.h _ i e2 hI hμ)
 ·cases e
def Ai:agK aj->agK (agK (agK J))
 |[]=>[]
 | .vec _ _ cs::l=>cs::Ai l
 |_::l=>Ai l
structure VE(m:Nat) where
 x:List (List J)
 ok:∀e k,(aj.vec e k x).uA m
theorem xF{m:Nat}:∀(l:agK aj)(e8:agK (VE m)),Ai l=e8.map VE.x->iv m l
 |[],_,_=>Kt
 |B::l,e8,h=>by
  cases B with
  |vec e k cs=>
   cases e8 with
   |nil=>cases h
   |cons v vs=>
    have h1:cs=v.x:=(List.cons.inj h).1;subst h1;exact⟨v.ok e k,xF l vs (List.cons.inj h).2⟩
  |_=>exact⟨trivial,xF l e8 h⟩
def rp(m:Nat):WO->agK (agK (agK J))
 |some (.fin _ s,_)=>Ai (s.h.take m)
 |some (.at _ _ s,_)=>Ai (s.h.take m)
 |_=>[]
theorem aex(hm:P.follows .mixedOrders=true){ι:Type}{live:agK Nat}{m k:Nat}{ks:agK Nat}{kn:agK (Nat×Nat)}{st:ι->St}{I:ι->Prop}{μ:ι->Nat}{i0:ι}{f:St->Prop}(hf:Iz k live m ks kn st I μ i0 f)(i:ι)(ar:agK (agK (Nat×Ob P)))(hI:I i)(hμ:μ i<μ i0:=by exact agI _)(e1:fsOf k (wK w0)=[f]:=by kernel_rfl)(e8:agK (VE m):=[])(e0:rp m (wk P w0 ar)=e8.map VE.x:=by kernel_rfl)(e:vI k live m ks kn (wk P w0 ar)=some (st i,cQ ar):=by kernel_rfl):GW P r N0 Q w0:=by
 generalize hw:wk P w0 ar=w at e e0;unfold vI at e;split at e
 ·next k' s' l=>
  obtain⟨hb,e⟩:=mh e;obtain⟨e2,rfl⟩:=nk e;rw[beq_iff_eq]at hb;subst hb;exact CN hm ar e1 hw (hf.h _ i (xF _ e8 e0) e2 hI hμ)
 ·cases e
theorem S7(hm:P.follows .mixedOrders=true){ι:Type}{live:agK Nat}{m k:Nat}{st:ι->St}{I:ι->Prop}{f:St->Prop}(hf:vg k live m st I f)(i:ι)(ar:agK (agK (Nat×Ob P)))(hI:I i)(e1:fsOf k (wK w0)=[f]:=by kernel_rfl)(e:mw k live m (wk P w0 ar)=some (st i,cQ ar):=by kernel_rfl):GW P r N0 Q w0:=by
 generalize hw:wk P w0 ar=w at e;unfold mw at e;split at e
 ·next k' s' l=>
  obtain⟨hb,e⟩:=mh e;obtain⟨e2,rfl⟩:=nk e;rw[beq_iff_eq]at hb;subst hb;exact CN hm ar e1 hw (hf.h _ i e2 hI)
 ·cases e
theorem KT(hm:P.follows .mixedOrders=true){ι:Type}(k:Nat)(ar:agK (agK (Nat×Ob P)))(live:agK Nat)(m:Nat)(st:ι->St)(I:ι->Prop)(μ:ι->Nat)(i0:ι)(hI:I i0)
 (body:∀i,I i->∀f:St->Prop,EA k live m st I μ i f->GW P r N0 Q (fj k f (st i) (wk P w0 ar)))
 (hN:N0<=m:=by exact af3 rfl) (e:kI live m (wk P w0 ar)=some (st i0,cQ ar):=by kernel_rfl):GW P r N0 Q w0:=by
 generalize hw:wk P w0 ar=w at e body;unfold kI at e;split at e
 ·next b K' s' l=>
  obtain⟨e2,rfl⟩:=nk e;refine lZ hm hw λK _=> ?_;refine Pl live m st I μ i0 hN e2 hI λi hi=> ?_;exact(body i hi _ ⟨λs' i' h1 h2 h3=>⟨i',h1,h2,h3⟩⟩).run
 ·cases e
theorem abg(hm:P.follows .mixedOrders=true){ι:Type}(k:Nat)(ar:agK (agK (Nat×Ob P)))(live:agK Nat)(m:Nat)(ks:agK Nat)(kn:agK (Nat×Nat))(st:ι->St)(I:ι->Prop)(μ:ι->Nat)(i0:ι)(hI:I i0)
 (body:∀i,I i->∀f:St->Prop,Iz k live m ks kn st I μ i f->GW P r N0 Q (fj k f (st i) (wk P w0 ar)))
 (hN:N0<=m:=by exact af3 rfl) (e8:agK (VE m):=[]) (e0:rp m (wk P w0 ar)=e8.map VE.x:=by kernel_rfl) (e:zJ live m ks kn (wk P w0 ar)=some (st i0,cQ ar):=by kernel_rfl):GW P r N0 Q w0:=by
 generalize hw:wk P w0 ar=w at e e0 body;unfold zJ at e;split at e
 ·next b K' s' l=>
  obtain⟨e2,rfl⟩:=nk e;refine lZ hm hw λK _=> ?_;refine RB live m ks kn st I μ i0 hN ⟨xF _ e8 e0,e2⟩ hI λi hi=> ?_;exact(body i hi _ ⟨λs' i' h0 h1 h2 h3=>⟨i',⟨h0,h1⟩,h2,h3⟩⟩).run
 ·cases e
theorem My(hm:P.follows .mixedOrders=true){ι:Type}(k:Nat)(ar:agK (agK (Nat×Ob P)))(live:agK Nat)(m:Nat)(st:ι->St)(I:ι->Prop)
 (br:∀f:St->Prop,vg k live m st I f->GW P r N0 Q (u5 k f (wk P w0 ar)))
 (rest:∀i,I i->GW P r N0 Q (wM (st i) (wk P w0 ar))) (hN:N0<=m:=by exact af3 rfl) (e:qf (wk P w0 ar)=some (cQ ar):=by kernel_rfl):GW P r N0 Q w0:=by
 generalize hw:wk P w0 ar=w at e br rest;unfold qf at e;split at e
 ·cases e
  refine lZ hm hw λK _=> ?_;exact V4 live m st I hN (br _ ⟨λs' i' h1 h2=>⟨i',h1,h2⟩⟩).run λi hi=>(rest i hi).run
 ·cases e
theorem afm(hm:P.follows .mixedOrders=true){ι:Type}{live:agK Nat}{m k:Nat}{ks:agK Nat}{kn:agK (Nat×Nat)}{st:ι->St}{I:ι->Prop}{f:St->Prop}(hf:FJ k live m ks kn st I f)(i:ι)(ar:agK (agK (Nat×Ob P)))(hI:I i)(e8:agK (VE m):=[])(e0:rp m (wk P w0 ar)=e8.map VE.x:=by kernel_rfl)(e1:fsOf k (wK w0)=[f]:=by kernel_rfl)(e:vI k live m ks kn (wk P w0 ar)=some (st i,cQ ar):=by kernel_rfl):GW P r N0 Q w0:=by
 generalize hw:wk P w0 ar=w at e e0;unfold vI at e;split at e
 ·next k' s' l=>
  obtain⟨hb,e⟩:=mh e;obtain⟨e2,rfl⟩:=nk e;rw[beq_iff_eq]at hb;subst hb;exact CN hm ar e1 hw (hf.h _ i (xF _ e8 e0) e2 hI)
 ·cases e
theorem Zq(hm:P.follows .mixedOrders=true){ι:Type}(k:Nat)(ar:agK (agK (Nat×Ob P)))(live:agK Nat)(m:Nat)(ks:agK Nat)(kn:agK (Nat×Nat))(st:ι->St)(I:ι->Prop)
 (br:∀f:St->Prop,FJ k live m ks kn st I f->GW P r N0 Q (u5 k f (wk P w0 ar)))
 (rest:∀i,I i->GW P r N0 Q (wM (st i) (wk P w0 ar))) (hN:N0<=m:=by exact af3 rfl) (e:qf (wk P w0 ar)=some (cQ ar):=by kernel_rfl):GW P r N0 Q w0:=by
 generalize hw:wk P w0 ar=w at e br rest;unfold qf at e;split at e
 ·cases e
  refine lZ hm hw λK _=> ?_;exact XD live m ks kn st I hN (br _ ⟨λs' i' h0 h1 h2=>⟨i',⟨h0,h1⟩,h2⟩⟩).run λi hi=>(rest i hi).run
 ·cases e
theorem HN:∀{K:agK Fr}{y:Code}{K':agK Fr}{s:St},zM K=some (y,K')->aX P r N0 y (fV P r N0 Q K') s->fV P r N0 Q K .normal s
 |[],_,_,_,h,_=>by cases h
 | .S y::K,_,_,_,h,k=>by cases h;exact k
 | .B _::K,_,_,s,h,k=>HN (K:=K) (s:=s) h k
 | .F _ _::K,_,_,_,h,_=>by cases h
theorem Vg(hm:P.follows .mixedOrders=true)(Δ:agK (Nat×J))(h':agK aj)(e:∃ar:agK (Nat×Ob P),Cl P (Δ.map (·.1)) (jC ar) (wk P w0 [])=some (Δ,h',jW ar))(k:GW P r N0 Q (vp Δ h' (wk P w0 [])))(e0:rZ (wk P w0 [])=some []:=by kernel_rfl):GW P r N0 Q w0:=by
 generalize hw:wk P w0 []=w at e k e0;obtain⟨ar,e⟩:=e;unfold Cl at e;split at e
 ·next id ops dr K' s' l=>
  obtain⟨hb,e⟩:=mh e;rw[afX]at hb;cases e0
  refine lZ hm hw λK _=> ?_;obtain⟨s1,h1,h2,h3,h4⟩:=Th e;obtain⟨p,hp⟩:=Option.isSome_iff_exists.1 hb.2;obtain⟨y,K2⟩:=p;have hk:fV P r N0 Q K' .normal s1:=by
   refine HN hp (RC (s:=s1) (s':=⟨s'.n,Δ++s'.t,h'⟩) h2.symm h3.symm h4 ?_);have k:=k.run;simp only[vp,hp]at k;exact k
  show aX P r N0 (.region id ops dr) (fV P r N0 Q K') s';have cG:=vR (P:=P) (ops:=ops.toList.toArray) (dr:=dr) (K:=fV P r N0 Q K' .normal) ops.toList 0 s' _ h1 (tc ar) hk;cases dr with
  |false=>exact er (by simpa using cG)
  |true=>
   have hl:uX ops.toList.toArray=true:=by simpa using hb.1
   have:=Mw (P:=P) (r:=r) (N0:=N0) (Q:=fV P r N0 Q K') (s:=s') (id:=id) (l:=ops.toList) hm hl (by simpa using cG)
   simpa using this
 ·cases e
def Pc(P:agN)(aG:agK Nat)(as:agK (Nat×bm)):WO->agM (agK (agK (Nat×J)×agK aj×agK (In×bm)))
 |some (.at (.region _ ops true) K s,_)=>bif (zM K).isSome then Eg P ops.toList as aG s else none
 |_=>none
theorem Rp(m:Nat)(hm:P.follows .mixedOrders=true)(Δ:agK (Nat×J))(h':agK aj)(e:∃ar:agK (Nat×Ob P),Pc P (Δ.map (·.1)) (jC ar) (wk P w0 [])=some (List.replicate m (Δ,h',jW ar)))(k:GW P r N0 Q (vp Δ h' (wk P w0 [])))(e0:rZ (wk P w0 [])=some []:=by kernel_rfl):GW P r N0 Q w0:=by
 generalize hw:wk P w0 []=w at e k e0;obtain⟨ar,e⟩:=e;unfold Pc at e;split at e
 ·next id ops K' s' l=>
  obtain⟨hb,e⟩:=mh e;cases e0
  refine lZ hm hw λK _=> ?_;obtain⟨p,hp⟩:=Option.isSome_iff_exists.1 hb;obtain⟨y,K2⟩:=p;show aX P r N0 (.region id ops true) (fV P r N0 Q K') s';have:=rte (r:=r) (N0:=N0) (Q:=fV P r N0 Q K') (id:=id) (ol:=ops.toList) (n:=s'.n) (t:=s'.t) (h:=s'.h) m hm ar Δ h' e (HN hp (by
   have k:=k.run;simp only[vp,hp]at k;exact k))
  simpa using this
 ·cases e
theorem WI(k:Nat)(xs:agK (agK D))(hx:(aQ (wS w0).t k).ep=some xs)(h:ra (.sl xs)->GW P r N0 Q w0):GW P r N0 Q w0:=by
 constructor
 unfold wV;split
 ·next c K s l=>exact yr k xs hx λhl=>(h hl).run
 ·trivial
theorem Cu(b i:Nat)(xs:agK (agK D))(hx:(((wS w0).h[b]?).bind λB=>match B with| .cells cs=>(cs[i]?).bind J.ep|_=>none)=some xs)(h:ra (.sl xs)->GW P r N0 Q w0):GW P r N0 Q w0:=by
 constructor
 unfold wV;split
 ·next c K s l=>exact Uv b i xs hx λhl=>(h hl).run
 ·trivial
def adS(k e sz:Nat)(xs:agK (agK D))(s:St):St:=⟨s.n,(k, .own s.h.length xs)::s.t,s.h++[.front e sz xs.length]⟩
def FY(b i e sz:Nat)(xs:agK (agK D))(s:St):St:=match s.h[b]? with
 |some (.cells cs)=>⟨s.n,s.t,(s.h++[aj.front e sz xs.length]).set b (aj.cells (cs.set i (J.own s.h.length xs)))⟩
 |_=>s
def Gs(xs:agK (agK D)):J->Bool
 | .d (.v (.slice none 0 0))=>xs.isEmpty
 |_=>false
theorem Mf{xs:agK (agK D)}{x:J}(h:Gs xs x=true):x= .d (.v (.slice none 0 0))/\xs=[]:=by
 unfold Gs at h;split at h
 ·exact⟨rfl,List.isEmpty_iff.1 h⟩
 ·cases h
theorem jw(k e sz:Nat)(xs:agK (agK D))(hx:aQ (wS w0).t k= .full xs\/Gs xs (aQ (wS w0).t k)=true)(h:GW P r N0 Q (Kg (adS k e sz xs) w0)):GW P r N0 Q w0:=by
 constructor
 unfold wV;split
 ·next c K s l=>exact QY k e sz xs (hx.imp id Mf) h.run
 ·trivial
def J.Mo:J->J
 | .own _ xs=> .d (.sl xs)
 |x=>x
theorem J.Le.Fx(x:J):J.Le x x.Mo:=λG w u h=>by
 cases h with
 |own n xs h1 hp h2 h3=>exact .d hp
 |_=>first|exact .d (by assumption)|(constructor<;>assumption)
def Hh(b:Nat)(s:St):St:=match s.h[b]? with
 |some (.cells cs)=>⟨s.n,s.t,s.h.set b (aj.cells (cs.map J.Mo))⟩
 |_=>s
theorem aej{c:Code}{s:St}{Q:Exit->St->Prop}(b:Nat)(h:aX P r N0 c Q (Hh b s)):aX P r N0 c Q s:=by
 unfold Hh at h;split at h
 ·next cs hb=>
  constructor
  intro G w a n hs hN;obtain⟨h1,h2,vs,T,h3,h4,h5⟩:=hs.inv.b6 _ _ hb;refine h.run G w a n ⟨hs.size,hs.tmp,HB hs.inv hb (by rw[af0]) λeF T' qc j u c hu hc=> ?_,hs.df⟩ hN;rw[h3]at qc;cases qc
  rw[af2]at hc;cases hq:cs[j]? with
  |none=>rw[hq]at hc;cases hc
  |some y=>rw[hq]at hc;cases hc;exact J.Le.Fx y G w u (h5 j u y hu hq)
 ·exact h
theorem ab4(b:Nat)(h:GW P r N0 Q (Kg (Hh b) w0)):GW P r N0 Q w0:=by
 constructor
 unfold wV;split
 ·next c K s l=>exact aej b h.run
 ·trivial
def Gr(b i:Nat)(s:St):J:=match s.h[b]? with
 |some (.cells cs)=>(cs[i]?).getD .dead
 |_=> .dead
theorem Rw{b i:Nat}{s:St}{x:J}(h:Gr b i s=x)(hx:x≠ .dead):∃cs,s.h[b]?=some (.cells cs)/\cs[i]?=some x:=by
 unfold Gr at h;split at h
 ·next cs hb=>
  refine⟨cs,hb,?_⟩;cases hq:cs[i]? with
  |none=>rw[hq]at h;exact absurd h.symm hx
  |some y=>rw[hq]at h;rw[<-h];rfl
 ·exact absurd h.symm hx
theorem kg(b i e sz:Nat)(xs:agK (agK D))(hx:Gr b i (wS w0)= .full xs\/Gs xs (Gr b i (wS w0))=true)(h:GW P r N0 Q (Kg (FY b i e sz xs) w0)):GW P r N0 Q w0:=by
 constructor
 unfold wV;split
 ·next c K s l=>
  have h':aX P r N0 c (fV P r N0 Q K) (FY b i e sz xs s):=h.run;rcases hx with hx|hx
  ·obtain⟨cs,h1,h2⟩:=Rw hx (λh=>by cases h);unfold FY at h';rw[show s.h[b]?=some (.cells cs)from h1]at h';exact MB b i e sz xs h1 (.inl h2) h'
  ·obtain⟨h3,rfl⟩:=Mf hx;obtain⟨cs,h1,h2⟩:=Rw h3 (λh=>by cases h);unfold FY at h';rw[show s.h[b]?=some (.cells cs)from h1]at h';exact MB b i e sz [] h1 (.inr ⟨h2,rfl⟩) h'
 ·trivial
end
theorem bc{α:Type}{c:Bool}{a b x:α}{G:Prop}(h:(bif c then a else b)=x)(t:c=true->a=x->G)(f:c=false->b=x->G):G:=by
 cases c with
 |true=>exact t rfl h
 |false=>exact f rfl h
theorem sj{α:Type}{a b:α}(h:some a=some b):a=b:=age h
theorem wC{α:Type}{c:Bool}{x:agM α}{r:α}(h:(bif c then x else none)=some r):c=true/\x=some r:=by
 cases c with
 |true=>exact⟨rfl,h⟩
 |false=>cases h
def ug(fn:Func)(args:agK J)(h:agK aj):WO:=some (.at (fn.body.getD .skip) [] {n:=args.length+(fn.ntmps-args.length),t:=jU 0 args,h:=h},[])
theorem TU{P:agN}{f:FuncId}{fn:Func}{args:agK J}{R:J}(hf:P.funcs[f]?=some fn)(hb:fn.body.isSome=true)(hn:(fn.name== "runtime.NumGoroutine")=false)
 (hw:GW P none 0 (iM P fn R) (ug fn args [])):gj P f args (·=R):=by
 obtain⟨c,hc⟩:=Option.isSome_iff_exists.1 hb;refine yR hf hc hn ?_;have:fn.body.getD .skip=c:=by rw[hc];rfl
 rw[<-this];exact hw.run
theorem XX{P:agN}{f:FuncId}{fn:Func}{args:agK J}{h H:agK aj}{R:J}(m:Nat)(hf:P.funcs[f]?=some fn)(hb:fn.body.isSome=true)(hn:(fn.name== "runtime.NumGoroutine")=false)(hm:h.length<=m)
 (hw:GW P none h.length (qJ P fn m R H) (ug fn args h)):b5 P f args h λr1 h1=>r1=R/\h1=H:=by
 obtain⟨c,hc⟩:=Option.isSome_iff_exists.1 hb;refine Ap m hf hc hn hm ?_;have:fn.body.getD .skip=c:=by rw[hc];rfl
 rw[<-this];exact hw.run
section wQ
variable {P:agN}
def oL{α:Type}{f:agK α->agK (agK D)}(l:agK α)(h:(f l).length=l.length):Ob P:=⟨_,_, .len h⟩
def oE{xs:agK (agK D)}{k:Nat}{c:agK D}(h:xs[k]?=some c):Ob P:=⟨_,_, .el (xs:=xs) (i:=(k:Int)) (Int.natCast_nonneg _) h⟩
def oq{a b:J}(h:a=b):Ob P:=⟨_,_, .eq h⟩
def os(ks:agK Nat)(o:Ob P)(l:agK (Nat×Ob P)):agK (Nat×Ob P):=ks.foldr (λk t=>(k,o)::t) l
noncomputable def soI(x:Nat×Ob P)(l:agK (Nat×Ob P)):agK (Nat×Ob P):=List.rec [x] (λy t r=>bif Nat.ble x.1 y.1 then x::y::t else y::r) l
noncomputable def so(l:agK (Nat×Ob P)):agK (Nat×Ob P):=l.foldr soI []
theorem uF{xs:agK (agK D)}{n:Nat}(e:xs.length=n)(h:ra (.sl xs)):n<=maxLen:=e▸BV h
end wQ
section
variable {P:agN} {r:agM Nat} {n N0:Nat} {G:Gh} {w:agP} {a:Act} {s:St} {Q:Exit->St->Prop} {c:Code}
theorem bg.pD{h:agK aj}{k:Nat}{B B':aj}(hi:bg G w h)(hk:h[k]?=some B)(ho:B'.cS G k=B.cS G k)(hB:cX G w k B->cX G w k B'):bg G w (h.set k B'):=by
 have az:=(afV.1 hk).1;have Rb:(h.set k B')[k]?=some B':=agp az;have dt:∀m,m≠k->(h.set k B')[m]?=h[m]?:=λm hm=>by rw[agu (Ne.symm hm)]
 have db:∀m,bj (h.set k B') G m=bj h G m:=λm=>by
  by_cases e:m=k
  ·subst e;rw[cJ Rb,cJ hk,ho]
  ·unfold bj;rw[dt m e]
 refine⟨by rw[List.length_set];exact hi.len,hi.z,hi.S,λm C hC=> ?_,λm m' b h1 h2=>hi.inj m m' b (by rw[<-db];exact h1) (by rw[<-db];exact h2),hi.gl⟩;by_cases e:m=k
 ·subst e;rw[Rb]at hC;cases hC
  exact hB (hi.b6 m B hk)
 ·rw[dt m e]at hC;exact hi.b6 m C hC
theorem bU.pD{k:Nat}{B B':aj}(hs:bU G w a s)(hk:s.h[k]?=some B)(ho:B'.cS G k=B.cS G k)(hB:cX G w k B->cX G w k B'):bU G w a ⟨s.n,s.t,s.h.set k B'⟩:=
 ⟨hs.size,hs.tmp,hs.inv.pD hk ho hB,hs.df⟩
theorem xv:∀{l:agK (agL×D)}{x:agL}{d:D},dk l x=some d->(x,d)∈l
 |(k,e)::l,x,d,h=>by
  rw[pZ]at h;split at h
  ·next hk=>cases h;subst hk;exact af1
  ·exact af4 _ (xv h)
theorem EJ:∀{l:agK (agL×D)}{x:agL}{d:D},(l.map (·.1)).Nodup->(x,d)∈l->dk l x=some d
 |(k,e)::l,x,d,hn,h=>by
  rw[agl,List.nodup_cons]at hn;rw[pZ];rcases agq.1 h with h|h
  ·cases h;rw[if_pos rfl]
  ·rw[if_neg,EJ hn.2 h];intro hk;exact hn.1 (by rw[hk];exact List.mem_map.2 ⟨_,h,rfl⟩)
theorem ma.pD{S:Nat->Nat->Prop}{es:Array MapEntry}{clock:Nat}{kv Bk:agK (agL×D)}(h:ma S w es clock kv)(e:∀x,dk Bk x=dk kv x)(hl:es.size<=Bk.length):ma S w es clock Bk:=
 ⟨h.size,h.stamped,λx hx=>let ⟨s,d,h1,h2,h3⟩:=h.da x hx;⟨s,d,h1,(e s).trans h2,h3⟩,λs d hs=>h.all s d ((e s)▸hs),hl,h.born,h.wO⟩
theorem aeS{S:Nat->Nat->Prop}{es:Array MapEntry}{clock:Nat}{kv:agK (agL×D)}(h:ma S w es clock kv):∃da,rH S w es clock da/\(∀x,dk da x=dk kv x)/\(da.map (·.1)).Nodup:=by
 have gC:(es.toList.map (·.key)).Nodup:=h.stamped.2.2;have key:∀l:agK MapEntry,(∀e∈l,∃s d,e.key= .string s/\dk kv s=some d/\cx S w e.val d)->∃da:agK (agL×D),da.length=l.length/\∀(i:Nat)(e:MapEntry),l[i]?=some e->∃p,da[i]?=some p/\e.key= .string p.1/\dk kv p.1=some p.2/\cx S w e.val p.2:=by
  intro l
  induction l with
  |nil=>exact λ_=>⟨[],rfl,λi e he=>by simp at he⟩
  |cons x l ih=>
   intro hl;obtain⟨da,e1,e2⟩:=ih λe he=>hl e (af4 _ he);obtain⟨s,d,h1,h2,h3⟩:=hl x af1;refine⟨(s,d)::da,by simp [e1],λi e he=> ?_⟩;cases i with
   |zero=>cases he;exact⟨_,rfl,h1,h2,h3⟩
   |succ i=>exact e2 i e he
 obtain⟨da,e1,e2⟩:=key es.toList h.da;have hlen:da.length=es.size:=by rw[e1];simp
 have LD:∀(i:Nat)(p:agL×D),da[i]?=some p->∃e,es.toList[i]?=some e/\e.key= .string p.1/\dk kv p.1=some p.2:=by
  intro i p hp;have hi:i<es.toList.length:=by rw[<-e1];exact(afV.1 hp).1
  obtain⟨q,q1,q2,q3,_⟩:=e2 i _ (afZ hi);rw[hp]at q1;cases q1
  exact⟨_,afZ hi,q2,q3⟩
 have tD:es.toList.map (·.key)=(da.map (·.1)).map Value.string:=by
  apply List.ext_getElem?;intro i;rw[af2,af2,af2];cases hp:da[i]? with
  |none=>
   rw[ags (by rw[<-e1];exact List.getElem?_eq_none_iff.1 hp)];rfl
  |some p=>
   obtain⟨e,h1,h2,_⟩:=LD i p hp;rw[h1];simp [h2]
 have hn:(da.map (·.1)).Nodup:=by
  rw[tD]at gC;exact(List.pairwise_map.1 gC).imp λh e=>h (congrArg _ e)
 have dt:∀x,dk da x=dk kv x:=by
  intro x;cases hx:dk da x with
  |some d=>
   obtain⟨i,hi,ei⟩:=List.getElem_of_mem (xv hx);obtain⟨_,_,_,h3⟩:=LD i (x,d) (by rw[afZ hi,ei]);exact h3.symm
  |none=>
   cases hy:dk kv x with
   |none=>rfl
   |some d=>
    exfalso;obtain⟨e,he,hk⟩:=h.all x d hy;obtain⟨i,hi,ei⟩:=List.getElem_of_mem he;obtain⟨p,p1,p2,p3,_⟩:=e2 i e (by rw[afZ hi,ei]);rw[hk]at p2;injection p2 with p2;have:=EJ hn (af8 p1);rw[<-p2,hx]at this;cases this
 refine⟨da,⟨h.pD dt (by omega),λi e he=> ?_,hlen⟩,dt,hn⟩;obtain⟨p,p1,p2,_,p4⟩:=e2 i e (by rw[agj];exact he);exact⟨p,p1,p2,p4⟩
theorem Yh(mb:Nat)(kv:agK (agL×D))(hb:s.h[mb]?=some (.map kv))(k:∀da:agK (agL×D),(∀x,dk da x=dk kv x)->(da.map (·.1)).Nodup->da.length<=kv.length->da.length<=maxLen->aX P r N0 c Q ⟨s.n,s.t,s.h.set mb (.eE da)⟩):aX P r N0 c Q s:=by
 constructor
 intro G w a n hs hN;obtain⟨h1,h2,es,clock,h3,h4⟩:=hs.inv.b6 mb _ hb;obtain⟨da,e1,e2,e3⟩:=aeS h4;exact(k da e2 e3 (by rw[e1.all];exact h4.len) (by rw[e1.all];exact h4.size)).run G w a n (hs.pD (B':= .eE da) hb rfl λ_=>⟨h1,h2,es,clock,h3,e1⟩) hN
theorem V7(mb:Nat)(kv da:agK (agL×D))(hb:s.h[mb]?=some (.eE da))(e:∀x,dk kv x=dk da x)(hl:da.length<=kv.length)(k:aX P r N0 c Q ⟨s.n,s.t,s.h.set mb (.map kv)⟩):aX P r N0 c Q s:=by
 constructor
 intro G w a n hs hN;refine k.run G w a n (hs.pD (B':= .map kv) hb rfl λh=> ?_) hN;obtain⟨h1,h2,es,clock,h3,h4⟩:=h;exact⟨h1,h2,es,clock,h3,h4.ok.pD e (by rw[<-h4.all];exact hl)⟩
theorem WQ(mb:Nat)(kv KW:agK (agL×D))(hb:s.h[mb]?=some (.map KW))(e:∀x,dk kv x=dk KW x)(hl:KW.length<=kv.length)(k:aX P r N0 c Q ⟨s.n,s.t,s.h.set mb (.map kv)⟩):aX P r N0 c Q s:=by
 constructor
 intro G w a n hs hN;refine k.run G w a n (hs.pD (B':= .map kv) hb rfl λh=> ?_) hN;obtain⟨h1,h2,es,clock,h3,h4⟩:=h;exact⟨h1,h2,es,clock,h3,h4.pD e (agd h4.len hl)⟩
theorem Nw{ops:Array Oper}{o:Oper}{l:agK Oper}{K:St->Prop}(hg:o.guard=none)(h:rC P o (jk P ops l K) s):jk P ops (o::l) K s:=by
 unfold jk fk;rw[hg];exact .inr (.inr (.inr (.inr (.inr h))))
theorem DB{ops:Array Oper}{s1:St}{K:St->Prop}(l:agK Oper)(j:Nat)(as:agK (Nat×bm)){ps:agK (In×bm)}(h:iK P ops false l j as s=some (s1,ps))(ho:fb P ps)(k:K s1):jk P ops l K s:=
 vR (dr:=false) l j s ps h ho k
theorem Xj{ops:Array Oper}{o:Oper}{s1:St}{K:St->Prop}(l:agK Oper)(h:iK P ops false l 0 [] s=some (s1,[]))(hg:o.guard=none)(k:rC P o K s1):jk P ops (l++[o]) K s:=
 Sm l 0 s [] K h (λ_ hp=>by cases hp) o (by unfold fk;rw[hg];exact .inr (.inr (.inr (.inr (.inr k)))))
end
inductive dj(P:Program):TypeId->List D->Prop
 |bool {t:TypeId} (b:Bool) (h:P.underlying t=some .bool):dj P t [.v (.bool b)]
 |int {t:TypeId} {k:IntKind} (n:Int) (h:P.underlying t=some (.int k)) (w:(Lit.int k n).wf=true):dj P t [.v (.int k n)]
 |str {t:TypeId} (s:ByteArray) (h:P.underlying t=some .string) (w:s.size<=maxLen):dj P t [.v (.string s)]
 |sl {t e:TypeId} (xs:List (List D)) (h:P.underlying t=some (.slice e)) (w:xs.length<=140737488355328) (hx:∀x∈xs,dj P e x):dj P t [.sl xs]
 |struct {t:TypeId} {fs:Array Field} (parts:List (List D)) (h:P.underlying t=some (.struct fs)) (hl:parts.length=fs.size) (hx:∀(i:Nat)(f:Field)(x:List D),fs[i]?=some f->parts[i]?=some x->dj P f.type x):dj P t parts.flatten
section
variable {P:agN} {t:TypeId} {xs:agK D}
theorem dj.adE(h:dj P t xs)(ht:P.underlying t=some .bool):∃b,xs=[.v (.bool b)]:=by
 cases h with
 |bool b h=>exact⟨b,rfl⟩
 |int n h=>rw[ht]at h;cases h
 |str s h=>rw[ht]at h;cases h
 |sl l h=>rw[ht]at h;cases h
 |struct p h=>rw[ht]at h;cases h
theorem dj.mH{k:IntKind}(h:dj P t xs)(ht:P.underlying t=some (.int k)):∃n,xs=[.v (.int k n)]/\k.min<=n/\n<=k.max:=by
 cases h with
 |bool b h=>rw[ht]at h;cases h
 |int n h w=>
  rw[ht]at h;cases h;unfold Lit.wf at w;simp only[afX,decide_eq_true_eq]at w;exact⟨n,rfl,w⟩
 |str s h=>rw[ht]at h;cases h
 |sl l h=>rw[ht]at h;cases h
 |struct p h=>rw[ht]at h;cases h
theorem dj.sI(h:dj P t xs)(ht:P.underlying t=some .string):∃s,xs=[.v (.string s)]/\s.size<=maxLen:=by
 cases h with
 |bool b h=>rw[ht]at h;cases h
 |int n h=>rw[ht]at h;cases h
 |str s h w=>exact⟨s,rfl,w⟩
 |sl l h=>rw[ht]at h;cases h
 |struct p h=>rw[ht]at h;cases h
theorem dj.n5{e:TypeId}(h:dj P t xs)(ht:P.underlying t=some (.slice e)):∃l,xs=[.sl l]/\l.length<=140737488355328/\∀x∈l,dj P e x:=by
 cases h with
 |bool b h=>rw[ht]at h;cases h
 |int n h=>rw[ht]at h;cases h
 |str s h=>rw[ht]at h;cases h
 |sl l h w hx=>rw[ht]at h;cases h;exact⟨l,rfl,w,hx⟩
 |struct p h=>rw[ht]at h;cases h
theorem dj.mP{fs:Array Field}(h:dj P t xs)(ht:P.underlying t=some (.struct fs)):∃parts:agK (agK D),xs=parts.flatten/\parts.length=fs.size/\∀(i:Nat)(f:Field)(x:agK D),fs[i]?=some f->parts[i]?=some x->dj P f.type x:=by
 cases h with
 |bool b h=>rw[ht]at h;cases h
 |int n h=>rw[ht]at h;cases h
 |str s h=>rw[ht]at h;cases h
 |sl l h=>rw[ht]at h;cases h
 |struct p h hl hx=>rw[ht]at h;cases h;exact⟨p,rfl,hl,hx⟩
theorem ny{α:Type}{f:α->agK D}{Q:α->Prop}:∀l:agK (agK D),(∀x∈l,∃a,x=f a/\Q a)->∃r:agK α,l=r.map f/\∀a∈r,Q a
 |[],_=>⟨[],rfl,λ_ h=>by cases h⟩
 |x::l,h=>by
  obtain⟨a,rfl,ha⟩:=h x af1;obtain⟨r,rfl,hr⟩:=ny l λy hy=>h y (af4 _ hy);refine⟨a::r,rfl,λb hb=> ?_⟩;rcases agq.1 hb with rfl|hb
  ·exact ha
  ·exact hr b hb
end
def J0(P:agN)(S:agK TypeId):Bool:=S.all λt=>match P.underlying t with
 |some .bool|some (.int _)|some .string=>true
 |some (.slice e)=>S.contains e&&(decide (0<P.cellsOf e)&&decide (0<P.bytesOf e))
 |some (.struct fs)=>P.consecB fs.toList 0 (P.cellsOf t)&&fs.toList.all λf=>S.contains f.type
 |_=>false
def hX(S:Nat->Nat->Prop)(w:agP)(cs:agK agO)(xs:agK D):Prop:=xs.length=cs.length/\∀(i:Nat)(u:agO)(x:D),cs[i]?=some u->xs[i]?=some x->cx S w u x/\u.oneCell'=true
theorem hX.nil{S:Nat->Nat->Prop}{w:agP}:hX S w [] []:=⟨rfl,λi u x h=>by simp at h⟩
theorem hX.one{S:Nat->Nat->Prop}{w:agP}{u:agO}{x:D}(h:cx S w u x)(h1:u.oneCell'=true):hX S w [u] [x]:=⟨rfl,λi v y hv hy=>by
 cases i with
 |zero=>cases hv;cases hy;exact⟨h,h1⟩
 |succ i=>simp at hv⟩
theorem hX.app{S:Nat->Nat->Prop}{w:agP}{a b:agK agO}{x y:agK D}(h:hX S w a x)(k:hX S w b y):hX S w (a++b) (x++y):=by
 refine⟨by simp [h.1,k.1],λi u z hu hz=> ?_⟩;by_cases hi:i<a.length
 ·rw[af5 hi]at hu;rw[af5 (by rw[h.1];exact hi)]at hz;exact h.2 i u z hu hz
 ·rw[agb (by omega)]at hu;rw[agb (by rw[h.1];omega),h.1]at hz;exact k.2 _ u z hu hz
theorem RP{α:Type}{Q:Nat->α->Prop}:∀n:Nat,(∀i,i<n->∃x,Q i x)->∃l:agK α,l.length=n/\∀i x,l[i]?=some x->Q i x
 |0,_=>⟨[],rfl,λi x h=>by simp at h⟩
 |n+1,h=>by
  obtain⟨l,h1,h2⟩:=RP n λi hi=>h i (by omega);obtain⟨x,hx⟩:=h n (by omega);refine⟨l++[x],by simp [h1],λi y hy=> ?_⟩;by_cases hi:i<l.length
  ·rw[af5 hi]at hy;exact h2 i y hy
  ·rw[agb (by omega)]at hy;have:i-l.length=0:=by
     by_cases e:i-l.length=0
     ·exact e
     ·rw[ags (by simp;omega)]at hy;cases hy
   rw[this]at hy;cases hy;have:i=n:=by omega
   rw[this];exact hx
theorem TF{a:Addr}(h:a.spot=none)(n:Nat):a.add n=⟨a.block,a.off+n,none⟩:=by
 unfold Addr.add;split
 ·next e=>subst e;cases a;simp only at h;subst h;rfl
 ·rfl
section
variable {H:Type} {enc:TypeId×agO->H} {P:agN} {W:agP} {Ts:agK TypeId}
abbrev qY(W:agP):Nat->Nat->Prop:=λb _=>b<W.heap.size
theorem aeD{S:Nat->Nat->Prop}{w:agP}:cx S w (.slice none 0 0) (.sl []):=
 .sl none 0 0 0 0 [] (λ_ _=>undef) (λh=>absurd rfl h) (af6 _) (by simp) (λ_ h=>by cases h) (λi j hi=>by simp at hi) (λi j x d hx=>by simp at hx)
theorem Si{e:TypeId}:∀{l:agK (DataW H)}{d:DataW H},d∈l->∀n∈d.weights P e,n∈DataW.weightsAll P e l
 |[],_,h,_,_=>by cases h
 |x::l,d,h,n,hn=>by
  simp only[DataW.weightsAll,agy];rcases agq.1 h with rfl|h
  ·exact .inl hn
  ·exact .inr (Si h n hn)
theorem OR{fuel:Nat}(IH:∀(t:TypeId)(cs:agK agO)(d:DataW H)(ps:agK MemPlace),t∈Ts->(∀n∈d.weights P t,n<=reachBytes)->DataW.trod enc P W 0 (λ_=>true) true fuel t cs=some (d,ps)->∃xs,dj P t xs/\hX (qY W) W cs xs)(cs:agK agO):
 ∀(fs:agK Field)(off:Nat)(ys:agK (DataW H×agK MemPlace)),P.consecB fs off cs.length=true->(∀f∈fs,f.type∈Ts)->(∀n∈DataW.weightsEach P (fs.map (·.type)) (ys.map (·.1)),n<=reachBytes)->
  fs.mapM (λf=>DataW.trod enc P W 0 (λ_=>true) true fuel f.type ((cs.drop f.offset).take (P.cellsOf f.type)))=some ys->
  ∃parts:agK (agK D),parts.length=fs.length/\(∀(i:Nat)(f:Field)(x:agK D),fs[i]?=some f->parts[i]?=some x->dj P f.type x)/\hX (qY W) W (cs.drop off) parts.flatten
 |[],off,ys,hc,_,_,_=>by
  simp only[Program.consecB,beq_iff_eq]at hc;refine⟨[],rfl,λi f x h=>by simp at h,?_⟩;rw[List.drop_eq_nil_iff.2 (by omega)];exact hX.nil
 |f::fs,off,ys,hc,hS,hw,hm=>by
  simp only[Program.consecB,afX,beq_iff_eq]at hc;obtain⟨Vv,hc⟩:=hc;rw[List.mapM_cons]at hm;cases hx:DataW.trod enc P W 0 (λ_=>true) true fuel f.type ((cs.drop f.offset).take (P.cellsOf f.type))with
  |none=>simp [hx]at hm
  |some p=>
   cases jn:fs.mapM (λf=>DataW.trod enc P W 0 (λ_=>true) true fuel f.type ((cs.drop f.offset).take (P.cellsOf f.type)))with
   |none=>simp [hx,jn]at hm
   |some ps=>
    obtain⟨d,q⟩:=p;obtain rfl:(d,q)::ps=ys:=by simpa [hx,jn]using hm
    simp only[agl,DataW.weightsEach,agy]at hw;obtain⟨x,h1,h2⟩:=IH f.type _ d q (hS f af1) (λn hn=>hw n (.inl hn)) hx;obtain⟨parts,k1,k2,k3⟩:=OR IH cs fs (off+P.cellsOf f.type) ps hc (λg hg=>hS g (af4 _ hg)) (λn hn=>hw n (.inr hn)) jn;refine⟨x::parts,by simp [k1],λi g y hg hy=> ?_,?_⟩
    ·cases i with
     |zero=>cases hg;cases hy;exact h1
     |succ i=>exact k2 i g y (by simpa using hg) (by simpa using hy)
    ·rw[List.flatten_cons];rw[Vv]at h2;have:=h2.app k3
     rwa [take_drop_step]at this
theorem N8(hT:J0 P Ts=true):∀(fuel:Nat)(t:TypeId)(cs:agK agO)(d:DataW H)(ps:agK MemPlace),t∈Ts->(∀n∈d.weights P t,n<=reachBytes)->DataW.trod enc P W 0 (λ_=>true) true fuel t cs=some (d,ps)->∃xs,dj P t xs/\hX (qY W) W cs xs
 |0,t,cs,d,ps,_,_,h=>by simp [DataW.trod]at h
 |fuel+1,t,cs,d,ps,ht,tE,h=>by
  have IH:=N8 hT fuel;have ky:=agm.1 hT t ht;unfold DataW.trod at h;split at h
  ·next b e=>exact⟨_, .bool b e,hX.one (.v _) rfl⟩
  ·next k k' n e=>
   split at h
   ·next hk=>obtain⟨rfl,hw⟩:=hk;exact⟨_, .int n e hw,hX.one (.v _) rfl⟩
   ·cases h
  ·next e=>rw[e]at ky;cases ky
  ·next s e=>
   split at h
   ·next hw=>exact⟨_, .str s e hw,hX.one (.v _) rfl⟩
   ·cases h
  ·next e=>rw[e]at ky;cases ky
  ·next e=>rw[e]at ky;cases ky
  ·next e e1=>exact⟨_, .sl [] e1 (Nat.zero_le _) (λx hx=>absurd hx agC),hX.one aeD rfl⟩
  ·next e a len cap e1=>
   rw[e1]at ky;simp only[afX,List.contains_iff_mem,decide_eq_true_eq]at ky;obtain⟨hme,IJ,mi⟩:=ky;simp only at h;split at h
   ·next hb=>
    obtain⟨_,iW,sM⟩:=hb;rw[Option.bind_eq_some_iff]at h;obtain⟨elems,y8,vF⟩:=h;rw[Option.map_eq_some_iff]at vF;obtain⟨rest,_,vF⟩:=vF;cases vF
    simp only[DataW.weights,e1,agq,agy,af0]at tE;have hlen:elems.length=len:=by simpa using mapM_some_length y8
    have hQ:∀i,i<len->∃x:agK D,dj P e x/\∃bC,W.cells? 0 (a.add (i*P.cellsOf e)) (P.cellsOf e)=some bC/\hX (qY W) W bC x:=λi hi=>by
     have h1:=mapM_some_get y8 i i (by simp [hi]);rw[afZ (by omega)]at h1;rw[Option.bind_eq_some_iff]at h1;obtain⟨bC,h2,h3⟩:=h1;obtain⟨x,h4,h5⟩:=IH e bC elems[i].1 elems[i].2 hme (λn hn=>tE n (.inr (.inl (Si (List.mem_map.2 ⟨_,List.getElem_mem _,rfl⟩) n hn)))) h3;exact⟨x,h4,bC,h2,h5⟩
    obtain⟨xs,sG,Pv⟩:=RP len hQ;have SJ:xs≠ []->a.spot=none:=λbQ=>by
     have h0:0<len:=by cases xs with|nil=>exact(bQ rfl).elim|cons x l=>simp at sG;omega
     obtain⟨x,_,bC,h2,_⟩:=hQ 0 h0;obtain⟨_,h3,h4⟩:=World.cells?_some h2;have h5:=h4 0 IJ;rw[Nat.zero_mul]at h5;have e0:(a.add 0).add 0=a:=by simp [Addr.add]
     rw[e0,afZ (by omega)]at h5;unfold World.cell? at h5;split at h5
     ·split at h5
      ·cases h5
      ·next hn=>simpa using hn
     ·cases h5
    have fQ:∀i x,xs[i]?=some x->x.length=P.cellsOf e/\∀j,j<P.cellsOf e->∃u,W.cell? ⟨a.block,a.off+i*P.cellsOf e+j,none⟩=some u/\u.oneCell'=true/\∀d,x[j]?=some d->cx (qY W) W u d:=λi x hx=>by
     obtain⟨_,bC,h2,h3⟩:=Pv i x hx;obtain⟨_,h4,h5⟩:=World.cells?_some h2;have hs:=SJ (λe=>by rw[e]at hx;simp at hx);refine⟨h3.1.trans h4,λj hj=> ?_⟩;have h6:=h5 j hj;rw[TF hs,TF rfl,afZ (by omega)]at h6;have W5:j<x.length:=by rw[h3.1,h4];exact hj
     have hd:x[j]?=some x[j]:=afZ W5;have h7:=h3.2 j _ _ (afZ (by omega)) hd;exact⟨_,h6,h7.2,λd gz=>by rw[hd]at gz;cases gz;exact h7.1⟩
    have ads:xs.length<=140737488355328:=by
     have h1:=tE _ (.inl rfl);have h2:(elems.length+rest.length)*1<=(elems.length+rest.length)*P.bytesOf e:=Nat.mul_le_mul_left _ mi;have h3:reachBytes<=140737488355328:=by decide
     omega
    refine⟨[.sl xs], .sl xs e1 ads (λx hx=> ?_),hX.one ?_ rfl⟩
    ·obtain⟨i,hi,rfl⟩:=List.mem_iff_getElem.1 hx;exact(Pv i _ (afZ hi)).1
    ·rw[<-sG];refine .sl (some a) a.block a.off cap (P.cellsOf e) xs (λi j=>(W.cell? ⟨a.block,a.off+i*P.cellsOf e+j,none⟩).getD undef) (λbQ=> ?_) (by omega) sM (λx hx=> ?_) (λi j hi hj=> ?_) λi j x d hx hd=> ?_
     ·have:=SJ bQ;cases a;simp only at this;subst this;rfl
     ·obtain⟨i,hi,rfl⟩:=List.mem_iff_getElem.1 hx;exact(fQ i _ (afZ hi)).1
     ·obtain⟨u,h1,h2,_⟩:=(fQ i _ (afZ hi)).2 j hj;refine⟨World.block_lt_of_cell? W ⟨a.block,a.off+i*P.cellsOf e+j,none⟩ h1,?_,?_⟩
      ·rw[h1];rfl
      ·rw[h1];exact h2
     ·obtain⟨hl,hc⟩:=fQ i x hx;obtain⟨u,h1,_,h3⟩:=hc j (by rw[<-hl];exact(afV.1 hd).1);simp only[h1,Option.getD_some];exact h3 d hd
   ·cases h
  ·next bC fs e1=>
   rw[e1]at ky;simp only[afX,agm,List.contains_iff_mem]at ky;split at h
   ·next hl=>
    rw[Option.map_eq_some_iff]at h;obtain⟨ys,hm,vF⟩:=h;cases vF
    simp only[DataW.weights,e1]at tE;obtain⟨parts,k1,k2,k3⟩:=OR IH _ fs.toList 0 ys (by rw[hl];exact ky.1) ky.2 tE hm;exact⟨_, .struct parts e1 (by simpa using k1) (λi f x hf=>k2 i f x (by simpa using hf)),by simpa using k3⟩
   ·cases h
  all_goals first|(cases h;done)|(exfalso;revert ky;(next e=>rw[e];intro h0;cases h0))
theorem aeK{t:TypeId}{v:agO}{d:DataW H}{ps:agK MemPlace}(hT:J0 P Ts=true)(hm:t∈Ts)(hw:∀n∈d.weights P t,n<=reachBytes)(h:DataW.Trod enc P W 0 (λ_=>true) true t v d ps):∃xs,dj P t xs/\hX (qY W) W v.cells.toList xs:=
 let ⟨fuel,h⟩:=h
 N8 hT fuel t _ d ps hm hw h
theorem afs{t:TypeId}{fs:Array Field}{v:agO}{r:Reach}{base:Nat}(ht:P.underlying t=some (.struct fs))(h:Value.okWide P W r base t v):∃cs,v= .agg cs:=by
 unfold Value.okWide at h;rw[ht]at h;obtain⟨cs,rfl,_⟩:=h;exact⟨cs,rfl⟩
theorem Wx{G:Gh}(hS:G.S=qY W){cs:Array agO}{xs:agK D}(h:hX (qY W) W cs.toList xs):ax G W (.agg cs) (.agg (xs.map .d)):=by
 refine .agg cs _ (by rw[af0,h.1,agt]) λi u c hu hc=> ?_;rw[af2]at hc;cases hx:xs[i]? with
 |none=>rw[hx]at hc;cases hc
 |some x=>
  rw[hx]at hc;cases hc
  exact .d (hS▸(h.2 i u x (by rw[agj];exact hu) hx).1)
end
end Go.Proofs.YtmkmibahjanejaaGreatDoor
