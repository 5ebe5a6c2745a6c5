/-
  Part 3 of the proof: AbsFrz, AbsInst, AbsExec, AbsExecV, AbsRange, AbsAny, AbsExec2, AbsExec3, AbsYield, AbsTree, AbsVecX, MemK.
-/
import Derived.Test.YtphmhnabilhbgaaGreatDoorPk2
import Derived.WalkKit
import Derived.Laws.CopyOwn
import Derived.Deep.AppendLies
import Derived.Lib.AppendZerosOnto
import Derived.Lib.Overlaps
import Derived.Lib.Hide
namespace Go.Proofs.YtphmhnabilhbgaaGreatDoor
open Go.RowKit
mutual
def AV.eY(b:Nat)(ds:List D):AV→AV
 | .ptr n off=>bif n==b then .bn [ds] 0 off else .ptr n off
 | .agg cs=> .agg (AV.sH b ds cs)
 | .bX cs=> .bX (AV.sH b ds cs)
 | .fn f cs=> .fn f (AV.sH b ds cs)
 |x=>x
def AV.sH(b:Nat)(ds:List D):List AV→List AV
 |[]=>[]
 |x::l=>x.eY b ds::AV.sH b ds l
end
theorem DU(b:Nat)(ds:List D):∀l,AV.sH b ds l=l.map (AV.eY b ds)
 |[]=>by simp [AV.sH]
 |x::l=>by simp [AV.sH,DU b ds l]
def ak.eY(b:Nat)(ds:List D):ak→ak
 | .cells cs=> .cells (cs.map (AV.eY b ds))
 | .lp ls p as bd cs=> .lp ls p as bd (cs.map (AV.eY b ds))
 | .it sn cs=> .it sn (cs.map (AV.eY b ds))
 | .vec e k cs=> .vec e k (cs.map (·.map (AV.eY b ds)))
 |B=>B
def xQ(s:St)(b:Nat):Option St:=
 match s.h[b]? with
 |some (.cells cs)=>match mq cs with
  |some ds=>some ⟨s.n,s.t.map fun p=>(p.1,p.2.eY b ds),(s.h.map (ak.eY b ds)).set b .gone⟩
  |none=>none
 |_=>none
theorem wA(f:AV→AV)(hf:f .dead= .dead):∀(t:List (Nat×AV))(i:Nat),bz (t.map fun p=>(p.1,f p.2)) i=f (bz t i)
 |[],i=>by simp [bz,hf]
 |(k,x)::l,i=>by
  simp only[agS,jX,wA f hf l i];split<;>rfl
theorem aG.eY{G G':Gh}{w:World}{b:Nat}{ds:List D}(hE:bZ G.N G w G' w)(hN:G'.N=G.N)(hp:∀off,aG G' w (.pointer (some ⟨G.bo b,off,none⟩)) (.bn [ds] 0 off)){u:Value}{x:AV}(h:aG G w u x):aG G' w u (x.eY b ds):=by
 have ba:∀{u:Value}{x:AV},aG G w u x→aG G' w u x:=fun h=>h.ba hE (Nat.le_of_eq hN.symm);have fI:∀(vs:Array Value)(cs:List AV),(∀(i:Nat)(u:Value)(c:AV),vs[i]?=some u→cs[i]?=some c→aG G' w u (c.eY b ds))→∀(i:Nat)(u:Value)(c:AV),vs[i]?=some u→(AV.sH b ds cs)[i]?=some c→aG G' w u c:=by
  intro vs cs ih i u c hu hc;rw[DU,agA]at hc;cases hx:cs[i]? with
  |none=>rw[hx]at hc;cases hc
  |some x=>rw[hx]at hc;cases hc;exact ih i u x hu hx
 induction h with
 |agg vs cs hl _ ih=>rw[AV.eY];exact .agg vs _ (by rw[DU,agy];exact hl) (fI vs cs ih)
 |bX vs cs hl _ ih=>rw[AV.eY];exact .bX vs _ (by rw[DU,agy];exact hl) (fI vs cs ih)
 |fn f vs cs hl _ ih=>rw[AV.eY];exact .fn f vs _ (by rw[DU,agy];exact hl) (fI vs cs ih)
 |ptr n off h=>
  rw[AV.eY,cond_eq_ite];split
  ·next e=>rw[beq_iff_eq]at e;subst e;exact hp off
  ·exact ba (.ptr n off h)
 |own n xs h hp hle hf=>simp only[AV.eY];exact ba (.own n xs h hp hle hf)
 |d h=>simp only[AV.eY];exact ba (.d h)
 |bn xs i off b o u x hx hS hu=>simp only[AV.eY];exact ba (.bn xs i off b o u x hx hS hu)
 |full xs hp hf=>simp only[AV.eY];exact ba (.full xs hp hf)
 |row n off len cap k h hl hm=>simp only[AV.eY];exact ba (.row n off len cap k h hl hm)
 |mp n h=>simp only[AV.eY];exact ba (.mp n h)
 |dj n h=>simp only[AV.eY];exact ba (.dj n h)
 |vec n o len L k h hs hL hf=>simp only[AV.eY];exact ba (.vec n o len L k h hs hL hf)
 |di n i j L k h hs hL hf=>simp only[AV.eY];exact ba (.di n i j L k h hs hL hf)
 |hid h h1=>simp only[AV.eY];exact ba (.hid h h1)
 |dead u=>simp only[AV.eY];exact .dead u
theorem SI:∀(cs:List AV)(ds:List D),mq cs=some ds→cs.length=ds.length∧∀(i:Nat)(c:AV)(d:D),cs[i]?=some c→ds[i]?=some d→c.rz=some d
 |[],ds,h=>by unfold mq at h;cases h;exact⟨rfl,fun i c d hc=>by simp at hc⟩
 |x::cs,ds,h=>by
  unfold mq at h;split at h
  ·next d l e1 e2=>
   cases h
   obtain⟨h1,h2⟩:=SI cs l e2;refine⟨by simp [h1],fun i c d' hc hd=> ?_⟩
   match i with
   |0=>simp only[List.getElem?_cons_zero,Option.some.injEq]at hc hd;subst hc;subst hd;exact e1
   |i+1=>exact h2 i c d' (by simpa using hc) (by simpa using hd)
  ·cases h
theorem aG.ab6{G:Gh}{w:World}{u:Value}{x:AV}{d:D}(h:aG G w u x)(hd:x.rz=some d):dC G.S w u d:=by
 cases h with
 |d h=>cases hd;exact h.zB
 |own n xs h hp=>cases hd;exact hp
 |full xs hp=>cases hd;exact hp
 |_=>cases hd
theorem c7.xQ{G:Gh}{w:World}{a:Act}{s s':St}{b:Nat}(hs:c7 G w a s)(h:xQ s b=some s'):∃G',bZ G.N G w G' w∧G'.N=G.N∧c7 G' w a s':=by
 unfold Go.Proofs.YtphmhnabilhbgaaGreatDoor.xQ at h;split at h
 ·next cs hb=>
  split at h
  ·next ds s7=>
   cases h
   obtain⟨z1,z2,vs,T,z3,z4,z5⟩:=hs.inv.dp b _ hb;obtain⟨d1,d2⟩:=SI cs ds s7;have lG:cl s.h G b=some (G.bo b):=dU hb;obtain⟨S,hS⟩:∃S:Nat→Nat→Prop,S=fun b' o=>G.S b' o∨(b'=G.bo b∧o<ds.length):=⟨_,rfl⟩;have hE:bZ G.N G w {G with S:=S} w:=⟨agE _,fun b o h=>by show S b o;rw[hS];exact .inl h,fun _ _ _=>rfl,fun _ _=>rfl,fun _ _=> .inl ⟨rfl,rfl⟩,gq rfl,fun _ _=>rfl,rfl,rfl,rfl,fun b' o hs=>by
    have cM:S b' o:=hs;rw[hS]at cM;rcases cM with h|⟨rfl,_⟩
    ·exact .inl h
    ·exact .inr z1⟩
   have hp:∀off,aG {G with S:=S} w (.pointer (some ⟨G.bo b,off,none⟩)) (.bn [ds] 0 off):=fun off=>by
    have:=aG.bn (G:={G with S:=S}) (w:=w) [ds] 0 off (G.bo b) 0 (fun j=>vs.getD j undef) ds rfl (fun j hj=> ?_) (fun j d hd=> ?_)
    ·rwa [agN]at this
    ·have ib:j<vs.size:=by rw[z4,d1];exact hj
     refine⟨by show S _ _;rw[hS];exact .inr ⟨rfl,by rw[agN];exact hj⟩,?_⟩;rw[agN,cell_of_row w (G.bo b) j vs T (0,0) z3];simp [Array.getD,ib]
    ·have hj:j<ds.length:=(agt.1 hd).1;have ib:j<vs.size:=by rw[z4,d1];exact hj
     have hc:cs[j]?=some cs[j]:=agx (by rw[d1];exact hj);have hv:=z5 j vs[j] _ (agP ib) hc;have e:vs.getD j undef=vs[j]:=by simp [Array.getD,ib]
     rw[e];exact(hv.ab6 (d2 j _ d hc hd)).ba hE.S hE.cell
   have hv:∀{u:Value}{x:AV},aG G w u x→aG {G with S:=S} w u (x.eY b ds):=fun h=>h.eY hE rfl hp;have abM:=(agt.1 hb).1;have e8:∀(n:Nat)(B:ak),((s.h.map (ak.eY b ds)).set b .gone)[n]?=some B→(n=b∧B= .gone)∨(n≠b∧∃B',s.h[n]?=some B'∧B=B'.eY b ds):=fun n B hB=>by
    by_cases e:b=n
    ·subst e;rw[agW (by rw[agy];exact abM)]at hB;cases hB;exact .inl ⟨rfl,rfl⟩
    ·rw[ag1 e,agA]at hB;cases hx:s.h[n]? with
     |none=>rw[hx]at hB;cases hB
     |some B'=>rw[hx]at hB;cases hB;exact .inr ⟨fun h=>e h.symm,B',rfl,rfl⟩
   have eh:∀n x,cl ((s.h.map (ak.eY b ds)).set b .gone) {G with S:=S} n=some x→n≠b∧cl s.h G n=some x:=fun n x hx=>by
    obtain⟨B,hn,hx⟩:=kI hx;rcases e8 n _ hn with⟨_,e⟩|⟨da,B',h1,rfl⟩
    ·subst e;cases hx
    ·refine⟨da,?_⟩;rw[dU h1,←hx];cases B'<;>rfl
   refine⟨{G with S:=S},hE,rfl,hs.size,fun i=> ?_,⟨by rw[List.length_set,agy];exact hs.inv.len,hs.inv.z,fun b' o h=> ?_,fun n B hB=> ?_,fun m n x h1 h2=>hs.inv.inj m n x (eh m x h1).2 (eh n x h2).2,hs.inv.gl.ba hE⟩,hs.df⟩
   ·show aG _ _ _ (bz (s.t.map fun p=>(p.1,p.2.eY b ds)) i);rw[wA (AV.eY b ds) (by simp [AV.eY])];exact hv (hs.tmp i)
   ·have cM:S b' o:=h;rw[hS]at cM;rcases cM with h|⟨rfl,_⟩
    ·exact hs.inv.S b' o h
    ·exact(agI.1 z3).1
   ·rcases e8 n B hB with⟨rfl,rfl⟩|⟨da,B',h1,rfl⟩
    ·trivial
    ·have eF:=hs.inv.dp n B' h1;cases B' with
     |gone=>trivial
     |map kv=>exact eB.ba (G':={G with S:=S}) (hs.inv.lt h1) hE (agE _) ⟨rfl,rfl,rfl⟩ (fun c hc=>⟨rfl,fun o kx hq=>by
      have cM:S c o:=hq;rw[hS]at cM;rcases cM with h|⟨e,_⟩
      ·exact kx h
      ·exact da (hs.inv.inj n b _ ((dU h1).trans hc) (by rw[e];exact lG))⟩) eF
     |front e k len=>exact eB.ba (G':={G with S:=S}) (hs.inv.lt h1) hE (agE _) ⟨rfl,rfl,rfl⟩ (fun c hc=>⟨rfl,fun o kx hq=>by
      have cM:S c o:=hq;rw[hS]at cM;rcases cM with h|⟨e,_⟩
      ·exact kx h
      ·exact da (hs.inv.inj n b _ ((dU h1).trans hc) (by rw[e];exact lG))⟩) eF
     |cells cp=>
      obtain⟨c1,c2,fW,T',c3,c4,c5⟩:=eF;have lP:cl s.h G n=some (G.bo n):=dU h1;refine⟨c1,fun o hq=> ?_,fW,T',c3,by rw[agy];exact c4,fun i u c hu hc=> ?_⟩
      ·have cM:S (G.bo n) o:=hq;rw[hS]at cM;rcases cM with h|⟨e,_⟩
       ·exact c2 o h
       ·exact da (hs.inv.inj n b _ lP (by rw[e];exact lG))
      ·rw[agA]at hc;cases hx:cp[i]? with
       |none=>rw[hx]at hc;cases hc
       |some x=>rw[hx]at hc;cases hc;exact hv (c5 i u x hu hx)
     |lp ls p as bd cp=>
      obtain⟨c1,c2,fn,fW,T',c3,c4,c5⟩:=eF;have lP:cl s.h G n=some (G.bo n):=dU h1;refine⟨c1,fun o hq=> ?_,fn,fW,T',c3,by rw[agy];exact c4,fun i u c hu hc=> ?_⟩
      ·have cM:S (G.bo n) o:=hq;rw[hS]at cM;rcases cM with h|⟨e,_⟩
       ·exact c2 o h
       ·exact da (hs.inv.inj n b _ lP (by rw[e];exact lG))
      ·rw[agA]at hc;cases hx:cp[i]? with
       |none=>rw[hx]at hc;cases hc
       |some x=>rw[hx]at hc;cases hc;exact hv (c5 i u x hu hx)
     |it sn cp=>
      obtain⟨c1,c2,fn,fW,T',c3,c4,c5⟩:=eF;have lP:cl s.h G n=some (G.bo n):=dU h1;refine⟨c1,fun o hq=> ?_,fn,fW,T',c3,by rw[agy];exact c4,fun i u c hu hc=> ?_⟩
      ·have cM:S (G.bo n) o:=hq;rw[hS]at cM;rcases cM with h|⟨e,_⟩
       ·exact c2 o h
       ·exact da (hs.inv.inj n b _ lP (by rw[e];exact lG))
      ·rw[agA]at hc;cases hx:cp[i]? with
       |none=>rw[hx]at hc;cases hc
       |some x=>rw[hx]at hc;cases hc;exact hv (c5 i u x hu hx)
     |vec e k cp=>
      obtain⟨c1,c2,c3,c4⟩:=eF;refine⟨by rw[agy];exact c1,by rw[agy];exact c2,fun c hc=> ?_,?_⟩
      ·obtain⟨x,hx,rfl⟩:=List.mem_map.1 hc;rw[agy];exact c3 x hx
      ·rcases c4 with⟨d1,d2,A,d3⟩|⟨g,cap,cur,d1,d2,d3,d4,d5,d6,d7,d8,d9⟩
       ·exact .inl ⟨d1,by rw[d2];rfl,A,d3⟩
       ·have lP:cl s.h G n=some g:=(dU h1).trans d1;refine .inr ⟨g,cap,cur,d1,by rw[agy];exact d2,d3,d4,by rw[agy];exact d5,d6,d7,fun o hq=> ?_,fun i j c x u hc hx hu=> ?_⟩
        ·have cM:S g o:=hq;rw[hS]at cM;rcases cM with h|⟨e,_⟩
         ·exact d8 o h
         ·exact da (hs.inv.inj n b _ lP (by rw[e];exact lG))
        ·rw[agA]at hc;cases hy:cp[i]? with
         |none=>rw[hy]at hc;cases hc
         |some y=>
          rw[hy]at hc;cases hc
          rw[agA]at hx;cases hw:y[j]? with
          |none=>rw[hw]at hx;cases hx
          |some z=>rw[hw]at hx;cases hx;exact hv (d9 i j y z u hy hw hu)
  ·cases h
 ·cases h
theorem Ox{P:Program}{r:Option Nat}{N0:Nat}{c:Code}{s s':St}{Q:Exit→St→Prop}(b:Nat)(e:xQ s b=some s')(h:bH P r N0 c Q s'):bH P r N0 c Q s:=by
 constructor
 intro G w a n hs hN;obtain⟨G',hE,Ab,cM⟩:=hs.xQ e;exact wpIn_mono (h.run G' w a n cM (by rw[Ab];exact hN)) fun _ _ _ hn=>hn.trans (hE.less hN)
def D.mV:D→Bool
 | .v u=>u.oneCell'
 | .sl _=>true
mutual
def AV.kill(b:Nat):AV→AV
 | .vec n o len L k=>bif n==b then .dead else .vec n o len L k
 | .di n i j L k=>bif n==b then .dead else .di n i j L k
 | .agg cs=> .agg (AV.Hc b cs)
 | .bX cs=> .bX (AV.Hc b cs)
 | .fn f cs=> .fn f (AV.Hc b cs)
 |x=>x
def AV.Hc(b:Nat):List AV→List AV
 |[]=>[]
 |x::l=>x.kill b::AV.Hc b l
end
def ak.ij(f:AV→AV):ak→ak
 | .cells cs=> .cells (cs.map f)
 | .lp ls p as bd cs=> .lp ls p as bd (cs.map f)
 | .it sn cs=> .it sn (cs.map f)
 | .vec e k cs=> .vec e k (cs.map (·.map f))
 |B=>B
theorem Ux{G:Gh}{w:World}{h:List ak}(hi:cf G w h){b:Nat}{S:Nat→Nat→Prop}{f:AV→AV}(hE:bZ G.N G w {G with S:=S} w)(hS:∀c o,S c o→G.S c o∨cl h G b=some c)(hv:∀{u:Value}{x:AV},aG G w u x→aG {G with S:=S} w u (f x)):
 cf {G with S:=S} w ((h.map (ak.ij f)).set b .gone):=by
 have e8:∀(n:Nat)(B:ak),((h.map (ak.ij f)).set b .gone)[n]?=some B→(n=b∧B= .gone)∨(n≠b∧∃B',h[n]?=some B'∧B=B'.ij f):=fun n B hB=>by
  by_cases e:b=n
  ·subst e;have aO:=(agt.1 hB).1;rw[List.length_set]at aO;rw[agW aO]at hB;cases hB;exact .inl ⟨rfl,rfl⟩
  ·rw[ag1 e,agA]at hB;cases hx:h[n]? with
   |none=>rw[hx]at hB;cases hB
   |some B'=>rw[hx]at hB;cases hB;exact .inr ⟨fun h=>e h.symm,B',rfl,rfl⟩
 have eh:∀n x,cl ((h.map (ak.ij f)).set b .gone) {G with S:=S} n=some x→n≠b∧cl h G n=some x:=fun n x hx=>by
  obtain⟨B,hn,hx⟩:=kI hx;rcases e8 n _ hn with⟨_,e⟩|⟨da,B',h1,rfl⟩
  ·subst e;cases hx
  ·refine⟨da,?_⟩;rw[dU h1,←hx];cases B'<;>rfl
 refine⟨by rw[List.length_set,agy];exact hi.len,hi.z,fun c o hs=> ?_,fun n B hB=> ?_,fun m n x h1 h2=>hi.inj m n x (eh m x h1).2 (eh n x h2).2,hi.gl.ba hE⟩
 ·rcases hS c o hs with h1|h1
  ·exact hi.S c o h1
  ·exact hi.hO h1
 ·rcases e8 n B hB with⟨rfl,rfl⟩|⟨da,B',h1,rfl⟩
  ·trivial
  ·have eF:=hi.dp n B' h1;have gh:∀c,B'.ep G n=some c→∀o,¬G.S c o→¬S c o:=fun c hc o kx hq=>by
    rcases hS c o hq with h2|h2
    ·exact kx h2
    ·exact da (hi.inj n b c ((dU h1).trans hc) h2)
   cases B' with
   |gone=>trivial
   |map kv=>exact eB.ba (G':={G with S:=S}) (hi.lt h1) hE (agE _) ⟨rfl,rfl,rfl⟩ (fun c hc=>⟨rfl,gh c hc⟩) eF
   |front e k len=>exact eB.ba (G':={G with S:=S}) (hi.lt h1) hE (agE _) ⟨rfl,rfl,rfl⟩ (fun c hc=>⟨rfl,gh c hc⟩) eF
   |cells cp=>
    obtain⟨c1,c2,fW,T',c3,c4,c5⟩:=eF;refine⟨c1,fun o=>gh _ rfl o (c2 o),fW,T',c3,by rw[agy];exact c4,fun i u c hu hc=> ?_⟩;rw[agA]at hc;cases hx:cp[i]? with
    |none=>rw[hx]at hc;cases hc
    |some x=>rw[hx]at hc;cases hc;exact hv (c5 i u x hu hx)
   |lp ls p as bd cp=>
    obtain⟨c1,c2,fn,fW,T',c3,c4,c5⟩:=eF;refine⟨c1,fun o=>gh _ rfl o (c2 o),fn,fW,T',c3,by rw[agy];exact c4,fun i u c hu hc=> ?_⟩;rw[agA]at hc;cases hx:cp[i]? with
    |none=>rw[hx]at hc;cases hc
    |some x=>rw[hx]at hc;cases hc;exact hv (c5 i u x hu hx)
   |it sn cp=>
    obtain⟨c1,c2,fn,fW,T',c3,c4,c5⟩:=eF;refine⟨c1,fun o=>gh _ rfl o (c2 o),fn,fW,T',c3,by rw[agy];exact c4,fun i u c hu hc=> ?_⟩;rw[agA]at hc;cases hx:cp[i]? with
    |none=>rw[hx]at hc;cases hc
    |some x=>rw[hx]at hc;cases hc;exact hv (c5 i u x hu hx)
   |vec e k cp=>
    obtain⟨c1,c2,c3,c4⟩:=eF;refine⟨by rw[agy];exact c1,by rw[agy];exact c2,fun c hc=> ?_,?_⟩
    ·obtain⟨x,hx,rfl⟩:=List.mem_map.1 hc;rw[agy];exact c3 x hx
    ·rcases c4 with⟨d1,d2,A,d3⟩|⟨g,cap,cur,d1,d2,d3,d4,d5,d6,d7,d8,d9⟩
     ·exact .inl ⟨d1,by rw[d2];rfl,A,d3⟩
     ·refine .inr ⟨g,cap,cur,d1,by rw[agy];exact d2,d3,d4,by rw[agy];exact d5,d6,d7,fun o=>gh g d1 o (d8 o),fun i j c x u hc hx hu=> ?_⟩;rw[agA]at hc;cases hy:cp[i]? with
      |none=>rw[hy]at hc;cases hc
      |some y=>
       rw[hy]at hc;cases hc
       rw[agA]at hx;cases hw:y[j]? with
       |none=>rw[hw]at hx;cases hx
       |some z=>rw[hw]at hx;cases hx;exact hv (d9 i j y z u hy hw hu)
mutual
def AV.dm(b kk:Nat)(xs:List (List D)):AV→AV
 | .vec n o len L k=>bif n==b then(bif L==xs.length&&k==kk then .d (.sl ((xs.drop o).take len))else .dead)else .vec n o len L k
 | .di n i j L k=>bif n==b then .dead else .di n i j L k
 | .agg cs=> .agg (AV.nN b kk xs cs)
 | .bX cs=> .bX (AV.nN b kk xs cs)
 | .fn f cs=> .fn f (AV.nN b kk xs cs)
 |x=>x
def AV.nN(b kk:Nat)(xs:List (List D)):List AV→List AV
 |[]=>[]
 |x::l=>x.dm b kk xs::AV.nN b kk xs l
end
theorem oI(b kk:Nat)(xs:List (List D)):∀l,AV.nN b kk xs l=l.map (AV.dm b kk xs)
 |[]=>by simp [AV.nN]
 |x::l=>by simp [AV.nN,oI b kk xs l]
theorem aG.dm{G G':Gh}{w:World}{b kk:Nat}{xs:List (List D)}(hE:bZ G.N G w G' w)(hN:G'.N=G.N)(hp:∀(u:Value)(o len:Nat),aG G w u (.vec b o len xs.length kk)→dC G'.S w u (.sl ((xs.drop o).take len))){u:Value}{x:AV}(h:aG G w u x):aG G' w u (x.dm b kk xs):=by
 have ba:∀{u:Value}{x:AV},aG G w u x→aG G' w u x:=fun h=>h.ba hE (Nat.le_of_eq hN.symm);have fI:∀(vs:Array Value)(cs:List AV),(∀(i:Nat)(u:Value)(c:AV),vs[i]?=some u→cs[i]?=some c→aG G' w u (c.dm b kk xs))→∀(i:Nat)(u:Value)(c:AV),vs[i]?=some u→(AV.nN b kk xs cs)[i]?=some c→aG G' w u c:=by
  intro vs cs ih i u c hu hc;rw[oI,agA]at hc;cases hx:cs[i]? with
  |none=>rw[hx]at hc;cases hc
  |some x=>rw[hx]at hc;cases hc;exact ih i u x hu hx
 induction h with
 |agg vs cs hl _ ih=>rw[AV.dm];exact .agg vs _ (by rw[oI,agy];exact hl) (fI vs cs ih)
 |bX vs cs hl _ ih=>rw[AV.dm];exact .bX vs _ (by rw[oI,agy];exact hl) (fI vs cs ih)
 |fn f vs cs hl _ ih=>rw[AV.dm];exact .fn f vs _ (by rw[oI,agy];exact hl) (fI vs cs ih)
 |vec n o len L k h hs hL hf=>
  rw[AV.dm,cond_eq_ite];split
  ·next e=>
   have e:n=b:=by simpa using e
   subst e;rw[cond_eq_ite];split
   ·next e2=>
    rw[agv,beq_iff_eq,beq_iff_eq]at e2;obtain⟨rfl,rfl⟩:=e2;exact .d (hp _ o len (.vec n o len _ _ h hs hL hf))
   ·exact .dead _
  ·exact ba (.vec n o len L k h hs hL hf)
 |di n i j L k h hs hL hf=>
  rw[AV.dm,cond_eq_ite];split
  ·exact .dead _
  ·exact ba (.di n i j L k h hs hL hf)
 |ptr n off h=>simp only[AV.dm];exact ba (.ptr n off h)
 |own n xs h hp hle hf=>simp only[AV.dm];exact ba (.own n xs h hp hle hf)
 |d h=>simp only[AV.dm];exact ba (.d h)
 |bn xs i off b o u x hx hS hu=>simp only[AV.dm];exact ba (.bn xs i off b o u x hx hS hu)
 |full xs hp hf=>simp only[AV.dm];exact ba (.full xs hp hf)
 |row n off len cap k h hl hm=>simp only[AV.dm];exact ba (.row n off len cap k h hl hm)
 |mp n h=>simp only[AV.dm];exact ba (.mp n h)
 |dj n h=>simp only[AV.dm];exact ba (.dj n h)
 |hid h h1=>simp only[AV.dm];exact ba (.hid h h1)
 |dead u=>simp only[AV.dm];exact .dead u
theorem c7.Jq{G:Gh}{w:World}{a:Act}{s:St}(hs:c7 G w a s)(xs:List (List D)){b e k:Nat}(hb:s.h[b]?=some (.vec e k (aK xs)))(fw:∀c∈xs,c.all D.mV=true)
 :∃G',bZ G.N G w G' w∧G'.N=G.N∧c7 G' w a ⟨s.n,s.t.map fun p=>(p.1,p.2.dm b k xs),(s.h.map (ak.ij (AV.dm b k xs))).set b .gone⟩:=by
 obtain⟨L,hL⟩:∃L,xs.length=L:=⟨_,rfl⟩;have iR:(aK xs).length=L:=by unfold aK;rw[agy];exact hL
 have gS:=xk hs.inv hb;have iH:∀d∈xs,d.length=k:=fun d hd=>by
  have:=gS (d.map .d) (by unfold aK;exact List.mem_map.2 ⟨d,hd,rfl⟩)
  rwa [agy]at this
 obtain⟨S,hS⟩:∃S:Nat→Nat→Prop,S=fun c o=>G.S c o∨(cl s.h G b=some c∧o<L*k):=⟨_,rfl⟩;have hE:bZ G.N G w {G with S:=S} w:=⟨agE _,fun b o h=>by show S b o;rw[hS];exact .inl h,fun _ _ _=>rfl,fun _ _=>rfl,fun _ _=> .inl ⟨rfl,rfl⟩,gq rfl,fun _ _=>rfl,rfl,rfl,rfl,fun c o hq=>by
  have cM:S c o:=hq;rw[hS]at cM;rcases cM with h|⟨h,_⟩
  ·exact .inl h
  ·obtain⟨B,hB,fU⟩:=kI h;exact .inr ((hs.inv.dp b B hB).lv fU)⟩
 have Ds:∀(u:Value)(o len:Nat),aG G w u (.vec b o len xs.length k)→dC S w u (.sl ((xs.drop o).take len)):=fun u o len tD=>by
  rw[hL]at tD;have jR:=tD.qQ hs.inv hb iR;obtain⟨wI,⟨A,cc,q1,q2,q3,q4,q5⟩,_⟩:=jR;generalize hy:(xs.drop o).take len=ys;have wi:ys.length=len:=by rw[←hy,List.length_take,List.length_drop];omega
  rw[q1,←wi];show dC S w _ _;by_cases hh0:True
  ·skip
   by_cases h0:len=0
   ·have:ys=[]:=List.eq_nil_of_length_eq_zero (by omega);subst this;exact .sl A 0 0 cc 0 [] (fun _ _=>undef) (fun h=>absurd rfl h) (Nat.zero_le _) q3 (fun _ h=>absurd h ag9) (fun i j hi=>absurd hi (agV _)) (fun i j x d hx=>by simp at hx)
   ·obtain⟨g,cap,s1,rfl,s3⟩:=q5 (by omega);obtain⟨g',xZ,cur,r1,r2,r3,r4,r5,r6,r7,r8,r9⟩:=Ax hs.inv hb (fun e=>by rw[e]at iR;simp at iR;omega);rw[r2]at s1;cases s1
    have lG:cl s.h G b=some g:=(dU hb).trans r1;have iF:∀i,i<len→ys[i]?=xs[o+i]?:=fun i dR=>by rw[←hy,List.getElem?_take_of_lt dR,List.getElem?_drop]
    have fV:∀i j,i<len→j<k→o*k+i*k+j<cur.size:=fun i j hi hj=>by
     have:=jG (i:=o+i) (k:=k) (L:=(aK xs).length) (j:=j) (by omega) hj;rw[Nat.add_mul]at this;have h2:(aK xs).length*k≤cap*k:=Nat.mul_le_mul_right k (by omega);rw[r7];omega
    have nV:∀(i j:Nat)(x:List D)(d:D),i<len→ys[i]?=some x→x[j]?=some d→aG G w (cur.getD (o*k+i*k+j) undef) (.d d):=fun i j x d hi hx hd=>by
     rw[iF i hi]at hx;have hj:j<k:=by rw[←iH x (agG hx)];exact(agt.1 hd).1
     refine r9 (o+i) j (x.map .d) (.d d) _ (by unfold aK;rw[agA,hx];rfl) (by rw[agA,hd];rfl) ?_;have hc:=fV i j hi hj;rw[show(o+i)*k+j=o*k+i*k+j by rw[Nat.add_mul]];simp [Array.getD,hc]
    refine .sl _ g (o*k) cc k ys (fun i j=>cur.getD (o*k+i*k+j) undef) (fun _=>rfl) (by omega) q3 (fun x hx=> ?_) (fun i j hi hj=>⟨?_,?_,?_⟩) (fun i j x d hx hd=> ?_)
    ·rw[←hy]at hx;exact iH x (List.mem_of_mem_drop (List.mem_of_mem_take hx))
    ·rw[hS];refine .inr ⟨lG,?_⟩;have:=jG (i:=o+i) (k:=k) (L:=(aK xs).length) (j:=j) (by omega) hj;rw[Nat.add_mul]at this;exact this
    ·rw[cell_of_row w g _ cur e (0,0) r4];have hc:=fV i j (by omega) hj;simp [Array.getD,hc]
    ·have dR:i<len:=by omega
     obtain⟨x,hx⟩:∃x,ys[i]?=some x:=⟨_,agx hi⟩;have zR:=hx;rw[iF i dR]at zR;have iC:=agG zR;obtain⟨d,hd⟩:∃d,x[j]?=some d:=⟨_,agx (by rw[iH x iC];exact hj)⟩;refine(nV i j x d dR hx hd).iS ?_;have h1:=fw x iC;rw[agT]at h1;have h2:=h1 d (agG hd);cases d with
     |v u=>exact h2
     |sl l=>rfl
    ·have dR:i<len:=by rw[←wi];exact(agt.1 hx).1
     have:=nV i j x d dR hx hd;generalize cur.getD (o*k+i*k+j) undef=q at this;cases this with|d h=>exact h.ba hE.S hE.cell
  ·exact(hh0 trivial).elim
 have hinv:=Ux (b:=b) (f:=AV.dm b k xs) hs.inv hE (fun c o hq=>by rw[hS]at hq;exact hq.imp id And.left) (fun hq=>hq.dm hE rfl Ds);have cM:c7 {G with S:=S} w a ⟨s.n,s.t.map fun p=>(p.1,p.2.dm b k xs),(s.h.map (ak.ij (AV.dm b k xs))).set b .gone⟩:=by
  refine⟨hs.size,fun i=> ?_,hinv,hs.df⟩;show aG _ _ _ (bz (s.t.map fun p=>(p.1,p.2.dm b k xs)) i);rw[wA (AV.dm b k xs) (by simp [AV.dm])];exact(hs.tmp i).dm hE rfl Ds
 exact⟨_,hE,rfl,cM⟩
def wa(P:Program)(rs:List ResultVar)(m:Nat)(s:St):Option (AV×List ak):=
 match qg P s rs with
 |some l=>bif cd m s.h.length&&((gJ l).bI m).aS m&&(((s.h.take m).map (ak.bI m)).all (ak.aS m))then some (((gJ l).bI m).nrm,((s.h.take m).map (ak.bI m)).map ak.nE)else none
 |none=>none
def CV(P:Program)(fn:Func)(m:Nat)(R:AV)(H:List ak):Exit→St→Prop
 | .normal,s=>wa P fn.results.toList m s=some (R,H)
 | .ret,s=>wa P fn.results.toList m s=some (R,H)
 |_,_=>False
theorem OF{P:Program}{s:St}{fn:Func}{m:Nat}{R:AV}{H:List ak}(h:wa P fn.results.toList m s=some (R,H)):pv P fn m (fun r h'=>r.nrm=R∧h'.map ak.nE=H) s:=by
 unfold wa at h;split at h
 ·next l e=>
  obtain⟨hb,he⟩:=cV h;cases he
  simp only[agv,cZ]at hb;exact Aq _ _ _ e ⟨hb.1.1,hb.1.2,hb.2,rfl,rfl⟩
 ·cases h
theorem A0{P:Program}{s:St}{fn:Func}{m:Nat}{R:AV}{H:List ak}(h:wa P fn.results.toList m s=some (R,H)):CV P fn m R H .ret s:=h
theorem BX{P:Program}{f:FuncId}{fn:Func}{c:Code}{args:List AV}{h H:List ak}{R:AV}(m:Nat)(hf:P.funcs[f]?=some fn)(hb:fn.body=some c)(hn:(fn.name== "runtime.NumGoroutine")=false)(hm:h.length≤m)
 (hw:bH P none h.length c (CV P fn m R H) {n:=args.length+(fn.ntmps-args.length),t:=iN 0 args,h:=h}):bW P f args h fun r1 h1=>r1=R∧h1=H:=by
 have h0:=yR (P:=P) (f:=f) (args:=args) (h:=h) (K:=fun r h'=>r.nrm=R∧h'.map ak.nE=H) m hf hb hn hm (hw.mono fun e s hq=>by
  cases e with
  |normal=>exact OF hq
  |ret=>exact OF hq
  |_=>exact hq.elim)
 refine⟨h0.1,fun G w vs hi hl hr=>(h0.2 G w vs hi hl hr).mono fun e w' hp=> ?_⟩;obtain⟨v,G',x,h',rfl,hE,hN,dR,hv,rfl,rfl⟩:=hp;exact⟨v,G',x.nrm,_,rfl,hE,hN,LY dR,hv.nrm,rfl,rfl⟩
theorem lS{P:Program}{r:Option Nat}{N0:Nat}{c:Code}{s s':St}{Q:Exit→St→Prop}(e:s=s')(h:bH P r N0 c Q s'):bH P r N0 c Q s:=e▸h
def gF{V:Type}:List (ByteArray×V)→ByteArray→V→V
 |[],_,d=>d
 |(k,v)::l,s,d=>bif bL k==bL s then v else gF l s d
def pO{V:Type}:List (ByteArray×V)→ByteArray→Bool
 |[],_=>false
 |(k,_)::l,s=>bif bL k==bL s then true else pO l s
def dA(l:List (ByteArray×Int)):List (ByteArray×D):=l.map fun p=>(p.1, .v (.int .i64 p.2))
def Am(l:List (ByteArray×Bool)):List (ByteArray×D):=l.map fun p=>(p.1, .v (.bool p.2))
theorem Qs{V:Type}(f:V→D):∀(l:List (ByteArray×V))(s:ByteArray)(d:V),jL (l.map fun p=>(p.1,f p.2)) s=bif pO l s then some (f (gF l s d))else none
 |[],s,d=>rfl
 |(k,v)::l,s,d=>by
  simp only[agS,jL,pO,gF];cases bL k==bL s with
  |true=>rfl
  |false=>simp only[cond_false];exact Qs f l s d
theorem ND{V:Type}:∀(l:List (ByteArray×V))(s:ByteArray)(d:V),pO l s=false→gF l s d=d
 |[],s,d,_=>rfl
 |(k,v)::l,s,d,h=>by
  unfold pO at h;unfold gF;cases e:bL k==bL s with
  |true=>rw[e]at h;cases h
  |false=>rw[e]at h;simp only[cond_false];exact ND l s d h
theorem SX{V:Type}(f:V→D)(z:Value)(d0:V)(hz:f d0= .v z)(ok:Bool)(l:List (ByteArray×V))(s:ByteArray):
 vE ok z (jL (l.map fun p=>(p.1,f p.2)) s)=bif ok then .bX [.d (f (gF l s d0)), .d (.v (.bool (pO l s)))]else .d (f (gF l s d0)):=by
 rw[Qs f l s d0];cases e:pO l s with
 |true=>cases ok<;>rfl
 |false=>rw[ND l s d0 e,hz];cases ok<;>rfl
theorem BZ(ok:Bool)(l:List (ByteArray×Int))(s:ByteArray):vE ok (.int .i64 0) (jL (dA l) s)=bif ok then .bX [.d (.v (.int .i64 (gF l s 0))), .d (.v (.bool (pO l s)))]else .d (.v (.int .i64 (gF l s 0))):=
 SX (fun n=> .v (.int .i64 n)) _ 0 rfl ok l s
theorem Pw(ok:Bool)(l:List (ByteArray×Bool))(s:ByteArray):vE ok (.bool false) (jL (Am l) s)=bif ok then .bX [.d (.v (.bool (gF l s false))), .d (.v (.bool (pO l s)))]else .d (.v (.bool (gF l s false))):=
 SX (fun n=> .v (.bool n)) _ false rfl ok l s
theorem J8{l:List (ByteArray×Int)}(h:Nat.blt l.length 9223372036854775807=true):(Sd.lt (dA l).length).ok:=by
 unfold dA;rw[agy];exact agB h
theorem XA{l:List (ByteArray×Bool)}(h:Nat.blt l.length 9223372036854775807=true):(Sd.lt (Am l).length).ok:=by
 unfold Am;rw[agy];exact agB h
def gI(g:Nat):List Int:=((yr yw g).getD []).map fun v=>match v with| .int _ n=>n|_=>0
def aae(l:List Int):ByteArray:=⟨(l.map fun n=>UInt8.ofNat n.toNat).toArray⟩
theorem gZ{α:Type}{c:Bool}{x y z:α}(h:(bif c then x else y)=z):(c=true∧x=z)∨(c=false∧y=z):=by
 cases c with
 |true=>exact .inl ⟨rfl,h⟩
 |false=>exact .inr ⟨rfl,h⟩
inductive HD
 |same
 |push (B:ak)
 |set (n:Nat) (B:ak)
def HD.app:HD→List ak→List ak
 | .same,h=>h
 | .push B,h=>h++[B]
 | .set n B,h=>h.set n B
def HD.okB(lo:Nat):HD→Bool
 | .set n _=>cd lo n
 |_=>true
def zN:Int→Option Nat
 | .ofNat n=>some n
 | .negSucc _=>none
theorem nm{z:Int}{n:Nat}(h:zN z=some n):0≤z∧z.toNat=n:=by
 cases z with
 |ofNat m=>cases h;exact⟨Int.natCast_nonneg _,rfl⟩
 |negSucc m=>cases h
def lW(ρ:Operand→AV)(d:Nat):Option Operand→Option Nat
 |none=>some d
 |some y=>match (ρ y).int? with
  |some z=>zN z
  |none=>none
theorem rE{ρ:Operand→AV}{d n:Nat}{x:Option Operand}{K:Nat→Prop}(h:lW ρ d x=some n)(hK:K n):iu ρ x d K:=by
 cases x with
 |none=>cases h;exact hK
 |some y=>
  unfold lW at h;unfold iu;simp only at h ⊢;split at h
  ·next z e=>
   obtain⟨h0,h1⟩:=nm h;simp only[e];exact⟨h0,by rw[h1];exact hK⟩
  ·cases h
def vF(k:Nat)(xs:List (List D)):Bool:=xs.all fun c=>c.length==k
theorem AE{k:Nat}{xs:List (List D)}(h:vF k xs=true):∀c∈xs,c.length=k:=fun c hc=>by
 have:=agT.1 h c hc
 simpa using this
def Gk(P:Program)(T:TypeId)(x i:AV):Option AV:=
 match dY P T with
 |some (_,k)=>match x with
  | .row n off len _ k'=>match i.int? with
    |some z=>match zN z with
     |some q=>bif k'==k&&cd (q+1) len then some (.ptr n (off+q*k))else none
     |none=>none
    |none=>none
  |x=>match x.fG,i.int? with
   |some xs,some z=>match zN z with
    |some q=>match xs[q]? with
     |some c=>bif c.length==k then some (.bn [c] 0 0)else none
     |none=>none
    |none=>none
   |_,_=>none
 |none=>match rV P T,x,i.int? with
  |some (n,_,k), .ptr b off,some z=>match zN z with
   |some q=>bif cd (q+1) n then some (.ptr b (off+q*k))else none
   |none=>none
  |some (n,_,k), .bn xs e off,some z=>match zN z with
   |some q=>bif k==1&&cd (q+1) n then match xs[e]? with
    |some c=>match c[off+q]? with
     |some d=>some (.bn [[d]] 0 0)
     |none=>none
    |none=>none
    else none
   |none=>none
  |_,_,_=>none
theorem aap{P:Program}{T:TypeId}{x i y:AV}{K:AV→Prop}(h:Gk P T x i=some y)(hK:K y):qD P T x i K:=by
 unfold Gk at h;unfold qD;split at h
 ·next e k eT=>
  simp only[eT];split at h
  ·next n off len cap k'=>
   simp only;split at h
   ·next z ez=>
    simp only[ez];split at h
    ·next q eq=>
     obtain⟨h0,h1⟩:=nm eq;obtain⟨hb,he⟩:=cV h;rw[agv,cZ]at hb;refine bY.2 ⟨hb.1,h0,by omega,?_⟩;rw[h1,he];exact hK
    ·cases h
   ·cases h
  ·next x' lM=>
   split at h
   ·next xs z e1 e2=>
    split at h
    ·next q eq=>
     obtain⟨h0,h1⟩:=nm eq;split at h
     ·next c ec=>
      obtain⟨hb,he⟩:=cV h;simp only[e1,e2];refine⟨h0,?_⟩;rw[h1,ec];exact⟨by simpa using hb,by rw[he];exact hK⟩
     ·cases h
    ·cases h
   ·cases h
 ·next eT=>
  simp only[eT];split at h
  ·next n e k b off z e1 e2=>
   simp only[e1,e2];split at h
   ·next q eq=>
    obtain⟨h0,h1⟩:=nm eq;obtain⟨hb,he⟩:=cV h;rw[cZ]at hb;exact⟨h0,by omega,by rw[h1,he];exact hK⟩
   ·cases h
  ·next n e0 k xs e off z e1 e2=>
   simp only[e1,e2];split at h
   ·next q eq=>
    obtain⟨h0,h1⟩:=nm eq;obtain⟨hb,h⟩:=gk h;rw[agv,cZ]at hb;split at h
    ·next c ec=>
     split at h
     ·next d ed=>
      cases h
      refine bY.2 ⟨hb.1,h0,by omega,?_⟩;rw[ec];simp only;rw[h1,ed];exact hK
     ·cases h
    ·cases h
   ·cases h
  ·cases h
def KP(P:Program)(T:TypeId)(ρ:Operand→AV)(x:AV)(lo hi mx:Option Operand):Option AV:=
 match mx with
 |none=>
  match x with
  | .d (.v (.string b))=>match lW ρ b.size hi,lW ρ 0 lo with
    |some h,some l=>bif gr P T&&cd h b.size&&cd l h then some (.d (.v (.string (b.extract l h))))else none
    |_,_=>none
  | .ptr n off=>match rV P T with
    |some (m,_,k)=>match lW ρ m hi,lW ρ 0 lo with
     |some h,some l=>bif cd m 4096&&cd h m&&(cd l h&& !cd m l)then some (.row n (off+l*k) (h-l) (m-l) k)else none
     |_,_=>none
    |none=>none
  |x=>match x.fG,dY P T with
   |some xs,some (_,k)=>match lW ρ xs.length hi,lW ρ 0 lo with
    |some h,some l=>bif vF k xs&&cd h xs.length&&cd l h then some (.d (.sl ((xs.take h).drop l)))else none
    |_,_=>none
   |_,_=>none
 |some m=>match lo,hi with
  |none,some y=>match x.fG,dY P T with
   |some xs,some (_,k)=>match lW ρ 0 (some m),lW ρ 0 (some y)with
    |some c,some h=>bif vF k xs&&cd c xs.length&&h==c then some (.full (xs.take h))else none
    |_,_=>none
   |_,_=>none
  |_,_=>none
theorem afT{P:Program}{T:TypeId}{ρ:Operand→AV}{x y:AV}{lo hi mx:Option Operand}{K:AV→Prop}(h:KP P T ρ x lo hi mx=some y)(hK:K y):o9 P T ρ x lo hi mx K:=by
 unfold KP at h;unfold o9;split at h
 ·simp only;split at h
  ·next b=>
   simp only;split at h
   ·next u l e1 e2=>
    obtain⟨hb,he⟩:=cV h;rw[agv,agv,cZ,cZ]at hb;exact bY.2 ⟨hb.1.1,rE e1 ⟨hb.1.2,rE e2 ⟨hb.2,by rw[he];exact hK⟩⟩⟩
   ·cases h
  ·next n off=>
   simp only;split at h
   ·next m e k eT=>
    simp only[eT];split at h
    ·next u l e1 e2=>
     generalize cd m 4096=q4 at h ⊢;obtain⟨hb,he⟩:=cV h;rw[agv,agv]at hb;exact bY.2 ⟨hb.1.1,rE e1 (bY.2 ⟨hb.1.2,rE e2 (bY.2 ⟨hb.2,by rw[he];exact hK⟩)⟩)⟩
    ·cases h
   ·cases h
  ·next x' _ _=>
   split at h
   ·next xs e k eL eT=>
    simp only[eL,eT];split at h
    ·next u l e1 e2=>
     obtain⟨hb,he⟩:=cV h;rw[agv,agv,cZ,cZ]at hb;exact⟨AE hb.1.1,rE e1 ⟨hb.1.2,rE e2 ⟨hb.2,by rw[he];exact hK⟩⟩⟩
    ·cases h
   ·cases h
 ·next m=>
  simp only;split at h
  ·next y'=>
   simp only;split at h
   ·next xs e k eL eT=>
    simp only[eL,eT];split at h
    ·next c u e1 e2=>
     obtain⟨hb,he⟩:=cV h;rw[agv,agv,cZ,beq_iff_eq]at hb;exact⟨AE hb.1.1,rE e1 ⟨hb.1.2,rE e2 ⟨hb.2,by rw[he];exact hK⟩⟩⟩
    ·cases h
   ·cases h
  ·cases h
def I2(P:Program)(T:TypeId)(h:List ak)(x y:AV):Option (AV×HD):=
 match dY P T with
 |some (e,k)=>match gO P e,mw P e with
  |some z,some c9=>match Ii h k y with
   |some ys=>bif cd 1 k&&z.cells.toList.length==k&&vF k ys then
    match x with
    | .own n xs=>match h[n]? with
      |some (.front e' k' len)=>bif e'==e&&k'==k&&len==xs.length&&vF k xs&&cd (xs.length+ys.length) maxLen&&cd ((xs.length+ys.length)*c9) 140737488355328 then some (.own n (xs++ys), .set n (.front e k (xs.length+ys.length)))else none
      |_=>none
    | .d (.v (.slice none 0 0))=>bif cd ys.length maxLen&&cd (ys.length*c9) 140737488355328 then some (.own h.length ys, .push (.front e k ys.length))else none
    | .full xs=>bif vF k xs&&cd (xs.length+ys.length) maxLen&&cd ((xs.length+ys.length)*c9) 140737488355328 then some (.own h.length (xs++ys), .push (.front e k (xs.length+ys.length)))else none
    |_=>none
    else none
   |none=>none
  |_,_=>none
 |none=>none
theorem ZV{P:Program}{T:TypeId}{h:List ak}{x y r:AV}{d:HD}{K:AV→List ak→Prop}(h1:I2 P T h x y=some (r,d))(hK:K r (d.app h)):py P T h x y K:=by
 unfold I2 at h1;unfold py;split at h1
 ·next e k eT=>
  simp only[eT];split at h1
  ·next z c9 e1 e2=>
   simp only[e1,e2];split at h1
   ·next ys e3=>
    obtain⟨hb,h1⟩:=gk h1;rw[agv]at hb;refine bY.2 ⟨hb.1,FD e3 (AE hb.2) ?_⟩;split at h1
    ·next n xs=>
     simp only;split at h1
     ·next e' k' len e4=>
      obtain⟨hc,he⟩:=cV h1;cases he
      simp only[agv,cZ,beq_iff_eq]at hc;simp only[e4];obtain⟨⟨⟨⟨⟨c1,c2⟩,c3⟩,c4⟩,c5⟩,c6⟩:=hc;exact bY.2 ⟨by rw[c1,c2];simp,c3,AE c4,c5,c6,hK⟩
     ·cases h1
    ·obtain⟨hc,he⟩:=cV h1;cases he
     simp only[agv,cZ]at hc;exact⟨hc.1,hc.2,hK⟩
    ·obtain⟨hc,he⟩:=cV h1;cases he
     simp only[agv,cZ]at hc;exact⟨AE hc.1.1,hc.1.2,hc.2,hK⟩
    ·cases h1
   ·cases h1
  ·cases h1
 ·cases h1
def Dt:List (List D)→Option (List Int)
 |[]=>some []
 |[.v (.int .u8 n)]::l=>match Dt l with
  |some ns=>some (n::ns)
  |none=>none
 |_=>none
theorem UI:∀(xs:List (List D))(ns:List Int),Dt xs=some ns→xs=ns.map fun n=>[.v (.int .u8 n)]
 |[],ns,h=>by unfold Dt at h;cases h;rfl
 |x::l,ns,h=>by
  unfold Dt at h;split at h
  ·next e=>cases e
  ·next n l' e=>
   cases e
   split at h
   ·next ms em=>cases h;rw[UI _ ms em];rfl
   ·cases h
  ·cases h
def Kd:Option (AV×In)→Option AV
 |some (x, .none)=>some x
 |some (x, .nz b)=>bif b==0 then none else some x
 |some (x, .nn b)=>match zN b with
  |some _=>some x
  |none=>none
 |some (x, .cat n)=>bif cd n maxLen then some x else none
 |_=>none
theorem Wd{r:Option (AV×In)}{x:AV}(P:Program)(h:Kd r=some x):∃i,r=some (x,i)∧OK P i .ok:=by
 unfold Kd at h;split at h
 ·cases h;exact⟨_,rfl, .none⟩
 ·next b=>
  cases hb:b==0 with
  |true=>rw[hb]at h;cases h
  |false=>rw[hb]at h;cases h;exact⟨_,rfl, .nz (by simpa using hb)⟩
 ·next b=>
  split at h
  ·next e=>cases h;exact⟨_,rfl, .nn (nm e).1⟩
  ·cases h
 ·obtain⟨hb,he⟩:=cV h;cases he
  exact⟨_,rfl, .cat (cZ.1 hb)⟩
 ·cases h
def pX(r:Option AV):Option (AV×HD):=
 match r with
 |some x=>some (x, .same)
 |none=>none
def IX(P:Program)(src dst:TypeId)(x:AV):Option AV:=
 match GM P src dst x .none with
 |some (y, .none)=>some y
 |_=>match x.fG,dY P src with
  |some xs,some (e,_)=>match Dt xs with
   |some ns=>match x with
    | .d (.v _)=>none
    |_=>bif DR P e&&gr P dst then some (.d (.v (.string (aae ns))))else none
   |none=>none
  |_,_=>none
theorem Xk{P:Program}{src dst:TypeId}{x y:AV}{K:AV→Prop}(h:IX P src dst x=some y)(hK:K y):qp P src dst x K:=by
 unfold IX at h;split at h
 ·next e=>cases h;exact S0 (a:= .none) e .none hK
 ·split at h
  ·next xs e k e1 e2=>
   split at h
   ·next ns e3=>
    split at h
    ·cases h
    ·next hx=>
     obtain⟨hb,he⟩:=cV h;unfold qp;split
     ·next n=>exact absurd rfl (hx _)
     ·next b=>exact absurd rfl (hx _)
     ·simp only[e1,e2];exact bY.2 ⟨hb,ns,UI _ _ e3,by subst he;exact hK⟩
   ·cases h
  ·cases h
def kA(P:Program)(op:Op)(ρ:Operand→AV)(h:List ak):Option (AV×HD):=
 match op with
 | .move x| .assign x=>some (ρ x, .same)
 | .pick c x y=>match ρ c with
   | .d (.v (.bool b))=>some (bif b then ρ x else ρ y, .same)
   |_=>none
 | .alloc e=>match gO P e with
   |some z=>some (.ptr h.length 0, .push (.cells (z.cells.toList.map fun u=> .d (.v u))))
   |none=>none
 | .box _ x=>bif (ρ x).iy then some (.ptr h.length 0, .push (.cells (ρ x).cells))else none
 | .load t p=>match vn h (ρ p)with
   |some (cs,off)=>pX (yp P t cs off)
   |none=>none
 | .store t p x=>match ρ p with
   | .ptr n off=>match h[n]? with
     |some (.cells cs)=>match fA P t with
      |some k=>bif k==(ρ x).cells.length&&(ρ x).iy&&cd (off+(ρ x).cells.length) cs.length then some (.d (.v undef), .set n (.cells (gy cs off (ρ x).cells)))else none
      |none=>none
     |_=>none
   |_=>none
 | .nilCheck x=>match ρ x with
   | .ptr n off=>some (.ptr n off, .same)
   | .bn xs i off=>some (.bn xs i off, .same)
   | .fn f cs=>some (.fn f cs, .same)
   |_=>none
 | .fieldAddr S x f=>match pe P S f with
   |some (fo,_,_)=>match ρ x with
    | .ptr n off=>some (.ptr n (off+fo), .same)
    | .bn xs i off=>some (.bn xs i (off+fo), .same)
    |_=>none
   |none=>none
 | .field T x f=>pX (HR P T (ρ x) f)
 | .indexAddr T x i=>pX (Gk P T (ρ x) (ρ i))
 | .index T x i=>match ρ x,(ρ i).int? with
   | .d (.v (.string b)),some z=>match zN z with
     |some q=>match b[q]? with
      |some c=>bif gr P T then some (.d (.v (.int .u8 c.toNat)), .same)else none
      |none=>none
     |none=>none
   |_,_=>none
 | .build T ps=>pX (Hi P T (ps.toList.map fun p=>(p.1,ρ p.2)))
 | .buildSlice T len ps=>pX (Fq P T len (ps.toList.map fun p=>(p.1,ρ p.2)))
 | .slice T x lo hi mx=>bif (ρ x).isNil&&mx.isNone then none else pX (KP P T ρ (ρ x) lo hi mx)
 | .extract x i=>match ρ x with
   | .bX cs=>match cs[i]? with
     |some c=>some (c, .same)
     |none=>none
   |_=>none
 | .makeFunc (.func f) first dt=>match first.toList with
   |[]=>some (.fn f (dt.toList.map ρ), .same)
   |_=>none
 | .binOp op T x y _=>pX (Kd (Gr P T op (ρ x) (ρ y)))
 | .unOp op _ x=>match ρ x with
   | .d (.v u)=>match Ho op u with
     |some v=>some (.d (.v v), .same)
     |none=>none
   |_=>none
 | .convert s t x=>pX (IX P s t (ρ x))
 | .call c=>match c.callee with
   | .builtin .len=>match c.args.toList,c.argTypes.toList with
     |[x],[T]=>match ρ x with
      | .d (.v (.string s))=>bif gr P T then some (.d (.v (.int .i64 s.size)), .same)else none
      | .row _ _ len _ _=>bif (dY P T).isSome then some (.d (.v (.int .i64 len)), .same)else none
      |x=>match x.fG with
       |some xs=>bif (dY P T).isSome then some (.d (.v (.int .i64 xs.length)), .same)else none
       |none=>none
     |_,_=>none
   | .builtin .append=>match c.args.toList,c.argTypes.toList with
     |[x,y],[T,U]=>bif (dY P U).isSome then I2 P T h (ρ x) (ρ y)else none
     |_,_=>none
   | .builtin .max=>match uf true (c.args.toList.map ρ)with
     |some (k,a)=>some (.d (.v (.int k a)), .same)
     |none=>none
   | .builtin .min=>match uf false (c.args.toList.map ρ)with
     |some (k,a)=>some (.d (.v (.int k a)), .same)
     |none=>none
   |_=>none
 | .makeMap T none=>match o6 P T with
   |some _=>some (.mp h.length, .push (.map []))
   |none=>none
 | .lookup T m i ok=>match lq P (.lookup T m i ok) ρ h with
   |some (x,_, .no)=>some (x, .same)
   |_=>none
 | .mapUpdate T m i x=>match o6 P T with
   |some (k,_)=>match ρ m,ρ i,(ρ x).rz with
    | .mp n, .d (.v (.string s)),some d=>match h[n]? with
      |some (.map kv)=>bif gr P k&&cd (kv.length+1) maxLen then some (.d (.v undef), .set n (.map ((s,d)::kv)))else none
      |_=>none
    |_,_,_=>none
   |none=>none
 |_=>none
theorem tF{r:Option AV}{x:AV}{d:HD}(h:pX r=some (x,d)):r=some x∧d= .same:=by
 unfold pX at h;split at h
 ·cases h;exact⟨rfl,rfl⟩
 ·cases h
theorem Lg{P:Program}{o:Oper}{ρ:Operand→AV}{h:List ak}{x:AV}{d:HD}{C:AV→List ak→Prop}(h1:kA P o.op ρ h=some (x,d))(hC:C x (d.app h)):cO P o ρ h C:=by
 obtain⟨dst,op,type,pos,after,guard⟩:=o;simp only at h1;unfold kA at h1;unfold cO;split at h1
 ·cases h1;exact hC
 ·cases h1;exact hC
 ·next c y z=>
  split at h1
  ·next b e=>
   cases h1
   simp only[e];cases b with
   |true=>exact⟨fun _=>hC,fun h=>Bool.noConfusion h⟩
   |false=>exact⟨fun h=>Bool.noConfusion h,fun _=>hC⟩
  ·cases h1
 ·split at h1
  ·next z e=>cases h1;simp only[e];exact hC
  ·cases h1
 ·obtain⟨hb,he⟩:=cV h1;cases he;exact bY.2 ⟨hb,hC⟩
 ·split at h1
  ·next cs off e=>
   obtain⟨e2,rfl⟩:=tF h1;exact K5 e e2 hC
  ·cases h1
 ·split at h1
  ·next n off e=>
   split at h1
   ·next cs e2=>
    split at h1
    ·next k e3=>obtain⟨hb,he⟩:=cV h1;cases he;simp only[e,vg,e2,e3];exact bY.2 ⟨hb,hC⟩
    ·cases h1
   ·cases h1
  ·cases h1
 ·split at h1
  ·next e=>cases h1;simp only[e];exact hC
  ·next e=>cases h1;simp only[e];exact hC
  ·next e=>cases h1;simp only[e];exact hC
  ·cases h1
 ·split at h1
  ·next e=>
   simp only[e];split at h1
   ·next e2=>cases h1;simp only[e2];exact hC
   ·next e2=>cases h1;simp only[e2];exact hC
   ·cases h1
  ·cases h1
 ·obtain⟨e,rfl⟩:=tF h1;exact QM e hC
 ·obtain⟨e,rfl⟩:=tF h1;exact aap e hC
 ·split at h1
  ·next b z e1 e2=>
   split at h1
   ·next q eq=>
    obtain⟨h0,hq⟩:=nm eq;split at h1
    ·next c ec=>
     obtain⟨hb,he⟩:=cV h1;cases he;simp only[e1,e2];refine bY.2 ⟨hb,h0,?_⟩;rw[hq,ec];exact hC
    ·cases h1
   ·cases h1
  ·cases h1
 ·obtain⟨e,rfl⟩:=tF h1;exact UO e hC
 ·obtain⟨e,rfl⟩:=tF h1;exact Pu e hC
 ·rcases gZ h1 with⟨_,h1⟩|⟨_,h1⟩
  ·cases h1
  ·obtain⟨e,rfl⟩:=tF h1;exact afT e hC
 ·split at h1
  ·next e=>
   split at h1
   ·next e2=>cases h1;simp only[e,e2];exact hC
   ·cases h1
  ·cases h1
 ·split at h1
  ·next e=>cases h1;simp only[e];exact hC
  ·cases h1
 ·obtain⟨e,rfl⟩:=tF h1;obtain⟨i,e2,cu⟩:=Wd P e;exact UY e2 cu hC
 ·unfold w5;split at h1
  ·next e=>
   split at h1
   ·next e2=>cases h1;simp only[e,e2];exact hC
   ·cases h1
  ·cases h1
 ·obtain⟨e,rfl⟩:=tF h1;exact Xk e hC
 ·next c=>
  split at h1
  ·next hc=>
   simp only[hc];split at h1
   ·next y T e1 e2=>
    simp only[e1,e2];unfold qf;split at h1
    ·next s e=>obtain⟨hb,he⟩:=cV h1;cases he;simp only[e];exact bY.2 ⟨hb,hC⟩
    ·next e=>obtain⟨hb,he⟩:=cV h1;cases he;simp only[e];exact bY.2 ⟨hb,hC⟩
    ·next n1 n2=>
     split at h1
     ·next xs e=>
      obtain⟨hb,he⟩:=cV h1;cases he;split
      ·next s e'=>exact absurd e' (n1 s)
      ·next e'=>exact absurd e' (n2 _ _ _ _ _)
      ·simp only[e];exact bY.2 ⟨hb,hC⟩
     ·cases h1
   ·cases h1
  ·next hc=>
   simp only[hc];split at h1
   ·next e1 e2=>obtain⟨hb,h1⟩:=gk h1;simp only[e1,e2];exact bY.2 ⟨hb,ZV h1 hC⟩
   ·cases h1
  ·next hc=>
   simp only[hc];split at h1
   ·next e1=>cases h1;simp only[e1];exact hC
   ·cases h1
  ·next hc=>
   simp only[hc];split at h1
   ·next e1=>cases h1;simp only[e1];exact hC
   ·cases h1
  ·cases h1
 ·split at h1
  ·next e=>cases h1;simp only[lq,e];exact⟨trivial,hC⟩
  ·cases h1
 ·split at h1
  ·next y h' e=>
   cases h1
   have hh:h'=h:=by
    unfold lq at e;simp only at e
    repeat' split at e
    all_goals first|cases e|(obtain⟨_,e'⟩:=cV e;cases e';rfl)
   subst hh;simp only[e];exact⟨trivial,hC⟩
  ·cases h1
 ·split at h1
  ·next k e0 e=>
   split at h1
   ·next n s dd e1 e2 e3=>
    split at h1
    ·next kv e4=>
     obtain⟨hb,he⟩:=cV h1;cases he
     rw[agv,cZ]at hb;simp only[lq,e,e1,e2,e3,e4,hb.1,cond_true];exact⟨hb.2,hC⟩
    ·cases h1
   ·cases h1
  ·cases h1
 ·cases h1
def qH(h:List ak)(n L k:Nat):Option (TypeId×List (List AV)):=
 match h[n]? with
 |some (.vec e k' cs)=>bif k'==k&&cs.length==L then some (e,cs)else none
 |_=>none
theorem vw{h:List ak}{n L k:Nat}{e:TypeId}{cs:List (List AV)}(hb:qH h n L k=some (e,cs)):h[n]?=some (.vec e k cs)∧cs.length=L:=by
 unfold qH at hb;split at hb
 ·next e' k' cp e1=>
  obtain⟨h1,h2⟩:=cV hb;cases h2
  rw[agv,beq_iff_eq,beq_iff_eq]at h1;exact⟨by rw[e1,h1.1],h1.2⟩
 ·cases hb
def Fw(h:List ak)(k:Nat)(y:AV):Option (List (List AV)):=
 match y with
 | .vec n o len L k'=>match qH h n L k' with
   |some (_,cs)=>bif k'==k&&((cs.drop o).take len).all (fun c=>c.all AV.iS)then some ((cs.drop o).take len)else none
   |none=>none
 |y=>match y.fG with
  |some xs=>bif vF k xs then some (aK xs)else none
  |none=>none
theorem Tl{h:List ak}{k:Nat}{y:AV}{ys:List (List AV)}(hx:Fw h k y=some ys):vU h k y ys:=by
 unfold Fw at hx;split at hx
 ·next n o len L k'=>
  split at hx
  ·next e cs e1=>
   obtain⟨h1,h2⟩:=cV hx;rw[agv,beq_iff_eq]at h1;obtain⟨b1,b2⟩:=vw e1;obtain⟨rfl,h3⟩:=h1;subst h2;exact .inr ⟨n,o,len,L,e,cs,rfl,b1,b2,rfl,fun c hc=>agT.1 h3 c hc⟩
  ·cases hx
 ·split at hx
  ·next xs e=>
   obtain⟨h1,h2⟩:=cV hx;exact .inl ⟨xs,e,AE h1,h2.symm⟩
  ·cases hx
def Cq(P:Program)(op:Op)(ρ:Operand→AV)(h:List ak):Option (AV×HD):=
 match op with
 | .indexAddr T x i=>match ρ x,(ρ i).int?,dY P T with
   | .vec n o len L k,some z,some (_,k')=>match zN z,qH h n L k with
     |some q,some _=>bif k'==k&&cd (q+1) len then some (.di n (o+q) 0 L k, .same)else none
     |_,_=>none
   |_,_,_=>none
 | .fieldAddr S x f=>match ρ x,pe P S f with
   | .di n i j L k,some (fo,_,_)=>some (.di n i (j+fo) L k, .same)
   |_,_=>none
 | .nilCheck x=>match ρ x with
   | .di n i j L k=>some (.di n i j L k, .same)
   |_=>none
 | .load t p=>match ρ p with
   | .di n i j L k=>match qH h n L k with
     |some (_,cs)=>match cs[i]? with
      |some c=>match E0 P t c j with
       |some x=>some (x, .same)
       |none=>none
      |none=>none
     |none=>none
   |_=>none
 | .store t p x=>match ρ p with
   | .di n i j L k=>match qH h n L k,fA P t with
     |some (e,cs),some q=>match cs[i]? with
      |some c=>bif q==(ρ x).cells.length&&(ρ x).iy&&cd (j+(ρ x).cells.length) k&&cd 1 k then some (.d (.v undef), .set n (.vec e k (cs.set i (gy c j (ρ x).cells))))else none
      |none=>none
     |_,_=>none
   |_=>none
 | .slice T x lo hi none=>match ρ x,dY P T with
   | .vec n o len L k,some (_,k')=>match lW ρ len hi,lW ρ 0 lo,qH h n L k with
     |some u,some l,some _=>bif k'==k&&cd l u&&cd (o+u) L then some (.vec n (o+l) (u-l) L k, .same)else none
     |_,_,_=>none
   |_,_=>none
 | .makeSlice T l c=>match dY P T,(ρ l).int?,(ρ c).int? with
   |some (e,k),some l,some c=>match gO P e,mw P e with
    |some z,some c9=>match zN l,zN c with
     |some len,some m=>bif cd 1 k&&z.cells.toList.length==k&&z.cells.toList.all Value.oneCell'&&cd len m&&cd m maxLen&&cd (c9*m) 281474976710656 then some (.vec h.length 0 len m k, .push (.vec e k (List.replicate m (z.cells.toList.map fun u=> .d (.v u)))))else none
     |_,_=>none
    |_,_=>none
   |_,_,_=>none
 | .call c=>match c.callee with
   | .builtin .len=>match c.args.toList,c.argTypes.toList with
     |[x],[T]=>match ρ x with
      | .vec n _ len L k=>match qH h n L k with
        |some _=>bif (dY P T).isSome then some (.d (.v (.int .i64 len)), .same)else none
        |none=>none
      |_=>none
     |_,_=>none
   | .builtin .append=>match c.args.toList,c.argTypes.toList with
     |[x,y],[T,U]=>match dY P T,dY P U,ρ x with
      |some (e,k),some _, .full []=>match gO P e,mw P e with
       |some z,some c9=>match Fw h k (ρ y)with
        |some ys=>bif cd 1 k&&z.cells.toList.length==k&&cd ys.length maxLen&&cd (ys.length*c9) 140737488355328 then some (.vec h.length 0 ys.length ys.length k, .push (.vec e k ys))else none
        |none=>none
       |_,_=>none
      |some (e,k),some _, .vec n o len L k1=>match gO P e,mw P e with
       |some z,some c9=>match qH h n L k1,Fw h k (ρ y)with
        |some (e1,cs),some ys=>bif cd 1 k&&z.cells.toList.length==k&&k1==k&&e1==e then
         bif cd (o+len+ys.length) L then some (.vec n o (len+ys.length) L k, .set n (.vec e k (cs.take (o+len)++ys++cs.drop (o+len+ys.length))))
         else bif o==0&&len==L&&cd (L+ys.length) maxLen&&cd ((L+ys.length)*c9) 140737488355328 then some (.vec n o (len+ys.length) (L+ys.length) k, .set n (.vec e k (cs++ys)))else none
         else none
        |_,_=>none
       |_,_=>none
      |_,_,_=>none
     |_,_=>none
   |_=>none
 |_=>none
theorem On{ρ:Operand→AV}{d n:Nat}{x:Option Operand}(h:lW ρ d x=some n):∃z,oM ρ d x=some z∧0≤z∧z.toNat=n:=by
 cases x with
 |none=>cases h;exact⟨d,rfl,Int.natCast_nonneg _,rfl⟩
 |some y=>
  unfold lW at h;simp only at h;split at h
  ·next z e=>exact⟨z,e,nm h⟩
  ·cases h
theorem Iu{P:Program}{op:Op}{ρ:Operand→AV}{h:List ak}{x:AV}{d:HD}(h1:Cq P op ρ h=some (x,d)):∃a p,fm P op ρ h a=some (x,d.app h,p)∧p:=by
 unfold Cq at h1;split at h1
 ·next T y i=>
  split at h1
  ·next n o len L k z e k' e1 e2 e3=>
   split at h1
   ·next q b f1 f2=>
    obtain⟨hb,he⟩:=cV h1;cases he
    rw[agv,cZ]at hb;obtain⟨e5,cs⟩:=b;obtain⟨b1,b2⟩:=vw f2;obtain⟨z0,z1⟩:=nm f1;refine⟨.ix (o+q),_,by simp only[fm,e1,e2,e3,b1,hb.1,ahc,Bool.and_self,cond_true];rfl,?_⟩;exact⟨b2,z0,by omega,by rw[z1]⟩
   ·cases h1
  ·cases h1
 ·next S y f=>
  split at h1
  ·next e1 e2=>cases h1;exact⟨.no,_,by simp only[fm,e1,e2];rfl,trivial⟩
  ·cases h1
 ·next y=>
  split at h1
  ·next e1=>cases h1;exact⟨.no,_,by simp only[fm,e1];rfl,trivial⟩
  ·cases h1
 ·next t p=>
  split at h1
  ·next n i j L k e1=>
   split at h1
   ·next e cs f1=>
    obtain⟨b1,b2⟩:=vw f1;split at h1
    ·next c f2=>
     split at h1
     ·next y f3=>cases h1;refine⟨.el c,_,by simp only[fm,e1,b1,f3,ahc,cond_true];rfl,?_⟩;exact⟨b2,f2⟩
     ·cases h1
    ·cases h1
   ·cases h1
  ·cases h1
 ·next t p y=>
  split at h1
  ·next n i j L k e1=>
   split at h1
   ·next e cs q f1 f2=>
    obtain⟨b1,b2⟩:=vw f1;split at h1
    ·next c f3=>
     obtain⟨hb,he⟩:=cV h1;cases he
     simp only[agv]at hb;refine⟨.st c (cs.set i (gy c j (ρ y).cells)),_,by simp only[fm,e1,b1,f2,ahc,hb.1.1.1,hb.1.1.2,hb.1.2,hb.2,Bool.and_self,cond_true];rfl,?_⟩;exact⟨b2,f3,(by first|rfl|trivial)⟩
    ·cases h1
   ·cases h1
  ·cases h1
 ·next T y lo hi=>
  split at h1
  ·next n o len L k e k' e1 e2=>
   split at h1
   ·next u l b f1 f2 f3=>
    obtain⟨hb,he⟩:=cV h1;cases he
    simp only[agv,cZ]at hb;obtain⟨e5,cs⟩:=b;obtain⟨b1,b2⟩:=vw f3;obtain⟨zu,u1,u2,u3⟩:=On f1;obtain⟨zl,l1,l2,l3⟩:=On f2;have Oo:oM ρ 0 lo=some zl:=l1;refine⟨.ol (o+l) (u-l),_,by simp only[fm,e1,e2,Oo,u1,b1,hb.1.1,ahc,Bool.and_self,cond_true];rfl,?_⟩;exact⟨b2,l2,by omega,by omega,by rw[l3],by rw[l3,u3]⟩
   ·cases h1
  ·cases h1
 ·next T l c=>
  split at h1
  ·next e k zl zc e1 e2 e3=>
   split at h1
   ·next z c9 f1 f2=>
    split at h1
    ·next len m g1 g2=>
     obtain⟨hb,he⟩:=cV h1;cases he
     simp only[agv,cZ]at hb;obtain⟨l1,l2⟩:=nm g1;obtain⟨c1,c2⟩:=nm g2;refine⟨.mk (List.replicate m (z.cells.toList.map fun u=> .d (.v u))) len m,_,by simp only[fm,e1,e2,e3,f1,f2,cZ.2 hb.1.1.1.1.1,hb.1.1.1.1.2,hb.1.1.1.2,Bool.and_self,cond_true];rfl,?_⟩;exact⟨l1,by omega,l2,c2,(by first|rfl|trivial),hb.1.2,hb.2⟩
    ·cases h1
   ·cases h1
  ·cases h1
 ·next c=>
  split at h1
  ·next hc=>
   split at h1
   ·next y T e1 e2=>
    split at h1
    ·next n o len L k f1=>
     split at h1
     ·next b f2=>
      obtain⟨e5,cs⟩:=b;obtain⟨b1,b2⟩:=vw f2;obtain⟨hb,he⟩:=cV h1;cases he
      refine⟨.no,_,by simp only[fm,hc,e1,e2,f1,b1,hb,ahc,Bool.and_self,cond_true];rfl,?_⟩;exact b2
     ·cases h1
    ·cases h1
   ·cases h1
  ·next hc=>
   split at h1
   ·next y z T U e1 e2=>
    split at h1
    ·next e k eU f1 f2 f3=>
     split at h1
     ·next zz c9 g1 g2=>
      split at h1
      ·next ys i2=>
       obtain⟨hb,he⟩:=cV h1;cases he
       simp only[agv,cZ,beq_iff_eq]at hb;have hs:=Tl i2;refine⟨.ap ys ys ys.length ys.length,_,by simp only[fm,hc,e1,e2,f1,f2,f3,g1,g2,cZ.2 hb.1.1.1,hb.1.1.2,ahc,Bool.and_self,cond_true];rfl,?_⟩;refine⟨?_,hs,?_,?_,?_,hb.1.2,hb.2⟩<;>first|rfl|trivial
      ·cases h1
     ·cases h1
    ·next e k eU n o len L k1 f1 f2 f3=>
     split at h1
     ·next zz c9 g1 g2=>
      split at h1
      ·next e5 cs ys i1 i2=>
       obtain⟨b1,b2⟩:=vw i1;obtain⟨hb,h1⟩:=gk h1;simp only[agv,cZ,beq_iff_eq]at hb;obtain⟨⟨⟨hb1,ju⟩,rfl⟩,rfl⟩:=hb;have hs:=Tl i2;rcases gZ h1 with⟨hl,h1⟩|⟨hl,h1⟩
       ·cases h1
        rw[cZ]at hl;refine⟨.ap (cs.take (o+len)++ys++cs.drop (o+len+ys.length)) ys L (len+ys.length),_,by simp only[fm,hc,e1,e2,f1,f2,f3,g1,g2,b1,cZ.2 hb1,ju,ahc,Bool.and_self,cond_true];rfl,?_⟩;exact⟨b2,hs,(by first|rfl|trivial), .inl ⟨hl,(by first|rfl|trivial),(by first|rfl|trivial)⟩⟩
       ·obtain⟨hb,he⟩:=cV h1;cases he
        simp only[agv,cZ,beq_iff_eq]at hb;obtain⟨⟨⟨rfl,rfl⟩,Aa⟩,DL⟩:=hb;refine⟨.ap (cs++ys) ys (len+ys.length) (len+ys.length),_,by simp only[fm,hc,e1,e2,f1,f2,f3,g1,g2,b1,cZ.2 hb1,ju,ahc,Bool.and_self,cond_true];rfl,?_⟩;exact⟨b2,hs,(by first|rfl|trivial), .inr ⟨(by first|rfl|trivial),(by first|rfl|trivial),(by first|rfl|trivial),(by first|rfl|trivial),Aa,DL⟩⟩
      ·cases h1
     ·cases h1
    ·cases h1
   ·cases h1
  ·cases h1
 ·cases h1
def dG(n:Nat)(t:List (Nat×AV)):List AV:=(List.range n).map (bz t)
theorem YV{n:Nat}{t:List (Nat×AV)}{i:Nat}{c:AV}(h:(dG n t)[i]?=some c):bz t i=c:=by
 unfold dG at h;rw[agA]at h;by_cases hi:i<n
 ·rw[List.getElem?_range hi]at h;exact agM h
 ·rw[agZ (by simpa using hi)]at h;cases h
def Ev(P:Program)(N0:Nat)(Q:Exit→St→Prop)(s:St):LS→Prop
 | .ready=>Q .normal s
 | .done c=>bH P none N0 c Q s
 | .busy=>False
theorem MW{P:Program}{N0:Nat}{s:St}{Q:Exit→St→Prop}{g:Operand}{p:Nat}{assign body:Code}{gf:FuncId}{dt:List AV}(hg:ev s g= .fn gf dt)
 (hc:bW P gf (.dj s.h.length::dt) (s.h++[.lp .ready p assign body (dG s.n s.t)]) fun _ h'=>∃(ls:LS)(p1:Nat)(jj jo:Code)(jS:List AV),h'[s.h.length]?=some (.lp ls p1 jj jo jS)∧Ev P N0 Q ⟨s.n,s.t,h'.set s.h.length .gone⟩ ls):
 bH P none N0 (.rangeFunc g #[p] assign body) Q s:=by
 constructor
 intro G w a n hs hN;have hv:=hs.ev g;rw[hg]at hv;obtain⟨lb,ea,hl,hr⟩:∃lb:Array Value,a.eval g= .func (.func gf) #[] lb∧lb.size=dt.length∧∀(i:Nat)(u:Value)(c:AV),lb[i]?=some u→dt[i]?=some c→aG G w u c:=by
  generalize a.eval g=u at hv;cases hv with|fn _ vs _ hl hr=>exact⟨vs,rfl,hl,hr⟩
 obtain⟨CB,jC⟩:=hc;refine wpIn_rangeFunc (F:=WF none) ?_;intro fn _;obtain⟨BF,PC⟩:=YJ hs.inv;obtain⟨G0,jM⟩:∃G0:Gh,G0={G with Z:=fun b=>G.Z b∨b=w.heap.size}:=⟨_,rfl⟩;obtain⟨w0,pC⟩:∃w0,w0=w.alloc (.deferred (some [])):=⟨_,rfl⟩;rw[←jM,←pC]at BF PC;have cJ:G0.N=G.N:=by rw[jM]
 have g7:w0.heap.size=w.heap.size+1:=by rw[pC];simp
 obtain⟨ia,ve,Ly⟩:=YA PC fn a.tmps w.heap.size p assign body (dG s.n s.t) (by simp [dG,hs.size]) fun i u c hu hc=>by
  have h9:=hs.tmp i;rw[YV hc]at h9;have e:a.tmps.getD i undef=u:=by
   have aO:=(agI.1 hu).1;rw[agP aO]at hu;simp [Array.getD,aO];exact agM hu
  rw[e]at h9;exact h9.ba BF (Nat.le_of_eq cJ.symm)
 obtain⟨w1,F8⟩:∃w1,w1=w0.alloc (.loop {state:= .ready,pending:=none,fn:=fn,tmps:=a.tmps,params:= #[p],assign:=assign,body:=body,defers:=w.heap.size}):=⟨_,rfl⟩;obtain⟨G1,MA⟩:∃G1:Gh,G1=G0.dD w0.heap.size:=⟨_,rfl⟩;rw[←F8,←MA]at ia ve Ly;have fJ:G1.N=G.N+1:=by rw[MA,←cJ];rfl
 have ZG:G1.bo s.h.length=w.heap.size+1:=by rw[MA,hs.inv.len,←cJ];simp [Gh.dD,g7]
 rw[g7]at Ly;have Qy:bZ G.N G w G1 w1:=BF.trans (ia.less (Nat.le_of_eq cJ.symm));refine⟨w.heap.size+1,[{target:= .collected w.heap.size,args:= #[]}],w1,{target:= .fn (.func gf) lb,args:= #[.func (.yield (w.heap.size+1)) #[] #[]]},w1,gf, #[.func (.yield (w.heap.size+1)) #[] #[]]++lb,w1,?_,?_,fun _ _=>trivial,?_,fun h=>(by simp [WF,Fence.wide]at h),?_⟩
 ·rw[F8,pC];exact run_enterLoop_outer _ _ _ _ _
 ·simp only[resolve,ea];simp [Deferred.ofValue,go_sem]
 ·simp [invoke,NU CB]
 have hK:=jC G1 w1 (#[.func (.yield (w.heap.size+1)) #[] #[]]++lb) ve (by simp [hl];omega) (fun i u c hu hc=>by
  match i with
  |0=>
   rw[Array.getElem?_append_left (by simp)]at hu;simp at hu hc;subst hu;subst hc;exact Ly
  |i+1=>
   rw[Array.getElem?_append_right (by simp)]at hu;simp at hu hc;exact(hr i u c hu hc).ba Qy (by rw[fJ];exact Nat.le_succ _))
 refine CallsIn.mono (F:=WF none) (callsIn_wide (n:=n-1).2 hK) ?_;rintro e w2 ⟨v,G2,r,h',rfl,gY,HK,Hz,_,ls,p1,jj,jo,jS,hk,Dc⟩;have zU:s.h.length<G1.N:=by rw[hs.inv.len,fJ];exact ahf _
 have GB:G2.bo s.h.length=w.heap.size+1:=(gY.bo _ zU).trans ZG;obtain⟨_,Yi,tm2,D2,g3,g4,g5,NB⟩:=Gm Hz hk;rw[GB]at g3;have hEa:bZ G.N G w G2 w2:=Qy.trans (gY.less (by rw[fJ];exact Nat.le_succ _));have FJ:G.N≤G2.N:=by rw[fJ]at HK;omega
 obtain⟨ob,lG⟩:∃ob:Obj,ob= .loop {state:= .exhausted,pending:=ls.pd,fn:=Yi,tmps:=tm2,params:= #[p1],assign:=jj,body:=jo,defers:=D2}:=⟨_,rfl⟩;obtain⟨zE,zI⟩:=V2 Hz hk ob;rw[GB]at zE zI;have Dv:bZ G.N G w G2 (w2.putObj (w.heap.size+1) ob):=hEa.trans (zE.less FJ);have hM:=hs.inv.gl.2;have KF:G0.Z w.heap.size:=by rw[jM];exact .inr rfl
 have PK:G2.Z w.heap.size:=gY.Z.1.1 _ (ia.Z.1.1 _ KF);have hDh:(w2.putObj (w.heap.size+1) ob).heap[w.heap.size]?=some (.deferred (some [])):=by
  rw[zE.old _ PK,gY.old _ (ia.Z.1.1 _ KF),ia.old _ KF,pC];exact World.alloc_heap_new w _
 have cM:c7 G2 (w2.putObj (w.heap.size+1) ob) {a with defers:=[{target:= .collected w.heap.size,args:= #[]}]++a.defers} ⟨s.n,s.t,h'.set s.h.length .gone⟩:=by
  refine⟨hs.size,fun i=>(hs.tmp i).ba Dv FJ,zI,?_⟩;obtain⟨l,l1,l2,l3⟩:=hs.df.ba Dv;obtain⟨l',Oo,PJ,Wo⟩:=hs.df;have iR:l=l':=by
   rw[l2]at PJ;have WY:∀(x y:List Nat),x.map (fun D=>({target:= .collected D,args:= #[]}:Deferred))=y.map (fun D=>{target:= .collected D,args:= #[]})→x=y:=by
     intro x
     induction x with
     |nil=>intro y h;cases y with
      |nil=>rfl
      |cons b y=>simp at h
     |cons a x ih=>intro y h;cases y with
      |nil=>simp at h
      |cons b y=>simp at h;rw[h.1,ih y (by simpa using h.2)]
   exact WY _ _ PJ
  refine⟨w.heap.size::l,?_,by rw[agS,←l2];rfl,fun D hD=> ?_⟩
  ·rw[List.nodup_cons];exact⟨fun h=>ag7 _ (hs.inv.z _ (Wo _ (iR▸h)).2.1),l1⟩
  ·rcases agX.1 hD with rfl|hD
   ·exact⟨by rw[Dv.Z.2];exact hM,PK,hDh⟩
   ·exact l3 D hD
 subst lG;have A4:=fun hb=>run_endLoop (P:=P) g3 hb;cases ls with
 |busy=>exact Dc.elim
 |ready=>
  refine⟨_,_,A4 (by simp [LS.st]),?_⟩;exact⟨G2,_,Dv.less hN,agL hN FJ,cM,Dc⟩
 |done c=>
  refine⟨_,_,A4 (by simp [LS.st]),?_⟩;refine wpIn_mono (Dc.run G2 _ _ n (cM) (agL hN FJ)) fun _ _ _ hn=> ?_;exact hn.trans (Dv.less hN)
theorem ae6{P:Program}{N0:Nat}{s:St}{Q:Exit→St→Prop}{g:Operand}{p:Nat}{assign body:Code}{gf:FuncId}{dt:List AV}{h1:List ak}{ls:LS}{p1:Nat}{jj jo:Code}{jS:List AV}(hg:ev s g= .fn gf dt)
 (hc:bW P gf (.dj s.h.length::dt) (s.h++[.lp .ready p assign body (dG s.n s.t)]) fun _ h'=>h'=h1)
 (hk:h1[s.h.length]?=some (.lp ls p1 jj jo jS)) (Dc:Ev P N0 Q ⟨s.n,s.t,h1.set s.h.length .gone⟩ ls):bH P none N0 (.rangeFunc g #[p] assign body) Q s:=
 MW hg (hc.mono fun _ h' e=>by subst e;exact⟨ls,p1,jj,jo,jS,hk,Dc⟩)
set_option linter.unusedSimpArgs false
set_option linter.unusedVariables false
mutual
theorem yM:∀x:AV,x.aR id=x
 | .agg cs=>by rw[AV.aR,rU cs]
 | .bX cs=>by rw[AV.aR,rU cs]
 | .fn f cs=>by rw[AV.aR,rU cs]
 | .own .. =>by simp [AV.aR]
 | .d _=>by simp [AV.aR]
 | .ptr .. =>by simp [AV.aR]
 | .bn .. =>by simp [AV.aR]
 | .full _=>by simp [AV.aR]
 | .row .. =>by simp [AV.aR]
 | .mp _=>by simp [AV.aR]
 | .dj _=>by simp [AV.aR]
 | .vec .. =>by simp [AV.aR]
 | .di .. =>by simp [AV.aR]
 | .hid _=>by simp [AV.aR]
 | .dead=>by simp [AV.aR]
theorem rU:∀l:List AV,AV.fi id l=l
 |[]=>by simp [AV.fi]
 |x::l=>by rw[AV.fi,yM x,rU l]
end
theorem HC(B:ak):B.aR id=B:=by
 cases B with
 |cells cs=>simp only[ak.aR,rU]
 |lp ls p as bd cs=>simp only[ak.aR,rU]
 |it sn cs=>simp only[ak.aR,rU]
 |vec e k cs=>simp only[ak.aR];congr 1;exact(agY fun x _=>rU x).trans (List.map_id _)
 |_=>rfl
theorem aG.low{G:Gh}{w:World}{u:Value}{x:AV}(h:aG G w u x):x.aS G.N=true:=by
 have lt:∀{n:Nat},n<G.N→(!cd G.N n)=true:=fun{n} hn=>by
  rw[Bool.not_eq_true',←Bool.not_eq_true,cZ];omega
 have fI:∀(vs:Array Value)(cs:List AV),vs.size=cs.length→(∀(i:Nat)(u:Value)(c:AV),vs[i]?=some u→cs[i]?=some c→c.aS G.N=true)→AV.mg G.N cs=true:=fun vs cs hl h=>by
  rw[mh,agT];intro c hc;obtain⟨i,hi,rfl⟩:=List.mem_iff_getElem.1 hc;exact h i vs[i] _ (agP (by omega)) (agx hi)
 induction h with
 |agg vs cs hl _ ih=>rw[AV.aS];exact fI vs cs hl ih
 |bX vs cs hl _ ih=>rw[AV.aS];exact fI vs cs hl ih
 |fn f vs cs hl _ ih=>rw[AV.aS];exact fI vs cs hl ih
 |ptr n off h=>rw[AV.aS];exact lt h
 |own n xs h=>rw[AV.aS];exact lt h
 |row n off len cap k h=>rw[AV.aS];exact lt h
 |mp n h=>rw[AV.aS];exact lt h
 |dj n h=>rw[AV.aS];exact lt h
 |vec n o len L k h=>rw[AV.aS];exact lt h
 |di n i j L k h=>rw[AV.aS];exact lt h
 |_=>simp [AV.aS]
def ir(N0:Nat)(s s':St):Prop:=∀(G:Gh)(w:World)(a:Act),N0≤G.N→c7 G w a s→∃G',bZ N0 G w G' w∧N0≤G'.N∧c7 G' w a s'
theorem ir.refl(N0:Nat)(s:St):ir N0 s s:=fun G _ _ hN hs=>⟨G,bZ.refl _ _ _,hN,hs⟩
theorem ir.trans{N0:Nat}{s1 s2 s3:St}(h:ir N0 s1 s2)(k:ir N0 s2 s3):ir N0 s1 s3:=fun G w a hN hs=>by
 obtain⟨G1,e1,n1,h1⟩:=h G w a hN hs;obtain⟨G2,e2,n2,h2⟩:=k G1 w a n1 h1;exact⟨G2,e1.trans e2,n2,h2⟩
theorem ir.of_eq{N0:Nat}{s s':St}(h:iB s s'):ir N0 s s':=fun G _ _ hN hs=>
 ⟨G,bZ.refl _ _ _,hN,hs.size.trans h.n,fun i=>by rw[←h.t i];exact hs.tmp i,by rw[←h.h];exact hs.inv,hs.df⟩
theorem ir.aR{N0:Nat}{s s':St}(σ τ:Nat→Nat)(hn:s.n=s'.n)(hlen:s'.h.length=s.h.length)(aO:∀i,i<s.h.length→σ i<s.h.length)(hτ:∀i,i<s.h.length→τ i<s.h.length)
 (rR:∀i,i<s.h.length→τ (σ i)=i) (fE:∀i,i<s.h.length→σ (τ i)=i) (vj:∀i,i<N0→σ i=i)
 (ht:∀i,(bz s.t i).aS s.h.length=true→bz s'.t i=(bz s.t i).aR σ∨bz s'.t i= .dead) (hh:∀i,i<s.h.length→s'.h[σ i]?=(s.h[i]?).map (ak.aR σ)):ir N0 s s':=fun G w a hN hs=>by
 have hl:s.h.length=G.N:=hs.inv.len;rw[hl]at aO hτ rR fE hh hlen ht;have Mx:∀i,i<N0→τ i=i:=fun i hi=>by
  have h1:=rR i (by omega);rw[vj i hi]at h1;exact h1
 let G':Gh:={G with bo:=fun n=>G.bo (τ n),sg:=fun n=>G.sg (τ n),ow:=fun n=>G.ow (τ n),fl:=fun n=>G.fl (τ n)}
 have hR:pn σ G G':=⟨aO,fun n h=>by show G.bo (τ (σ n))=_;rw[rR n h],fun n h=>by show G.sg (τ (σ n))=_;rw[rR n h],fun n h=>by show G.fl (τ (σ n))=_;rw[rR n h],fun n h=>by show G.ow (τ (σ n))=_;rw[rR n h],fun _ _=>Iff.rfl⟩;have hE:bZ N0 G w G' w:=⟨agE _,fun _ _ h=>h,fun _ _ _=>rfl,fun n h=>by show G.bo (τ n)=_;rw[Mx n h],fun n h=> .inl ⟨by show G.fl (τ n)=_;rw[Mx n h],by show G.sg (τ n)=_;rw[Mx n h]⟩,gq rfl,fun _ _=>rfl,rfl,rfl,rfl,fun _ _ h=> .inl h⟩;have e8:∀(n:Nat)(B:ak),s'.h[n]?=some B→∃m B0,m<G.N∧σ m=n∧s.h[m]?=some B0∧B=B0.aR σ:=fun n B hB=>by
  have eS:n<G.N:=by have:=(agt.1 hB).1;omega
  have h1:=hh (τ n) (hτ n eS);rw[fE n eS,hB]at h1;cases h2:s.h[τ n]? with
  |none=>rw[h2]at h1;cases h1
  |some B0=>rw[h2]at h1;cases h1;exact⟨τ n,B0,hτ n eS,fE n eS,h2,rfl⟩
 have eh:∀(n b:Nat),cl s'.h G' n=some b→∃m,m<G.N∧σ m=n∧cl s.h G m=some b:=fun n b hb=>by
  obtain⟨B,hB,hb⟩:=kI hb;obtain⟨m,B0,k1,k2,k3,rfl⟩:=e8 n B hB;subst k2;rw[LJ hR k1]at hb;exact⟨m,k1,rfl,by rw[dU k3];exact hb⟩
 refine⟨G',hE,hN,hs.size.trans hn,fun i=> ?_,⟨hlen,hs.inv.z,hs.inv.S,fun n B hB=> ?_,fun m n b hm eS=> ?_,hs.inv.gl.ba hE⟩,hs.df.ba hE⟩
 ·have hv:=hs.tmp i;rcases ht i hv.low with e|e
  ·rw[e];exact hv.aR hR
  ·rw[e];exact .dead _
 ·obtain⟨m,B0,k1,k2,k3,rfl⟩:=e8 n B hB;subst k2;have hb:=hs.inv.dp m B0 k3;exact eB.aR hR k1 (fun b h1=>hb.lv h1) hb
 ·obtain⟨m',k1,k2,k3⟩:=eh m b hm;obtain⟨n',j1,j2,j3⟩:=eh n b eS;have:=hs.inv.inj m' n' b k3 j3;rw[←k2,←j2,this]
def JU:Value→Value→Bool
 | .bool a, .bool b=>a==b
 | .int k a, .int l b=>decide (k=l)&&decide (a=b)
 | .string a, .string b=>bL a==bL b
 | .pointer none, .pointer none=>true
 | .slice none a b, .slice none c d=>a==c&&b==d
 | .map none, .map none=>true
 | .nilFunc, .nilFunc=>true
 | .nilIface, .nilIface=>true
 | .tuple a, .tuple b=>a.size==0&&b.size==0
 |_,_=>false
theorem afz{u v:Value}(h:JU u v=true):u=v:=by
 unfold JU at h;split at h
 ·rw[beq_iff_eq]at h;subst h;rfl
 ·rw[agv,decide_eq_true_eq,decide_eq_true_eq]at h;obtain⟨h1,h2⟩:=h;subst h1;subst h2;rfl
 ·rw[beq_iff_eq]at h;rw[L7 h]
 ·rfl
 ·rw[agv,beq_iff_eq,beq_iff_eq]at h;obtain⟨h1,h2⟩:=h;subst h1;subst h2;rfl
 ·rfl
 ·rfl
 ·rfl
 ·rw[agv,beq_iff_eq,beq_iff_eq]at h;rw[Array.eq_empty_of_size_eq_zero h.1,Array.eq_empty_of_size_eq_zero h.2]
 ·cases h
mutual
def D.tJ:D→D→Bool
 | .v a, .v b=>JU a b
 | .sl xs, .sl ys=>D.qk xs ys
 |_,_=>false
def D.qk:List (List D)→List (List D)→Bool
 |[],[]=>true
 |x::xs,y::ys=>D.yu x y&&D.qk xs ys
 |_,_=>false
def D.yu:List D→List D→Bool
 |[],[]=>true
 |x::xs,y::ys=>D.tJ x y&&D.yu xs ys
 |_,_=>false
end
mutual
theorem D.Iz:∀x y:D,D.tJ x y=true→x=y
 | .v a, .v b,h=>by rw[D.tJ]at h;rw[afz h]
 | .sl xs, .sl ys,h=>by rw[D.tJ]at h;rw[D.Cl xs ys h]
 | .v _, .sl _,h=>by simp [D.tJ]at h
 | .sl _, .v _,h=>by simp [D.tJ]at h
theorem D.Cl:∀x y:List (List D),D.qk x y=true→x=y
 |[],[],_=>rfl
 |x::xs,y::ys,h=>by rw[D.qk,agv]at h;rw[D.Rb x y h.1,D.Cl xs ys h.2]
 |[],_::_,h=>by simp [D.qk]at h
 |_::_,[],h=>by simp [D.qk]at h
theorem D.Rb:∀x y:List D,D.yu x y=true→x=y
 |[],[],_=>rfl
 |x::xs,y::ys,h=>by rw[D.yu,agv]at h;rw[D.Iz x y h.1,D.Rb xs ys h.2]
 |[],_::_,h=>by simp [D.yu]at h
 |_::_,[],h=>by simp [D.yu]at h
end
mutual
def AV.fj(σ:Nat→Nat):AV→AV→Bool
 | .d x,y=>(match y with| .d y=>D.tJ x y|_=>false)
 | .agg a,y=>(match y with| .agg b=>AV.nT σ a b|_=>false)
 | .bX a,y=>(match y with| .bX b=>AV.nT σ a b|_=>false)
 | .fn f a,y=>(match y with| .fn g b=>f==g&&AV.nT σ a b|_=>false)
 | .ptr n o,y=>(match y with| .ptr m p=>σ n==m&&o==p|_=>false)
 | .bn xs i o,y=>(match y with| .bn ys j p=>D.qk xs ys&&(i==j&&o==p)|_=>false)
 | .own n xs,y=>(match y with| .own m ys=>σ n==m&&D.qk xs ys|_=>false)
 | .full xs,y=>(match y with| .full ys=>D.qk xs ys|_=>false)
 | .row n i1 i2 i3 i4,y=>(match y with| .row m j1 j2 j3 j4=>σ n==m&&(i1==j1&&(i2==j2&&(i3==j3&&i4==j4)))|_=>false)
 | .mp n,y=>(match y with| .mp m=>σ n==m|_=>false)
 | .dj n,y=>(match y with| .dj m=>σ n==m|_=>false)
 | .vec n i1 i2 i3 i4,y=>(match y with| .vec m j1 j2 j3 j4=>σ n==m&&(i1==j1&&(i2==j2&&(i3==j3&&i4==j4)))|_=>false)
 | .di n i1 i2 i3 i4,y=>(match y with| .di m j1 j2 j3 j4=>σ n==m&&(i1==j1&&(i2==j2&&(i3==j3&&i4==j4)))|_=>false)
 | .dead,y=>(match y with| .dead=>true|_=>false)
 | .hid _,_=>false
def AV.nT(σ:Nat→Nat):List AV→List AV→Bool
 |[],y=>(match y with|[]=>true|_=>false)
 |x::xs,l=>(match l with|y::ys=>AV.fj σ x y&&AV.nT σ xs ys|_=>false)
end
mutual
theorem AV.E3(σ:Nat→Nat):∀x y:AV,AV.fj σ x y=true→y=x.aR σ
 | .d x,y,h=>by
   cases y with
   |d y=>simp only[AV.fj,agv,beq_iff_eq]at h;rw[AV.aR,D.Iz _ _ h]
   |_=>simp [AV.fj]at h
 | .agg a,y,h=>by
   cases y with
   |agg b=>simp only[AV.fj,agv,beq_iff_eq]at h;rw[AV.aR,AV.vv σ _ _ h]
   |_=>simp [AV.fj]at h
 | .bX a,y,h=>by
   cases y with
   |bX b=>simp only[AV.fj,agv,beq_iff_eq]at h;rw[AV.aR,AV.vv σ _ _ h]
   |_=>simp [AV.fj]at h
 | .fn f a,y,h=>by
   cases y with
   |fn g b=>simp only[AV.fj,agv,beq_iff_eq]at h;rw[AV.aR,AV.vv σ _ _ h.2,h.1]
   |_=>simp [AV.fj]at h
 | .ptr n o,y,h=>by
   cases y with
   |ptr m p=>simp only[AV.fj,agv,beq_iff_eq]at h;rw[AV.aR,h.1,h.2]
   |_=>simp [AV.fj]at h
 | .bn xs i o,y,h=>by
   cases y with
   |bn ys j p=>simp only[AV.fj,agv,beq_iff_eq]at h;rw[AV.aR,D.Cl _ _ h.1,h.2.1,h.2.2]
   |_=>simp [AV.fj]at h
 | .own n xs,y,h=>by
   cases y with
   |own m ys=>simp only[AV.fj,agv,beq_iff_eq]at h;rw[AV.aR,D.Cl _ _ h.2,h.1]
   |_=>simp [AV.fj]at h
 | .full xs,y,h=>by
   cases y with
   |full ys=>simp only[AV.fj,agv,beq_iff_eq]at h;rw[AV.aR,D.Cl _ _ h]
   |_=>simp [AV.fj]at h
 | .row n i1 i2 i3 i4,y,h=>by
   cases y with
   |row m j1 j2 j3 j4=>simp only[AV.fj,agv,beq_iff_eq]at h;rw[AV.aR,h.1,h.2.1,h.2.2.1,h.2.2.2.1,h.2.2.2.2]
   |_=>simp [AV.fj]at h
 | .vec n i1 i2 i3 i4,y,h=>by
   cases y with
   |vec m j1 j2 j3 j4=>simp only[AV.fj,agv,beq_iff_eq]at h;rw[AV.aR,h.1,h.2.1,h.2.2.1,h.2.2.2.1,h.2.2.2.2]
   |_=>simp [AV.fj]at h
 | .di n i1 i2 i3 i4,y,h=>by
   cases y with
   |di m j1 j2 j3 j4=>simp only[AV.fj,agv,beq_iff_eq]at h;rw[AV.aR,h.1,h.2.1,h.2.2.1,h.2.2.2.1,h.2.2.2.2]
   |_=>simp [AV.fj]at h
 | .mp n,y,h=>by
   cases y with
   |mp m=>simp only[AV.fj,agv,beq_iff_eq]at h;rw[AV.aR,h]
   |_=>simp [AV.fj]at h
 | .dj n,y,h=>by
   cases y with
   |dj m=>simp only[AV.fj,agv,beq_iff_eq]at h;rw[AV.aR,h]
   |_=>simp [AV.fj]at h
 | .dead,y,h=>by
   cases y with
   |dead=>rw[AV.aR]
   |_=>simp [AV.fj]at h
 | .hid _,y,h=>by simp [AV.fj]at h
theorem AV.vv(σ:Nat→Nat):∀x y:List AV,AV.nT σ x y=true→y=AV.fi σ x
 |[],y,h=>by
  cases y with
  |nil=>rw[AV.fi]
  |cons=>simp [AV.nT]at h
 |x::xs,l,h=>by
  cases l with
  |nil=>simp [AV.nT]at h
  |cons y ys=>simp only[AV.nT,agv]at h;rw[AV.fi,AV.E3 σ _ _ h.1,AV.vv σ _ _ h.2]
end
def ze:List (ByteArray×D)→List (ByteArray×D)→Bool
 |[],[]=>true
 |(k,d)::l,(k',d')::l'=>bL k==bL k'&&D.tJ d d'&&ze l l'
 |_,_=>false
theorem Nj:∀x y,ze x y=true→x=y
 |[],[],_=>rfl
 |(k,d)::l,(k',d')::l',h=>by
  rw[ze,agv,agv]at h;rw[L7 (beq_iff_eq.1 h.1.1),D.Iz _ _ h.1.2,Nj l l' h.2]
 |[],_::_,h=>by simp [ze]at h
 |_::_,[],h=>by simp [ze]at h
def Au(σ:Nat→Nat):List (List AV)→List (List AV)→Bool
 |[],[]=>true
 |x::xs,y::ys=>AV.nT σ x y&&Au σ xs ys
 |_,_=>false
theorem U4(σ:Nat→Nat):∀x y,Au σ x y=true→y=x.map (AV.fi σ)
 |[],[],_=>rfl
 |x::xs,y::ys,h=>by
  rw[Au,agv]at h;rw[agS,AV.vv σ x y h.1,U4 σ xs ys h.2]
 |[],_::_,h=>by simp [Au]at h
 |_::_,[],h=>by simp [Au]at h
def ak.fj(σ:Nat→Nat):ak→ak→Bool
 | .cells a,y=>(match y with| .cells b=>AV.nT σ a b|_=>false)
 | .front e k l,y=>(match y with| .front e' k' l'=>e==e'&&(k==k'&&l==l')|_=>false)
 | .vec e k cs,y=>(match y with| .vec e' k' ds=>e==e'&&(k==k'&&Au σ cs ds)|_=>false)
 | .map kv,y=>(match y with| .map Xb=>ze kv Xb|_=>false)
 | .it sn cs,y=>(match y with| .it sn' ds=>sn==sn'&&AV.nT σ cs ds|_=>false)
 | .gone,y=>(match y with| .gone=>true|_=>false)
 | .lp ..,_=>false
theorem ak.E3(σ:Nat→Nat)(x y:ak)(h:ak.fj σ x y=true):y=x.aR σ:=by
 cases x<;>cases y<;>simp only[ak.fj,agv,beq_iff_eq,Bool.false_eq_true]at h
 ·rw[ak.aR,AV.vv σ _ _ h]
 ·rw[ak.aR,h.1,h.2.1,h.2.2]
 ·rw[ak.aR,h.1,h.2.1,U4 σ _ _ h.2.2]
 ·rw[ak.aR,Nj _ _ h]
 ·rw[ak.aR,h.1,AV.vv σ _ _ h.2]
 ·rfl
def fk(h0:Nat)(p:List Nat)(i:Nat):Nat:=bif cd h0 i then p.getD (i-h0) i else i
def yY(ts zi:List (Nat×AV))(ks:List Nat)(i:Nat):Nat:=
 match ks with
 |[]=>i
 |d::ks=>match bz ts d,bz zi d with
  | .ptr n _, .ptr m _=>bif n==i then m else yY ts zi ks i
  | .own n _, .own m _=>bif n==i then m else yY ts zi ks i
  | .vec n _ _ _ _, .vec m _ _ _ _=>bif n==i then m else yY ts zi ks i
  | .mp n, .mp m=>bif n==i then m else yY ts zi ks i
  |_,_=>yY ts zi ks i
def CZ(s s':St)(ks:List Nat)(h0:Nat):Nat→List Nat
 |0=>[]
 |k+1=>yY s.t s'.t ks h0::CZ s s' ks (h0+1) k
def U5(h0:Nat)(ks:List Nat)(s s':St)(p q:List Nat):Bool:=
 (s'.h.length==s.h.length)&&(((List.range s.h.length).all fun i=>cd (fk h0 p i+1) s.h.length&&cd (fk h0 q i+1) s.h.length&&fk h0 q (fk h0 p i)==i&&fk h0 p (fk h0 q i)==i)&&(ks.all (fun d=>AV.fj (fk h0 p) (bz s.t d) (bz s'.t d))&&
  ((List.range s.h.length).all fun i=>match s.h[i]?,s'.h[fk h0 p i]? with
    |some B,some B'=>ak.fj (fk h0 p) B B'
    |_,_=>false)))
def K4(h0:Nat)(ks:List Nat)(s s':St):Bool:=U5 h0 ks s s' (CZ s s' ks h0 (s.h.length-h0)) (CZ s' s ks h0 (s.h.length-h0))
structure jh(ks:List Nat)(s0 s:St):Prop where
 n:s.n=s0.n
 t:∀d,d ∉ ks→bz s.t d=bz s0.t d
theorem jh.refl(ks:List Nat)(s:St):jh ks s s:=⟨rfl,fun _ _=>rfl⟩
theorem jh.put{ks:List Nat}{s0 s:St}(h:jh ks s0 s)(h1:List ak){d:Option Nat}(x:AV)(hd:∀k,d=some k→k∈ks):jh ks s0 ((s.wh h1).put d x):=
 ⟨by rw[om];exact h.n,fun i hi=>by
  rw[pN,if_neg]
  ·exact h.t i hi
  ·rintro⟨e,_⟩;exact hi (hd i e)⟩
theorem afD{N0 h0:Nat}{ks:List Nat}{s0 s s':St}(hN:N0≤h0)(kK:∀i,(bz s0.t i).aS h0=true)(hb:jh ks s0 s)(fU:jh ks s0 s')(h:K4 h0 ks s s'=true):ir N0 s s':=by
 unfold K4 at h;generalize CZ s s' ks h0 (s.h.length-h0)=p at h;generalize CZ s' s ks h0 (s.h.length-h0)=q at h;unfold U5 at h;simp only[agv,beq_iff_eq,agT,List.mem_range,cZ]at h;obtain⟨h1,h2,h3,h4⟩:=h;have vj:∀i,i<h0→fk h0 p i=i:=fun i hi=>by
  unfold fk;have:cd h0 i=false:=by rw[←Bool.not_eq_true,cZ];omega
  rw[this];rfl
 refine ir.aR (fk h0 p) (fk h0 q) (hb.n.trans fU.n.symm) h1 (fun i hi=>(h2 i hi).1.1.1) (fun i hi=>(h2 i hi).1.1.2) (fun i hi=>(h2 i hi).1.2) (fun i hi=>(h2 i hi).2) (fun i hi=>vj i (by omega)) (fun i _=> ?_) fun i hi=> ?_
 ·left
  by_cases hk:i∈ks
  ·exact AV.E3 _ _ _ (h3 i hk)
  ·rw[hb.t i hk,fU.t i hk,rm (τ:=id) vj _ (kK i),yM]
 ·have h5:=h4 i hi;split at h5
  ·next B B' e1 e2=>rw[e1,e2,ak.E3 _ _ _ h5];rfl
  ·cases h5
def yj(N0:Nat)(K:St→Prop):Prop:=∀s s',ir N0 s s'→K s'→K s
theorem yj.c{N0:Nat}{K:St→Prop}(h:yj N0 K):rT K:=fun s s' e hk=>h s' s (ir.of_eq e.symm) hk
theorem KM{P:Program}{r:Option Nat}{N0:Nat}{s:St}{Q:Exit→St→Prop}{m:Bool}{id:Nat}{ops:Array Oper}(hm:P.follows .mixedOrders=true)
 (h:N0≤s.h.length→(∀i,(bz s.t i).aS s.h.length=true)→ly m P ops (fun s1=>∃s2,ir N0 s1 s2∧Q .normal s2) ops.size (Array.replicate ops.size false) s):bH P r N0 (.region id ops true) Q s:=by
 constructor
 intro G w a n hs hN;obtain⟨d1,d2⟩:=hs.drew;refine wpIn_region_any hm ?_;have hl:=hs.inv.len;refine BM (G:=G) (w:=w) (N0:=N0) (K:=fun s1=>∃s2,ir N0 s1 s2∧Q .normal s2) (fun a' w' hn=> ?_) ops.size _ G _ a s (d1.less hN) hN d2 (h (by omega) fun i=>by rw[hl];exact(hs.tmp i).low);obtain⟨G',s',x1,x2,x3,s2,e0,x4⟩:=hn;obtain⟨G2,y1,y2,y3⟩:=e0 G' w' a' x2 x3;exact⟨G2,s2,x1.trans y1,y2,y3,x4⟩
theorem Mp{N0:Nat}(Q:St→Prop):yj N0 (fun s1=>∃s2,ir N0 s1 s2∧Q s2):=fun _ _ h ⟨s2,h1,h2⟩=>⟨s2,h.trans h1,h2⟩
def xT(f:Nat→Bool):Nat→Nat
 |0=>0
 |n+1=>bif f n then xT f n|||(1<<<n)else xT f n
theorem CD(f:Nat→Bool):∀(n j:Nat),Nat.testBit (xT f n) j=(decide (j<n)&&f j)
 |0,j=>by simp [xT]
 |n+1,j=>by
  unfold xT;have ih:=CD f n j;cases hf:f n with
  |true=>
   simp only[cond_true,Nat.testBit_or,ih,Nat.one_shiftLeft,Nat.testBit_two_pow];by_cases e:n=j
   ·subst e;simp [hf]
   ·have:decide (j<n+1)=decide (j<n):=by simp;omega
    rw[this];simp [e]
  |false=>
   simp only[cond_false,ih];by_cases e:n=j
   ·subst e;simp [hf]
   ·have:decide (j<n+1)=decide (j<n):=by simp;omega
    rw[this]
def fN{α:Type}(n:Nat)(f:Nat→α):α:=Nat.casesOn (Nat.succ n) (f 0) f
theorem ox{α:Type}(n:Nat)(f:Nat→α):fN n f=f n:=rfl
def fL{α:Type}:List Nat→(List Nat→α)→α
 |[],f=>f []
 |n::l,f=>fN n fun n=>fL l fun l=>f (n::l)
theorem ra{α:Type}:∀(l:List Nat)(f:List Nat→α),fL l f=f l
 |[],_=>rfl
 |n::l,f=>by rw[fL,ox,ra l]
section
variable (ops:Array Oper)
def zM(o:Oper)(n j:Nat):Bool:=o.after.any fun e=>Region.binds .any e&&(e.on==j||(j==n&&cd n e.on))
def HP(k:Nat):Nat:=match ops[k]? with
 |some o=>xT (zM o ops.size) (ops.size+1)
 |none=>1<<<ops.size
def JG(m:Bool)(M:Array Nat)(k j:Nat):Bool:= !(j==k)&&(!((M.getD j 0).testBit k)&&match ops[k]?,ops[j]? with
 |some oi,some oj=> !(oi.apart ops oj&&yE m oi oj)
 |_,_=>true)
def sO(m:Bool)(M:Array Nat)(k:Nat):Nat:=xT (JG ops m M k) ops.size
def mH:Nat→Nat→List Nat
 |_,0=>[]
 |k,n+1=>HP ops k::mH (k+1) n
def lN(m:Bool)(M:Array Nat):Nat→Nat→List Nat
 |_,0=>[]
 |k,n+1=>sO ops m M k::lN m M (k+1) n
end
def nY:List Nat→Nat→Nat→List Nat
 |[],_,_=>[]
 |a::A,L,k=>bif !(Nat.testBit L k)&&(L&&&a==a)then k::nY A L (k+1)else nY A L (k+1)
def yA(C:List Nat)(L:Nat):List Nat→Option Nat
 |[]=>none
 |k::r=>bif (C.getD k 0)|||L==L then some k else yA C L r
section
variable (ops:Array Oper) (st:Oper→St→Option St) (h0:Nat) (ks A C:List Nat)
def nf:Nat→Nat→St→Option St
 |0,L,s=>match nY A L 0 with
  |[]=>some s
  |_=>none
 |f+1,L,s=>match nY A L 0 with
  |[]=>some s
  |k0::r=>match yA C L (k0::r)with
   |some k=>match ops[k]? with
    |some o=>match st o s with
     |some s1=>fN (L|||(1<<<k)) fun L=>nf f L s1
     |none=>none
    |none=>none
   |none=>match ops[k0]? with
    |some o=>match st o s with
     |some s1=>match (fN (L|||(1<<<k0)) fun L=>nf f L s1)with
      |some s2=>bif r.all (fun k=>match ops[k]? with
       |some o=>match st o s with
        |some s1=>match (fN (L|||(1<<<k)) fun L=>nf f L s1)with
         |some s3=>K4 h0 ks s3 s2
         |none=>false
        |none=>false
       |none=>false)then some s2 else none
      |none=>none
     |none=>none
    |none=>none
def jV:List Oper→List Nat
 |[]=>[]
 |o::l=>match o.dst with
  |some d=>d::jV l
  |none=>jV l
end
def Bk(ops:Array Oper)(st:Oper→St→Option St)(s:St):Option St:=
 bif nQ (Region.before ops) ops then fL (mH ops 0 ops.size) fun A=>fL (lN ops true (Region.before ops) 0 ops.size) fun C=>fN s.h.length fun h0=>nf ops st h0 (jV ops.toList) A C ops.size 0 s else none
theorem Bw:∀{l:List Oper}{o:Oper},o∈l→∀d,o.dst=some d→d∈jV l
 |[],_,h,_,_=>by cases h
 |a::l,o,h,d,hd=>by
  unfold jV;rcases agX.1 h with rfl|h
  ·rw[hd];simp
  ·split
   ·exact agC _ (Bw h d hd)
   ·exact Bw h d hd
theorem Tr(ops:Array Oper):∀(n k i:Nat),(mH ops k n)[i]?=if i<n then some (HP ops (k+i))else none
 |0,k,i=>by simp [mH]
 |n+1,k,0=>by simp [mH]
 |n+1,k,i+1=>by rw[mH,ag4,Tr ops n (k+1) i];simp only[Nat.add_lt_add_iff_right];rw[show k+1+i=k+(i+1) by omega]
theorem Lu(ops:Array Oper)(m:Bool)(M:Array Nat):∀(n k i:Nat),(lN ops m M k n)[i]?=if i<n then some (sO ops m M (k+i))else none
 |0,k,i=>by simp [lN]
 |n+1,k,0=>by simp [lN]
 |n+1,k,i+1=>by rw[lN,ag4,Lu ops m M n (k+1) i];simp only[Nat.add_lt_add_iff_right];rw[show k+1+i=k+(i+1) by omega]
theorem OP{L:Nat}:∀(A:List Nat)(k i:Nat),i∈nY A L k↔k≤i∧Nat.testBit L i=false∧∃a,A[i-k]?=some a∧L&&&a=a
 |[],k,i=>by simp [nY]
 |a::A,k,i=>by
  have ih:=OP (L:=L) A (k+1) i;unfold nY;have key:i∈nY A L (k+1)↔k<i∧Nat.testBit L i=false∧∃b,(a::A)[i-k]?=some b∧L&&&b=b:=by
   rw[ih];constructor
   ·rintro⟨h1,h2,b,h3,h4⟩;refine⟨h1,h2,b,?_,h4⟩;rw[show i-k=(i-(k+1))+1 by omega,ag4];exact h3
   ·rintro⟨h1,h2,b,h3,h4⟩;refine⟨h1,h2,b,?_,h4⟩;rw[show i-k=(i-(k+1))+1 by omega,ag4]at h3;exact h3
  cases hb:(!(Nat.testBit L k)&&(L&&&a==a))with
  |true=>
   simp only[cond_true,agX,key];simp only[agv,Bool.not_eq_true',beq_iff_eq]at hb;constructor
   ·rintro(rfl|⟨h1,h2⟩)
    ·exact⟨agE _,hb.1,a,by simp,hb.2⟩
    ·exact⟨by omega,h2⟩
   ·rintro⟨h1,h2⟩;rcases Nat.lt_or_eq_of_le h1 with h|h
    ·exact .inr ⟨h,h2⟩
    ·exact .inl h.symm
  |false=>
   simp only[cond_false,key];constructor
   ·rintro⟨h1,h2⟩;exact⟨by omega,h2⟩
   ·rintro⟨h1,h2,b,h3,h4⟩;rcases Nat.lt_or_eq_of_le h1 with h|h
    ·exact⟨h,h2,b,h3,h4⟩
    ·subst h;simp at h3;subst h3;rw[h2]at hb;simp at hb;exact absurd h4 hb
theorem I1{C:List Nat}{L:Nat}:∀{r:List Nat}{k:Nat},yA C L r=some k→k∈r∧(C.getD k 0)|||L=L
 |[],k,h=>by cases h
 |a::r,k,h=>by
  unfold yA at h;cases hb:((C.getD a 0)|||L==L)with
  |true=>rw[hb]at h;cases h;exact⟨by simp,by simpa using hb⟩
  |false=>rw[hb]at h;have:=I1 h;exact⟨agC _ this.1,this.2⟩
structure LM(ops:Array Oper)(L:Nat)(listed:Array Bool):Prop where
 sz:listed.size=ops.size
 b:∀i,Nat.testBit L i=listed.getD i false
theorem LM.set{ops:Array Oper}{L:Nat}{listed:Array Bool}(h:LM ops L listed){k:Nat}(hk:k<ops.size):LM ops (L|||(1<<<k)) (listed.setIfInBounds k true):=by
 refine⟨by simp [h.sz],fun i=> ?_⟩;rw[Nat.testBit_or,Nat.one_shiftLeft,Nat.testBit_two_pow,h.b i];by_cases e:k=i
 ·subst e;have:k<listed.size:=by rw[h.sz];exact hk
  simp [this]
 ·rw[getD_set_ne false e];simp [e]
theorem LM.ready{ops:Array Oper}{L:Nat}{listed:Array Bool}(h:LM ops L listed)(i:Nat):i∈Region.ready .any ops listed↔i∈nY (mH ops 0 ops.size) L 0:=by
 rw[mem_ready,OP];simp only[Nat.zero_le,true_and,Nat.sub_zero,Tr,agN];have TN:∀j,ops.size≤j→Nat.testBit L j=false:=fun j hj=>by
   rw[h.b,Array.getD_eq_getD_getElem?,Array.getElem?_eq_none (by rw[h.sz];exact hj)];rfl
 constructor
 ·rintro⟨h1,o,ho,h2⟩;have hi:=(agI.1 ho).1;have Cu:listed.getD i false=false:=by
   have dR:i<listed.size:=by rw[h.sz];exact hi
   simpa [dR]using h1
  refine⟨by rw[h.b];exact Cu,_,by rw[if_pos hi],?_⟩;apply Nat.eq_of_testBit_eq;intro j;rw[Nat.testBit_and];unfold HP;rw[ho];simp only[CD];cases hb:(decide (j<ops.size+1)&&zM o ops.size j)with
  |false=>simp
  |true=>
   simp only[Bool.and_true];rw[agv]at hb;have hb:=hb.2;unfold zM at hb;rw[Array.any_eq_true']at hb;obtain⟨e,he,hb⟩:=hb;simp only[agv,Bool.or_eq_true,beq_iff_eq,cZ]at hb;have h3:=h2 e he hb.1;have:e.on<ops.size:=by
    rcases Nat.lt_or_ge e.on ops.size with hl|hl
    ·exact hl
    ·have:=TN e.on hl;rw[h.b]at this;rw[this]at h3;cases h3
   rcases hb.2 with hj|⟨_,hj⟩
   ·rw[←hj,h.b];exact h3
   ·omega
 ·rintro⟨h1,a,ha,h2⟩;split at ha
  ·next hi=>
   cases ha
   have ho:ops[i]?=some ops[i]:=agP hi;refine⟨?_,ops[i],ho,fun e he Jy=> ?_⟩
   ·rw[h.b]at h1;have dR:i<listed.size:=by rw[h.sz];exact hi
    simpa [dR]using h1
   ·have ju:∀j,j<ops.size+1→zM ops[i] ops.size j=true→Nat.testBit L j=true:=fun j hj hf=>by
     have:=congrArg (fun n=>Nat.testBit n j) h2;simp only[Nat.testBit_and]at this;unfold HP at this;rw[ho]at this;simp only[CD]at this;rw[hf]at this
     simpa [hj]using this
    have PT:∀j,(e.on==j||(j==ops.size&&cd ops.size e.on))=true→zM ops[i] ops.size j=true:=fun j hj=>by
     unfold zM;rw[Array.any_eq_true'];exact⟨e,he,by rw[Jy,hj];rfl⟩
    rcases Nat.lt_or_ge e.on ops.size with hl|hl
    ·rw[←h.b];exact ju e.on (by omega) (PT _ (by simp))
    ·have:=ju ops.size (by omega) (PT _ (by simp [cZ.2 hl]));rw[TN _ (agE _)]at this;cases this
  ·cases ha
section
variable {P:Program} {ops:Array Oper} {st:Oper→St→Option St} {h0:Nat} {m:Bool} {N0:Nat} {K:St→Prop} {s0:St}
theorem acr(fE:∀o,o∈ops.toList→∀s s1,st o s=some s1→∀K1:St→Prop,K1 s1→gM ops o s (oC m P o K1 s) (K1 (s.put o.dst (.d (.v undef))))){o:Oper}{s s1:St}(ho:o∈ops.toList)(e:st o s=some s1):∃x h1,kY m P ops o s x h1∧(s.wh h1).put o.dst x=s1:=by
 rcases Gl (fE o ho s s1 e (·=s1) rfl)with⟨g,hd⟩|⟨g,hd⟩
 ·obtain⟨x,h1,h2,h3⟩:=GC hd;exact⟨x,h1, .inl ⟨g,h2⟩,h3⟩
 ·exact⟨_,s.h, .inr ⟨g,rfl,rfl⟩,hd⟩
theorem Un(hK:yj N0 K)(hN:N0≤h0)(kK:∀i,(bz s0.t i).aS h0=true)
 (fE:∀o,o∈ops.toList→∀s s1,st o s=some s1→∀K1:St→Prop,K1 s1→gM ops o s (oC m P o K1 s) (K1 (s.put o.dst (.d (.v undef))))) (hM:nQ (Region.before ops) ops=true):
 ∀(fuel L:Nat)(listed:Array Bool)(s s':St),LM ops L listed→Dn ops listed→jh (jV ops.toList) s0 s→nf ops st h0 (jV ops.toList) (mH ops 0 ops.size) (lN ops m (Region.before ops) 0 ops.size) fuel L s=some s'→jh (jV ops.toList) s0 s'∧(K s'→ly m P ops K fuel listed s)
 |0,L,listed,s,s',hL,hD,hB,h=>by
  unfold nf at h;split at h
  ·next hr=>
   cases h
   refine⟨hB,fun hk=>⟨?_,hk⟩⟩;rw[List.eq_nil_iff_forall_not_mem];intro i hi;have:=(hL.ready i).1 hi;rw[hr]at this;cases this
  ·cases h
 |fuel+1,L,listed,s,s',hL,hD,hB,h=>by
  have mem:∀{k:Nat}{o:Oper},ops[k]?=some o→o∈ops.toList:=fun ho=>Array.mem_toList_iff.2 (Array.mem_of_getElem? ho);have one:∀{k:Nat}{o:Oper}{s1 s2:St},k∈Region.ready .any ops listed→ops[k]?=some o→st o s=some s1→(fN (L|||(1<<<k)) fun L=>nf ops st h0 (jV ops.toList) (mH ops 0 ops.size) (lN ops m (Region.before ops) 0 ops.size) fuel L s1)=some s2→
      jh (jV ops.toList) s0 s2∧∃x h1,kY m P ops o s x h1∧(K s2→ly m P ops K fuel (listed.setIfInBounds k true) ((s.wh h1).put o.dst x)):=fun{k o s1 s2} hr ho e1 e2=>by
   obtain⟨x,h1,h2,rfl⟩:=acr fE (mem ho) e1;rw[ox]at e2;have:=Un hK hN kK fE hM fuel _ _ _ s2 (hL.set (agI.1 ho).1) (hD.set hr) (hB.put h1 x (Bw (mem ho))) e2;exact⟨this.1,x,h1,h2,this.2⟩
  unfold nf at h;split at h
  ·next hr=>
   cases h
   have l5:Region.ready .any ops listed=[]:=by
    rw[List.eq_nil_iff_forall_not_mem];intro i hi;have:=(hL.ready i).1 hi;rw[hr]at this;cases this
   exact⟨hB,fun hk=>⟨fun _=>hk,fun i hi=>by rw[l5]at hi;cases hi⟩⟩
  ·next k0 r hr=>
   split at h
   ·next k hf=>
    obtain⟨mD,nx⟩:=I1 hf;have xz:k∈Region.ready .any ops listed:=(hL.ready k).2 (by rw[hr];exact mD);split at h
    ·next o ho=>
     split at h
     ·next s1 e1=>
      obtain⟨hb,x,h1,h2,h3⟩:=one xz ho e1 h;refine⟨hb,fun hk=>F9 hK.c hM ho fuel listed s hD (fun j oj hj da nc qS=> ?_) xz h2 (h3 hk)⟩;have Ba:=(agI.1 hj).1;have xy:=(agI.1 ho).1;have LI:Nat.testBit L j=false:=by
       rw[hL.b];have ib:j<listed.size:=by rw[hL.sz];exact Ba
       simpa [ib]using nc
      have mc:Nat.testBit (sO ops m (Region.before ops) k) j=false:=by
       rw[←Bool.not_eq_true];intro hc;have h5:(lN ops m (Region.before ops) 0 ops.size).getD k 0=sO ops m (Region.before ops) k:=by
         rw[List.getD_eq_getElem?_getD,Lu,if_pos xy,agN];rfl
       rw[h5]at nx;have:=congrArg (fun n=>Nat.testBit n j) nx;simp only[Nat.testBit_or,hc,LI]at this;cases this
      unfold sO at mc;rw[CD]at mc;unfold JG at mc;rw[qS,ho,hj]at mc;simp [Ba,da]at mc;exact mc
     ·cases h
    ·cases h
   ·split at h
    ·next o ho=>
     split at h
     ·next s1 e1=>
      split at h
      ·next s2 e2=>
       obtain⟨eZ,he⟩:=cV h;cases he
       have p6:k0∈Region.ready .any ops listed:=(hL.ready k0).2 (by rw[hr];simp);obtain⟨hb,x,h1,h2,h3⟩:=one p6 ho e1 e2;refine⟨hb,fun hk=>⟨fun e=>(by rw[e]at p6;cases p6),fun i hi oi vG=> ?_⟩⟩;have dR:i∈k0::r:=by rw[←hr];exact(hL.ready i).1 hi
       rcases agX.1 dR with rfl|hir
       ·rw[ho]at vG;cases vG;exact⟨x,h1,h2,h3 hk⟩
       ·have h4:=agT.1 eZ i hir;rw[vG]at h4;simp only at h4;split at h4
        ·next s3 e3=>
         split at h4
         ·next s4 e4=>
          obtain⟨fU,x',mY,GJ,vq⟩:=one hi vG e3 e4;exact⟨x',mY,GJ,vq (hK _ _ (afD hN kK fU hb h4) hk)⟩
         ·cases h4
        ·cases h4
      ·cases h
     ·cases h
    ·cases h
theorem Yn{s s':St}(hK:yj N0 K)(hN:N0≤s.h.length)(kK:∀i,(bz s.t i).aS s.h.length=true)
 (fE:∀o,o∈ops.toList→∀s s1,st o s=some s1→∀K1:St→Prop,K1 s1→gM ops o s (oC true P o K1 s) (K1 (s.put o.dst (.d (.v undef))))) (h:Bk ops st s=some s') (hk:K s'):ly true P ops K ops.size (Array.replicate ops.size false) s:=by
 unfold Bk at h;obtain⟨hM,h⟩:=gk h;rw[ra,ra,ox]at h;refine(Un hK hN kK fE hM ops.size 0 _ s s' ⟨by simp,fun i=> ?_⟩ (fun j o ho hj=> ?_) (jh.refl _ _) h).2 hk
 ·rw[Nat.zero_testBit,Array.getD_eq_getD_getElem?,Array.getElem?_replicate];split<;>rfl
 ·exfalso;rw[Array.getD_eq_getD_getElem?]at hj;rw[Array.getElem?_replicate]at hj;split at hj<;>simp at hj
theorem Kt{R:St→Prop}(fE:∀o s s1,st o s=some s1→R s→R s1){ks A C:List Nat}:∀(fuel L:Nat)(s s':St),nf ops st h0 ks A C fuel L s=some s'→R s→R s'
 |0,L,s,s',h,hR=>by
  unfold nf at h;split at h
  ·cases h;exact hR
  ·cases h
 |fuel+1,L,s,s',h,hR=>by
  unfold nf at h;split at h
  ·cases h;exact hR
  ·split at h
   ·split at h
    ·split at h
     ·next s1 e1=>rw[ox]at h;exact Kt fE fuel _ _ _ h (fE _ _ _ e1 hR)
     ·cases h
    ·cases h
   ·split at h
    ·split at h
     ·next s1 e1=>
      split at h
      ·next s2 e2=>
       obtain⟨_,he⟩:=cV h;cases he
       rw[ox]at e2;exact Kt fE fuel _ _ _ e2 (fE _ _ _ e1 hR)
      ·cases h
     ·cases h
    ·cases h
theorem acs{R:St→Prop}(fE:∀o s s1,st o s=some s1→R s→R s1){s s':St}(h:Bk ops st s=some s')(hR:R s):R s':=by
 unfold Bk at h;obtain⟨_,h⟩:=gk h;rw[ra,ra,ox]at h;exact Kt fE _ _ _ _ h hR
end
end Go.Proofs.YtphmhnabilhbgaaGreatDoor
namespace Go.Proofs.YtphmhnabilhbgaaGreatDoor
open Go.RowKit
inductive Ex
 |n
 |r
 |x (id:Nat)
def Ex.exit:Ex→Exit
 | .n=> .normal
 | .r=> .ret
 | .x i=> .exit i
def wO{α:Type}(n:Nat)(f:Nat→α):α:=Nat.casesOn (Nat.succ n) (f 0) f
theorem xI{α:Type}(n:Nat)(f:Nat→α):wO n f=f n:=rfl
def AV.force{α:Type}(x:AV)(f:AV→α):α:=
 match x with
 | .d (.v (.int k (.ofNat n)))=>wO n fun n=>f (.d (.v (.int k (.ofNat n))))
 | .d (.v (.bool b))=>bif b then f (.d (.v (.bool true)))else f (.d (.v (.bool false)))
 |x=>f x
theorem AV.force_eq{α:Type}(x:AV)(f:AV→α):x.force f=f x:=by
 unfold AV.force;split
 ·rw[xI]
 ·next b=>cases b<;>rfl
 ·rfl
def nK{α:Type}:List ak→(List ak→α)→α
 |[],f=>f []
 |b::l,f=>nK l fun r=>f (b::r)
theorem lf{α:Type}:∀(l:List ak)(f:List ak→α),nK l f=f l
 |[],_=>rfl
 |b::l,f=>by rw[nK,lf l]
def BU{α:Type}:List (Nat×AV)→Nat→(List (Nat×AV)→α)→α
 |[],_,f=>f []
 |(k,x)::l,m,f=>bif Nat.testBit m k then BU l m f else wO (m|||(1<<<k)) fun m=>BU l m fun r=>f ((k,x)::r)
theorem F2{α:Type}:∀(l:List (Nat×AV))(m:Nat)(f:List (Nat×AV)→α),∃l',BU l m f=f l'∧∀i,bz l' i=bif Nat.testBit m i then .dead else bz l i
 |[],m,f=>⟨[],rfl,fun i=>by cases Nat.testBit m i<;>rfl⟩
 |(k,x)::l,m,f=>by
  unfold BU;cases hk:Nat.testBit m k with
  |true=>
   obtain⟨l',h1,h2⟩:=F2 l m f;refine⟨l',h1,fun i=> ?_⟩;rw[h2,jX];by_cases e:i=k
   ·subst e;rw[hk];rfl
   ·rw[if_neg e]
  |false=>
   simp only[cond_false,xI];obtain⟨l',h1,h2⟩:=F2 l (m|||(1<<<k)) (fun r=>f ((k,x)::r));refine⟨(k,x)::l',h1,fun i=> ?_⟩;rw[jX,jX,h2];by_cases e:i=k
   ·subst e;rw[hk];simp
   ·rw[if_neg e,if_neg e];have:Nat.testBit (m|||(1<<<k)) i=Nat.testBit m i:=by
      rw[Nat.testBit_or,Nat.one_shiftLeft,Nat.testBit_two_pow];simp [Ne.symm e]
    rw[this]
abbrev uG:=Bool→Nat→Code→St→Option (Ex×St)
abbrev oD:=FuncId→List AV→Option (Option AV)
def UT:Option (Option AV)→Bool
 |some none=>true
 |_=>false
mutual
def AV.RN:AV→List Nat
 | .fn _ cs=>AV.LV cs
 |_=>[]
def AV.LV:List AV→List Nat
 |[]=>[]
 | .ptr n _::l=>n::AV.LV l
 |x::l=>x.RN++AV.LV l
end
def HB:List Nat→AV→List ak→Option (AV×List ak)
 |[],r,h=>some (r,h)
 |b::l,r,h=>match h[b]? with
  |some (.cells cs)=>match mq cs with
   |some ds=>HB l (r.eY b ds) ((h.map (ak.eY b ds)).set b .gone)
   |none=>none
  |_=>none
def TX:AV→Option D
 | .d x=>some x
 |_=>none
def HN:List AV→Option (List D)
 |[]=>some []
 |x::l=>match TX x,HN l with
  |some d,some r=>some (d::r)
  |_,_=>none
def GG:List (List AV)→Option (List (List D))
 |[]=>some []
 |x::l=>match HN x,GG l with
  |some d,some r=>some (d::r)
  |_,_=>none
mutual
def AV.Pc:AV→Bool
 | .vec .. =>true
 | .agg cs=>AV.EN cs
 | .bX cs=>AV.EN cs
 | .fn _ cs=>AV.EN cs
 |_=>false
def AV.EN:List AV→Bool
 |[]=>false
 |x::l=>x.Pc||AV.EN l
end
def tu:List Nat→AV→List ak→AV×List ak
 |[],r,h=>(r,h)
 |b::l,r,h=>match h[b]? with
  |some (.vec _ k cs)=>match GG cs with
   |some xs=>bif xs.all (fun c=>c.all D.mV)then(r.dm b k xs).force fun r=>nK ((h.map (ak.ij (AV.dm b k xs))).set b .gone) fun h=>tu l r h else tu l r h
   |none=>tu l r h
  |_=>tu l r h
def YI(h:List ak):List Nat:=(List.range h.length).reverse++(List.range h.length).reverse
def EG(r:AV)(h:List ak):Option AV:=
 match HB r.RN r h with
 |some (r,_)=>some (r.bI 0)
 |none=>none
def Jp(r:AV)(h:List ak):Option AV:=
 bif r.Pc then(match tu (YI h) r h with|(r,h)=>EG r h)else EG r h
def Dw(run:uG)(lo k:Nat)(x:AV)(h:List ak):Option (Bool×List ak):=
 bif cd lo k then match h[k]? with
 |some (.lp .ready p as bd cs)=>bif cd (p+1) cs.length then match run false lo as ⟨cs.length,(p,x)::iN 0 cs,h⟩with
  |some (.n,s1)=>match s1.h[k]? with
   |some (.lp .ready p1 jj jo jS)=>match run false lo bd ⟨s1.n,s1.t,s1.h.set k (.lp .busy p1 jj jo jS)⟩with
    |some (e,s2)=>match s2.h[k]? with
     |some (.lp .busy p2 mv ml gH)=>match e with
      | .n=>some (true,s2.h.set k (.lp .ready p2 mv ml gH))
      | .r=>some (false,s2.h.set k (.lp (.done .ret) p2 mv ml gH))
      | .x i=>some (false,s2.h.set k (.lp (.done (.exit i)) p2 mv ml gH))
     |_=>none
    |none=>none
   |_=>none
  |_=>none
  else none
 |_=>none
 else none
def la(o:Oper)(s:St):Option (AV×List ak)→Option St
 |some (x,h)=>x.force fun x=>match s,o.dst with
  |⟨n,t,_⟩,some d=>wO n fun n=>wO d fun d=>bif n-d==0 then some ⟨n,t,h⟩else some ⟨n,(d,x)::t,h⟩
  |⟨n,t,_⟩,none=>some ⟨n,t,h⟩
 |none=>none
def vi(lo:Nat)(h:List ak):Option (AV×HD)→Option (AV×List ak)
 |some (x, .same)=>some (x,h)
 |some (x,d)=>bif d.okB lo then nK (d.app h) fun h=>some (x,h)else none
 |none=>none
def OX(P:Program)(op:Op)(ρ:Operand→AV):Option AV:=
 match op with
 | .binOp op T x y _=>match (ρ x).fG,ρ y,dY P T,ql op true,ql op false with
   |some (_::_), .d (.v (.slice none 0 0)),some _,some _,some v=>some (.d (.v v))
   |_,_,_,_,_=>none
 |_=>none
def WM(op:Op)(ρ:Operand→AV):Bool:=
 match op with
 | .call c=>match c.callee with
   | .builtin .append=>match c.args.toList with
     |x::_=>match ρ x with
      | .full []=>true
      |_=>false
     |_=>false
   |_=>false
 |_=>false
def tI(P:Program)(lo:Nat)(dr:Bool)(o:Oper)(s:St):Option St:=
 match (bif !dr&&WM o.op (ev s)then Cq P o.op (ev s) s.h else none)with
 |some r=>la o s (vi lo s.h (some r))
 |none=>match kA P o.op (ev s) s.h with
 |some r=>la o s (vi lo s.h (some r))
 |none=>bif dr then(bif ie o then(match Cq P o.op (ev s) s.h with
  |some r=>la o s (vi lo s.h (some r))
  |none=>none)else none)else match Cq P o.op (ev s) s.h with
  |some r=>la o s (vi lo s.h (some r))
  |none=>match p8 P o.op (ev s) s.h with
   |some (x,h)=>nK h fun h=>la o s (some (x,h))
   |none=>match OX P o.op (ev s)with
    |some x=>la o s (some (x,s.h))
    |none=>match yO P lo o.op (ev s) s.h with
     |some (x,h)=>nK h fun h=>la o s (some (x,h))
     |none=>none
section
variable (run:uG) (P:Program) (dW:oD)
def bE(lo:Nat)(f:FuncId)(args:List AV)(h:List ak):Option (AV×List ak):=
 match P.funcs[f]? with
 |some fn=>match fn.body with
  |some c=>wO (args.length+(fn.ntmps-args.length)) fun n=>match run true lo c ⟨n,iN 0 args,h⟩with
   |some (.x _,_)=>none
   |some (_,s)=>match qg P s fn.results.toList with
    |some l=>some (gJ l,s.h)
    |none=>none
   |none=>none
  |none=>none
 |none=>none
def Cp(g:FuncId)(args:List AV):Option AV:=
 match dW g args with
 |some (some r)=>some r
 |_=>match bE run P 0 g args []with
  |some (r,h)=>match Jp r h with
   |some r=>bif r.aS 0 then some r else none
   |none=>none
  |none=>none
def uU(lo:Nat)(dr:Bool)(g:FuncId)(args:List AV)(h:List ak):Option (AV×List ak):=
 bif args.all (AV.aS 0)&& !UT (dW g args)then match Cp run P dW g args with
  |some r=>bif r.aS 0 then some (r,h)else none
  |none=>none
 else bif dr then
  bif args.all (AV.aS h.length)&&h.all (ak.aS h.length)then match bE run P h.length g args h with
   |some (r,_)=>bif (r.bI h.length).aS h.length then some (r.bI h.length,h)else none
   |none=>none
  else none
 else bE run P lo g args h
def xV(lo:Nat)(dr ls:Bool)(o:Oper)(s:St):Option St:=
 match o.op with
 | .call c=>match c.callee with
   | .value f=>match ev s f with
     | .fn g dt=>bif dr&&(cB o==6&&UT (dW g (c.args.toList.map (ev s)++dt)))then la o s (bE run P s.h.length g (c.args.toList.map (ev s)++dt) s.h)else bif ls&&l0 true o then la o s (uU run P dW lo false g (c.args.toList.map (ev s)++dt) s.h)else la o s (uU run P dW lo dr g (c.args.toList.map (ev s)++dt) s.h)
     | .hid (.fn g cs)=>la o s (uU run P dW lo dr g (c.args.toList.map (ev s)++cs.map gG.av) s.h)
     | .dj k=>bif dr then none else match c.args.toList.map (ev s)with
       |[x]=>match Dw run lo k x s.h with
        |some (b,h)=>nK h fun h=>la o s (some (.d (.v (.bool b)),h))
        |none=>none
       |_=>none
     |_=>none
   |_=>tI P lo dr o s
 |_=>tI P lo dr o s
def xG(lo:Nat)(dr ls:Bool)(ops:Array Oper)(o:Oper)(s:St):Option St:=
 match o.guard with
 |none=>xV run P dW lo dr ls o s
 |some (j,want)=>match (ops[j]?).bind (·.dst)with
  |some d=>match bz s.t d with
   | .d (.v (.bool b))=>bif b==want then xV run P dW lo dr ls o s else some (s.put o.dst (.d (.v undef)))
   | .d (.v (.tuple _))=>some (s.put o.dst (.d (.v undef)))
   |_=>none
  |none=>none
def sJ(lo:Nat)(dr ls:Bool)(ops:Array Oper):List Oper→St→Option St
 |[],s=>some s
 |o::l,s=>match xG run P dW lo dr ls ops o s with
  |some s=>sJ lo dr ls ops l s
  |none=>none
def yJ:Option St→Option (Ex×St)
 |some s=>some (.n,s)
 |none=>none
def Cn(fl:Bool)(lo:Nat)(c:Code)(s:St):Option (Ex×St):=
 match c with
 | .skip=>some (.n,s)
 | .region _ ops draw=>bif draw then(bif ops.any (fun o=>cB o==6||l0 true o)&&((AJ ops ops.size (Array.replicate ops.size false)).length==ops.size&&Eh true ops (AJ ops ops.size (Array.replicate ops.size false)))then yJ (sJ run P dW lo true true ops (oH ops (AJ ops ops.size (Array.replicate ops.size false))) s)else(bif mi ops then yJ (sJ run P dW lo true false ops ops.toList s)else yJ (Bk ops (xG run P dW lo true true ops) s)))else yJ (sJ run P dW lo false false ops ops.toList s)
 | .seq a b=>match run fl lo a s with
   |some (.n,s1)=>run fl lo b s1
   |some (.r,s1)=>some (.r,s1)
   |some (.x i,s1)=>some (.x i,s1)
   |none=>none
 | .cond c x y=>match ev s c with
   | .d (.v (.bool b))=>bif b then run fl lo x s else run fl lo y s
   |_=>none
 | .block id b=>match run fl lo b s with
   |some (.x i,s1)=>bif i==id then some (.n,s1)else some (.x i,s1)
   |some (.n,s1)=>some (.n,s1)
   |some (.r,s1)=>some (.r,s1)
   |none=>none
 | .exit id=>some (.x id,s)
 | .ret=>some (.r,s)
 | .loop b=>match run fl lo b s with
   |some (.n,s1)=>wO s1.n fun n=>BU s1.t 0 fun t=>run fl lo (.loop b) ⟨n,t,s1.h⟩
   |some (.r,s1)=>some (.r,s1)
   |some (.x i,s1)=>some (.x i,s1)
   |none=>none
 | .rangeFunc g ps assign body=>bif fl then match ps.toList,ev s g with
   |[p], .fn gf dt=>match bE run P lo gf (.dj s.h.length::dt) (s.h++[.lp .ready p assign body (dG s.n s.t)])with
    |some (_,h)=>match h[s.h.length]? with
     |some (.lp ls _ _ _ _)=>match ls with
      | .ready=>nK (h.set s.h.length .gone) fun h=>some (.n,⟨s.n,s.t,h⟩)
      | .done .ret=>nK (h.set s.h.length .gone) fun h=>some (.r,⟨s.n,s.t,h⟩)
      | .done (.exit i)=>nK (h.set s.h.length .gone) fun h=>some (.x i,⟨s.n,s.t,h⟩)
      |_=>none
     |_=>none
    |none=>none
   |_,_=>none
   else none
 |_=>none
end
def pF(P:Program)(dW:oD)(n:Nat):uG:=Nat.rec (fun _ _ _ _=>none) (fun _ ih=>Cn ih P dW) n
theorem JS{P:Program}{dW:oD}{fl:Bool}{n lo:Nat}{c:Code}{s:St}:pF P dW (n+1) fl lo c s=Cn (pF P dW n) P dW fl lo c s:=rfl
def gu(lo:Nat)(h h':List ak):Prop:=h'.take lo=h.take lo∧h.length≤h'.length
theorem gu.refl(lo:Nat)(h:List ak):gu lo h h:=⟨rfl,agE _⟩
theorem gu.mono{lo m:Nat}{a b:List ak}(h:gu m a b)(hl:lo≤m):gu lo a b:=⟨by have:=congrArg (List.take lo) h.1;rwa [List.take_take,List.take_take,Nat.min_eq_left hl]at this,h.2⟩
theorem gu.trans{lo:Nat}{a b c:List ak}(h:gu lo a b)(k:gu lo b c):gu lo a c:=⟨k.1.trans h.1,agL h.2 k.2⟩
def nt(run:uG):Prop:=∀fl lo c s e s',run fl lo c s=some (e,s')→lo≤s.h.length→gu lo s.h s'.h
section
variable {run:uG} {P:Program} {dW:oD} {lo:Nat} {s s':St}
theorem BO(hr:nt run){f:FuncId}{args:List AV}{h h':List ak}{r:AV}(e:bE run P lo f args h=some (r,h'))(hl:lo≤h.length):gu lo h h':=by
 unfold bE at e;split at e
 ·split at e
  ·rw[xI]at e;split at e
   ·cases e
   ·next x s1 _ e1=>
    split at e
    ·cases e;exact hr _ _ _ _ _ _ e1 hl
    ·cases e
   ·cases e
  ·cases e
 ·cases e
theorem KR(hr:nt run){dr:Bool}{f:FuncId}{args:List AV}{h h':List ak}{r:AV}(e:uU run P dW lo dr f args h=some (r,h'))(hl:lo≤h.length):gu lo h h':=by
 unfold uU at e;rcases gZ e with⟨_,e⟩|⟨_,e⟩
 ·split at e
  ·obtain⟨_,he⟩:=cV e;cases he;exact .refl _ _
  ·cases e
 ·rcases gZ e with⟨_,e⟩|⟨_,e⟩
  ·obtain⟨_,e⟩:=gk e;split at e
   ·obtain⟨_,he⟩:=cV e;cases he;exact .refl _ _
   ·cases e
  ·exact BO hr e hl
theorem iT{o:Oper}{r:Option (AV×List ak)}(e:la o s r=some s'):∃x h,r=some (x,h)∧s'=(s.wh h).put o.dst x:=by
 unfold la at e;split at e
 ·next x h=>
  rw[AV.force_eq]at e;refine⟨x,h,rfl,?_⟩;split at e
  ·next n t h0 d hd=>
   simp only[xI]at e;simp only[hd,St.put,St.wh];cases hb:(n-d==0)with
   |true=>rw[hb]at e;cases e;rfl
   |false=>rw[hb]at e;cases e;rfl
  ·next n t h0 hd=>cases e;simp only[hd,St.put,St.wh]
 ·cases e
theorem Bl{h h':List ak}{x:AV}{r:Option (AV×HD)}(e:vi lo h r=some (x,h')):∃d,r=some (x,d)∧d.okB lo=true∧h'=d.app h:=by
 unfold vi at e;split at e
 ·cases e;exact⟨.same,rfl,rfl,rfl⟩
 ·rw[lf]at e;obtain⟨hb,he⟩:=cV e;cases he
  exact⟨_,rfl,hb,rfl⟩
 ·cases e
theorem HD.frm{d:HD}(h:List ak)(hd:d.okB lo=true)(hl:lo≤h.length):gu lo h (d.app h):=by
 cases d with
 |same=>exact .refl _ _
 |push B=>exact⟨List.take_append_of_le_length hl,by simp [HD.app]⟩
 |set n B=>
  have hn:lo≤n:=cZ.1 hd;refine⟨?_,by simp [HD.app]⟩;simp only[HD.app];rw[List.take_set_of_le hn]
theorem B4{h:List ak}{k:Nat}(B:ak)(hk:lo≤k):gu lo h (h.set k B):=⟨by rw[List.take_set_of_le hk],by simp⟩
theorem Xl(hr:nt run){k:Nat}{x:AV}{h h':List ak}{b:Bool}(e:Dw run lo k x h=some (b,h'))(hl:lo≤h.length):gu lo h h':=by
 unfold Dw at e;obtain⟨hk,e⟩:=gk e;rw[cZ]at hk;split at e
 ·obtain⟨_,e⟩:=gk e;split at e
  ·next s1 e1=>
   have f1:=hr _ _ _ _ _ _ e1 hl;split at e
   ·split at e
    ·next ee s2 e2=>
     have f2:=hr _ _ _ _ _ _ e2 (by simp;exact agL hl f1.2);have f3:gu lo h s2.h:=(f1.trans (B4 _ hk)).trans f2;split at e
     ·split at e
      ·cases e;exact f3.trans (B4 _ hk)
      ·cases e;exact f3.trans (B4 _ hk)
      ·cases e;exact f3.trans (B4 _ hk)
     ·cases e
    ·cases e
   ·cases e
  ·cases e
 ·cases e
theorem acE{op:Op}{ρ:Operand→AV}{h h':List ak}{x:AV}(e:p8 P op ρ h=some (x,h'))(hl:lo≤h.length):gu lo h h':=by
 have app:∀B,gu lo h (h++[B]):=fun B=>⟨List.take_append_of_le_length hl,by simp⟩;unfold p8 at e;split at e
 ·split at e
  ·obtain⟨_,he⟩:=cV e;cases he;exact .refl _ _
  ·cases e
 ·split at e
  ·split at e
   ·obtain⟨_,he⟩:=cV e;cases he;exact .refl _ _
   ·cases e
  ·split at e
   ·split at e
    ·split at e
     ·obtain⟨_,he⟩:=cV e;cases he;exact app _
     ·cases e
    ·cases e
   ·cases e
  ·cases e
 ·cases e
theorem afh{op:Op}{ρ:Operand→AV}{h h':List ak}{x:AV}(e:yO P lo op ρ h=some (x,h'))(hl:lo≤h.length):gu lo h h':=by
 have app:∀B,gu lo h (h++[B]):=fun B=>⟨List.take_append_of_le_length hl,by simp⟩;unfold yO at e;split at e
 ·split at e
  ·split at e
   ·cases e;exact app _
   ·cases e
  ·cases e
 ·split at e
  ·split at e
   ·split at e
    ·split at e
     ·cases e;exact .refl _ _
     ·obtain⟨hb,he⟩:=cV e;cases he
      rw[cZ]at hb;exact⟨by rw[List.take_set_of_le hb],by simp⟩
    ·cases e
   ·cases e
  ·cases e
 ·split at e
  ·split at e
   ·split at e
    ·cases e;exact .refl _ _
    ·cases e
   ·cases e
  ·cases e
 ·cases e
theorem OM(hr:nt run){dr ls:Bool}{o:Oper}(e:xV run P dW lo dr ls o s=some s')(hl:lo≤s.h.length):gu lo s.h s'.h:=by
 have Fs:∀{r}(e':la o s (vi lo s.h r)=some s'),gu lo s.h s'.h:=fun e'=>by
  obtain⟨x,h,e1,rfl⟩:=iT e';obtain⟨d,_,hd,rfl⟩:=Bl e1;rw[kC];exact d.frm _ hd hl
 have key:∀e':tI P lo dr o s=some s',gu lo s.h s'.h:=fun e'=>by
  unfold tI at e';split at e'
  ·exact Fs e'
  split at e'
  ·exact Fs e'
  ·rcases gZ e' with⟨_,e'⟩|⟨_,e'⟩
   ·obtain⟨_,e'⟩:=gk e';split at e'
    ·exact Fs e'
    ·cases e'
   ·split at e'
    ·exact Fs e'
    ·split at e'
     ·next e0=>
      rw[lf]at e';obtain⟨x,h,e1,rfl⟩:=iT e';cases e1
      rw[kC];exact acE e0 hl
     ·split at e'
      ·obtain⟨x,h,e1,rfl⟩:=iT e';cases e1
       rw[kC];exact .refl _ _
      ·split at e'
       ·next e0=>
        rw[lf]at e';obtain⟨x,h,e1,rfl⟩:=iT e';cases e1
        rw[kC];exact afh e0 hl
       ·cases e'
 unfold xV at e;split at e
 ·split at e
  ·split at e
   ·rcases gZ e with⟨_,e⟩|⟨_,e⟩
    ·obtain⟨x,h,e1,rfl⟩:=iT e;rw[kC];exact(BO hr e1 (agE _)).mono hl
    ·rcases gZ e with⟨_,e⟩|⟨_,e⟩
     ·obtain⟨x,h,e1,rfl⟩:=iT e;rw[kC];exact KR hr e1 hl
     ·obtain⟨x,h,e1,rfl⟩:=iT e;rw[kC];exact KR hr e1 hl
   ·obtain⟨x,h,e1,rfl⟩:=iT e;rw[kC];exact KR hr e1 hl
   ·rcases gZ e with⟨_,e⟩|⟨_,e⟩
    ·cases e
    ·split at e
     ·split at e
      ·next e0=>
       rw[lf]at e;obtain⟨x,h,e1,rfl⟩:=iT e;cases e1
       rw[kC];exact Xl hr e0 hl
      ·cases e
     ·cases e
   ·cases e
  ·next eW _=>exact key e
 ·exact key e
theorem SK(hr:nt run){dr ls:Bool}{ops:Array Oper}{o:Oper}(e:xG run P dW lo dr ls ops o s=some s')(hl:lo≤s.h.length):gu lo s.h s'.h:=by
 unfold xG at e;split at e
 ·exact OM hr e hl
 ·split at e
  ·split at e
   ·rcases gZ e with⟨_,e⟩|⟨_,e⟩
    ·exact OM hr e hl
    ·cases e;rw[kC];exact .refl _ _
   ·cases e;rw[kC];exact .refl _ _
   ·cases e
  ·cases e
theorem H6(hr:nt run){dr ls:Bool}{ops:Array Oper}:∀(l:List Oper)(s s':St),sJ run P dW lo dr ls ops l s=some s'→lo≤s.h.length→gu lo s.h s'.h
 |[],s,s',e,_=>by cases e;exact .refl _ _
 |o::l,s,s',e,hl=>by
  unfold sJ at e;split at e
  ·next s1 e1=>
   have h1:=SK hr e1 hl;exact h1.trans (H6 hr l s1 s' e (agL hl h1.2))
  ·cases e
theorem sy{r:Option St}{e:Ex}(h:yJ r=some (e,s')):r=some s'∧e= .n:=by
 unfold yJ at h;split at h
 ·cases h;exact⟨rfl,rfl⟩
 ·cases h
end
mutual
theorem AN(m:Nat):∀x:AV,x.aS m=true→x.bI m=x
 | .own n xs,h=>by
   rw[AV.aS]at h;rw[AV.bI];cases e:cd m n with
   |true=>rw[e]at h;cases h
   |false=>rfl
 | .agg cs,h=>by rw[AV.aS]at h;rw[AV.bI,ED m cs h]
 | .bX cs,h=>by rw[AV.aS]at h;rw[AV.bI,ED m cs h]
 | .fn f cs,h=>by rw[AV.aS]at h;rw[AV.bI,ED m cs h]
 | .d _,_=>by simp only[AV.bI]
 | .ptr ..,_=>by simp only[AV.bI]
 | .bn ..,_=>by simp only[AV.bI]
 | .full _,_=>by simp only[AV.bI]
 | .row ..,_=>by simp only[AV.bI]
 | .mp _,_=>by simp only[AV.bI]
 | .dj _,_=>by simp only[AV.bI]
 | .vec ..,_=>by simp only[AV.bI]
 | .di ..,_=>by simp only[AV.bI]
 | .hid _,_=>by simp only[AV.bI]
 | .dead,_=>by simp only[AV.bI]
theorem ED(m:Nat):∀l:List AV,AV.mg m l=true→AV.m9 m l=l
 |[],_=>by simp [AV.m9]
 |x::l,h=>by
  rw[AV.mg,agv]at h;rw[AV.m9,AN m x h.1,ED m l h.2]
end
theorem ab8{m:Nat}{B:ak}(h:B.aS m=true):B.bI m=B:=by
 cases B with
 |cells cs=>
  simp only[ak.aS,agT]at h;simp only[ak.bI]
  congr 1
  exact(agY fun x hx=>AN m x (h x hx)).trans (List.map_id _)
 |lp ls p as bd cs=>
  simp only[ak.aS,agT]at h;simp only[ak.bI]
  congr 1
  exact(agY fun x hx=>AN m x (h x hx)).trans (List.map_id _)
 |it sn cs=>
  simp only[ak.aS,agT]at h;simp only[ak.bI]
  congr 1
  exact(agY fun x hx=>AN m x (h x hx)).trans (List.map_id _)
 |vec e k cs=>
  simp only[ak.aS,agT]at h;simp only[ak.bI]
  congr 1
  exact(agY fun x hx=>(agY fun y hy=>AN m y (h x hx y hy)).trans (List.map_id _)).trans (List.map_id _)
 |front e k len=>rfl
 |map kv=>rfl
 |gone=>rfl
theorem FC{m:Nat}{h:List ak}(e:h.all (ak.aS m)=true):h.map (ak.bI m)=h:=
 (agY fun B hB=>ab8 (agT.1 e B hB)).trans (List.map_id _)
theorem CA{P:Program}{dW:oD}:∀n,nt (pF P dW n)
 |0=>fun fl lo c s e s' h=>by cases h
 |n+1=>by
  have ih:=CA (P:=P) (dW:=dW) n;intro fl lo c s e s' h hl;rw[JS]at h;unfold Cn at h;split at h
  ·cases h;exact .refl _ _
  ·next ops draw=>
   cases draw with
   |true=>
    simp only[cond_true]at h;rcases gZ h with⟨_,h⟩|⟨_,h⟩
    ·exact H6 ih _ _ _ (sy h).1 hl
    ·rcases gZ h with⟨_,h⟩|⟨_,h⟩
     ·exact H6 ih _ _ _ (sy h).1 hl
     ·refine acs (R:=fun s1=>gu lo s.h s1.h) (fun o s0 s1 e1 hR=>hR.trans (SK ih e1 (agL hl hR.2))) (sy h).1 (.refl _ _)
   |false=>exact H6 ih _ _ _ (sy h).1 hl
  ·split at h
   ·next s1 e1=>
    have h1:=ih _ _ _ _ _ _ e1 hl;exact h1.trans (ih _ _ _ _ _ _ h (agL hl h1.2))
   ·next s1 e1=>cases h;exact ih _ _ _ _ _ _ e1 hl
   ·next s1 e1=>cases h;exact ih _ _ _ _ _ _ e1 hl
   ·cases h
  ·split at h
   ·next b _=>
    cases b with
    |true=>exact ih _ _ _ _ _ _ h hl
    |false=>exact ih _ _ _ _ _ _ h hl
   ·cases h
  ·split at h
   ·next e1=>rcases gZ h with⟨_,h⟩|⟨_,h⟩<;>(cases h;exact ih _ _ _ _ _ _ e1 hl)
   ·next s1 e1=>cases h;exact ih _ _ _ _ _ _ e1 hl
   ·next s1 e1=>cases h;exact ih _ _ _ _ _ _ e1 hl
   ·cases h
  ·cases h;exact .refl _ _
  ·cases h;exact .refl _ _
  ·split at h
   ·next s1 e1=>
    have h1:=ih _ _ _ _ _ _ e1 hl;obtain⟨l',h2,_⟩:=F2 s1.t 0 fun t=>pF P dW n fl lo (.loop _) ⟨s1.n,t,s1.h⟩;rw[xI,h2]at h;have h3:=ih _ _ _ _ _ _ h (show lo≤s1.h.length from agL hl h1.2);exact h1.trans h3
   ·next s1 e1=>cases h;exact ih _ _ _ _ _ _ e1 hl
   ·next s1 e1=>cases h;exact ih _ _ _ _ _ _ e1 hl
   ·cases h
  ·obtain⟨_,h⟩:=gk h;split at h
   ·split at h
    ·next e1=>
     have f1:=BO ih e1 (by simp;omega);have f2:∀B,gu lo s.h (s.h++[B]):=fun B=>⟨List.take_append_of_le_length hl,by simp⟩;have f3:=((f2 _).trans f1).trans (B4 (k:=s.h.length) .gone hl);split at h
     ·split at h
      ·rw[lf]at h;cases h;exact f3
      ·rw[lf]at h;cases h;exact f3
      ·rw[lf]at h;cases h;exact f3
      ·cases h
     ·cases h
    ·cases h
   ·cases h
  ·cases h
end Go.Proofs.YtphmhnabilhbgaaGreatDoor
namespace Go.Proofs.YtphmhnabilhbgaaGreatDoor
open Go.RowKit
section
variable {P:Program} {r:Option Nat} {n N0:Nat} {G:Gh} {w:World} {a:Act} {s:St} {o:Oper} {Q:Exit→St→Prop}
theorem Yf{fn:Func}{K:AV→List ak→Prop}(hs:c7 G w a s)(h:jU P s fn.results.toList fun l=>K (gJ l) s.h):∃v r,(results fn a.tmps).run P w= .ok v w∧aG G w v r∧K r s.h:=by
 obtain⟨g,hg⟩:∃g:ResultVar→Sem Value,results fn a.tmps=(do let vs ←fn.results.mapM g;pure (if h:vs.size=1 then vs[0]else .tuple vs))∧(∀t,g (.tmp t)=pure (a.tmps.getD t undef))∧(∀p t,g (.cell p t)=(do loadVar t (←asAddr (a.tmps.getD p undef)))):=
  ⟨_,rfl,fun _=>rfl,fun _ _=>rfl⟩
 obtain⟨vs,xs,h1,h2,h3,h4⟩:=NR hs g hg.2.1 hg.2.2 fn.results.toList h;have hr:(results fn a.tmps).run P w= .ok (if h:vs.toArray.size=1 then vs.toArray[0]else .tuple vs.toArray) w:=by
  rw[hg.1,Sem.run_bind,Array.mapM_eq_mapM_toList];have e:∀X:Sem (List Value),(Functor.map List.toArray X:Sem _)=X>>=fun l=>pure l.toArray:=fun _=>rfl;rw[e,Sem.run_bind,h1];rfl
 exact⟨_,_,hr,Ol vs xs h2 h3,h4⟩
def ZB(P:Program)(fn:Func)(K:AV→List ak→Prop):Exit→St→Prop
 | .normal,s=>jU P s fn.results.toList fun l=>K (gJ l) s.h
 | .ret,s=>jU P s fn.results.toList fun l=>K (gJ l) s.h
 |_,_=>False
theorem Ww{f:FuncId}{fn:Func}{c:Code}{args:List AV}{h:List ak}{K:AV→List ak→Prop}(hf:P.funcs[f]?=some fn)(hb:fn.body=some c)(hn:(fn.name== "runtime.NumGoroutine")=false)
 (hw:bH P none h.length c (ZB P fn K) {n:=args.length+(fn.ntmps-args.length),t:=iN 0 args,h:=h}):bW P f args h K:=by
 refine⟨by unfold ym;rw[hf];simp [hb];simpa using hn,fun G w vs hi hl hr=> ?_⟩;refine callsIn_wide (n:=8).1 (callsIn_of_wp_marks (F:=Fence.wide) hf hb trivial ?_);have hs:c7 {G with M:=w.heap.size} w {tmps:=vs++Array.replicate (fn.ntmps-vs.size) undef,defers:=[]} {n:=args.length+(fn.ntmps-args.length),t:=iN 0 args,h:=h}:=by
  refine⟨by simp [hl],fun i=> ?_,hi.zm G.Z _ (fun _ h=>h) (agE _),n7.nil _ _⟩;show aG _ _ _ (bz (iN 0 args) i);rw[Hu];simp only[Nat.zero_le,if_true,Nat.sub_zero];cases hx:args[i]? with
  |none=>exact .dead _
  |some x=>
   have aO:i<vs.size:=by rw[hl];exact(agt.1 hx).1
   have:(vs++Array.replicate (fn.ntmps-vs.size) undef).getD i undef=vs[i]:=by
    simp [Array.getElem?_append_left aO,agP aO]
   simp only[this,Option.getD_some];exact(hr i _ x (agP aO) hx).zm G.Z _
 refine wpIn_mono (hw.run _ w _ 8 hs (by rw[hi.len];exact agE _)) fun e a' w' hn=> ?_;obtain⟨G1,s1,hE,fJ,eX,hq⟩:=hn;have key:(jU P s1 fn.results.toList fun l=>K (gJ l) s1.h)→LeavesInM Fence.wide 8 P fn a'.tmps (fun e w'=>∃v G' r h',e= .returned v∧bZ G.N G w G' w'∧G.N≤G'.N∧cf G' w' h'∧aG G' w' v r∧K r h') a'.defers .returning w':=fun hq=>by
  obtain⟨w2,G2,k1,k2,k3,k4⟩:=PR hE fJ hi.z hi.gl.2 eX;obtain⟨v,r,r1,r5,r6⟩:=Yf k4 hq;exact k1 _ _ _ _ _ ⟨v,r1,v,G2,r,s1.h,rfl,by rw[←hi.len];exact k2,by rw[←hi.len,k3];exact fJ,k4.inv,r5,r6⟩
 cases e with
 |normal=>exact key hq
 |ret=>exact key hq
 |_=>exact hq.elim
end
theorem bW.cut{P:Program}{f:FuncId}{args:List AV}{h h':List ak}{r:AV}(m:Nat)(hc:bW P f args h fun r1 h1=>r1=r∧h1=h')(h1:h.length≤m)(h2:m≤h'.length)(hb:(((h'.take m).map (ak.bI m)).all (ak.aS m))=true)(hr:(r.bI m).aS m=true):
 bW P f args h fun r1 h1=>r1=r.bI m∧h1=(h'.take m).map (ak.bI m):=by
 refine⟨hc.1,fun G w vs hi hl hv=>(hc.2 G w vs hi hl hv).mono fun e w' hp=> ?_⟩;obtain⟨v,G',_,_,rfl,hE,hN,dR,IP,rfl,rfl⟩:=hp;exact⟨v,G'.cut m,_,_,rfl,hE.trans (nM _ _ _ _),by rw[←hi.len];exact h1,Kj dR h2 hb,(IP.bI m).cut hr,rfl,rfl⟩
theorem N1(n i:Nat)(h:i<n):rn (List.range n) 0 i=i:=xa (List.range n) 0 i i (by rw[List.getElem?_range h])
theorem RW{n:Nat}{x:AV}(h:x.aS n=true):x.aR (rn (List.range n) 0)=x:=(rm (τ:=id) (N1 n) x h).trans (yM x)
theorem W7{n:Nat}{B:ak}(h:B.aS n=true):B.aR (rn (List.range n) 0)=B:=(GQ (τ:=id) (N1 n) B h).trans (HC B)
theorem Rv:∀{l:List Nat},l.Nodup→na l=true
 |[],_=>rfl
 |a::l,h=>by
  rw[List.nodup_cons]at h;rw[na,agv,Bool.not_eq_true',←Bool.not_eq_true];refine⟨fun hm=> ?_,Rv h.2⟩;obtain⟨b,hb,e⟩:=List.any_eq_true.1 hm;rw[beq_iff_eq]at e;exact h.1 (e▸hb)
theorem XU(n:Nat):na (List.range n)=true:=Rv List.nodup_range
def tz(P:Program)(dW:oD):Prop:=∀g args r,dW g args=some (some r)→bm P g args (·=r)
def pJ(P:Program):Prop:=∀(f:FuncId)(fn:Func),P.funcs[f]?=some fn→(fn.name== "runtime.NumGoroutine")=false
def sT(P:Program)(run:uG):Prop:=∀fl lo c s e s',run fl lo c s=some (e,s')→∀(r:Option Nat)(N0:Nat)(Q:Exit→St→Prop),(fl=true→r=none)→Q e.exit s'→bH P r N0 c Q s
section
variable {run:uG} {P:Program} {dW:oD} {lo:Nat} {s s':St}
theorem DN(hP:pJ P)(hr:sT P run){f:FuncId}{args:List AV}{h h':List ak}{r:AV}(e:bE run P lo f args h=some (r,h')):bW P f args h fun r1 h1=>r1=r∧h1=h':=by
 unfold bE at e;split at e
 ·next fn hf=>
  split at e
  ·next c hc=>
   rw[xI]at e;split at e
   ·cases e
   ·next x s1 hx e1=>
    split at e
    ·next l e2=>
     cases e
     refine Ww hf hc (hP _ _ hf) (hr _ _ _ _ _ _ e1 _ _ _ (fun _=>rfl) ?_);have k:=Aq (P:=P) (s:=s1) fn.results.toList l (fun l'=>gJ l'=gJ l∧s1.h=s1.h) e2 ⟨rfl,rfl⟩;cases x with
     |n=>exact k
     |r=>exact k
     |x i=>exact(hx i rfl).elim
    ·cases e
   ·cases e
  ·cases e
 ·cases e
theorem bW.Tc{f:FuncId}{args:List AV}{h0 h h2:List ak}{r r2:AV}{tl:List (Nat×AV)}(hc:bW P f args h0 fun r1 h1=>r1=r∧h1=h)
 (hT:∀(G:Gh)(w:World)(a:Act),c7 G w a ⟨1,[(0,r)],h⟩→∃G',bZ G.N G w G' w∧G'.N=G.N∧c7 G' w a ⟨1,(0,r2)::tl,h2⟩):bW P f args h0 fun r1 h1=>r1=r2∧h1=h2:=by
 refine⟨hc.1,fun G w vs hi hl hv=>(hc.2 G w vs hi hl hv).mono fun e w' hp=> ?_⟩;obtain⟨v,G',_,_,rfl,hE,hN,dR,IP,rfl,rfl⟩:=hp;obtain⟨G2,e1,e2,e3⟩:=hT G' w' {tmps:= #[v],defers:=[]} ⟨rfl,fun i=>by
  show aG G' w' _ (bz [(0,_)] i);rw[jX];split
  ·next ei=>subst ei;exact IP
  ·exact .dead _,dR,n7.nil _ _⟩
 exact⟨v,G2,r2,h2,rfl,hE.trans (e1.less hN),by rw[e2];exact hN,e3.inv,e3.tmp 0,rfl,rfl⟩
theorem QE{f:FuncId}{args:List AV}{h0:List ak}:∀(l:List Nat){h h2:List ak}{r r2:AV},(bW P f args h0 fun r1 h1=>r1=r∧h1=h)→HB l r h=some (r2,h2)→bW P f args h0 fun r1 h1=>r1=r2∧h1=h2
 |[],h,h2,r,r2,hc,e=>by cases e;exact hc
 |b::l,h,h2,r,r2,hc,e=>by
  unfold HB at e;split at e
  ·next cs e1=>
   split at e
   ·next ds e2=>
    refine QE l (bW.Tc (tl:=[]) hc fun G w a hs=> ?_) e;refine hs.xQ (b:=b) ?_;simp only[Go.Proofs.YtphmhnabilhbgaaGreatDoor.xQ,e1,e2];rfl
   ·cases e
  ·cases e
theorem N2:∀{l:List AV}{ds:List D},HN l=some ds→l=ds.map AV.d
 |[],ds,h=>by cases h;rfl
 |x::l,ds,h=>by
  unfold HN at h;split at h
  ·next d r e1 e2=>
   cases h
   rw[N2 e2];cases x<;>simp [TX]at e1
   subst e1;rfl
  ·cases h
theorem Ud:∀{l:List (List AV)}{xs:List (List D)},GG l=some xs→l=aK xs
 |[],xs,h=>by cases h;rfl
 |x::l,xs,h=>by
  unfold GG at h;split at h
  ·next d r e1 e2=>cases h;rw[Ud e2,N2 e1];rfl
  ·cases h
theorem CM{f:FuncId}{args:List AV}{h0:List ak}:∀(l:List Nat){h:List ak}{r:AV},(bW P f args h0 fun r1 h1=>r1=r∧h1=h)→bW P f args h0 fun r1 h1=>r1=(tu l r h).1∧h1=(tu l r h).2
 |[],h,r,hc=>hc
 |b::l,h,r,hc=>by
  unfold tu;split
  ·next e k cs e1=>
   split
   ·next xs e2=>
    rw[AV.force_eq,lf,cond_eq_ite];split
    ·next h1=>
     refine CM l (bW.Tc (tl:=[]) hc fun G w a hs=> ?_);have e3:=Ud e2;exact hs.Jq xs (by show h[b]?=_;rw[e1,e3]) (fun c hc=>agT.1 h1 c hc)
    ·exact CM l hc
   ·exact CM l hc
  ·exact CM l hc
theorem Ko{f:FuncId}{args:List AV}{h:List ak}{r r2:AV}(hc:bW P f args [] fun r1 h1=>r1=r∧h1=h)(e:Jp r h=some r2)(hb:r2.aS 0=true):bm P f args (·=r2):=by
 have fin:∀{r:AV}{h:List ak},(bW P f args [] fun r1 h1=>r1=r∧h1=h)→(r.bI 0).aS 0=true→bm P f args (·=r.bI 0):=fun hc hb=>
  (hc.cut 0 (agE _) (Nat.zero_le _) (by simp) hb).mono fun r1 h1 ⟨k1,k2⟩=>⟨by simpa using k2,k1⟩
 have gen:∀{r:AV}{h:List ak},(bW P f args [] fun r1 h1=>r1=r∧h1=h)→EG r h=some r2→bm P f args (·=r2):=fun hc e=>by
  unfold EG at e;split at e
  ·next r3 h3 e1=>
   cases e
   exact fin (QE _ hc e1) hb
  ·cases e
 unfold Jp at e;rcases gZ e with⟨_,e⟩|⟨_,e⟩
 ·exact gen (CM _ hc) e
 ·exact gen hc e
theorem M4(hP:pJ P)(hm:tz P dW)(hr:sT P run){g:FuncId}{args:List AV}{r:AV}(e:Cp run P dW g args=some r):bm P g args (·=r):=by
 unfold Cp at e;split at e
 ·next e1=>cases e;exact hm _ _ _ e1
 ·split at e
  ·next r0 h0 e1=>
   split at e
   ·next r1 e2=>
    obtain⟨hb,he⟩:=cV e;cases he
    exact Ko (DN hP hr e1) e2 hb
   ·cases e
  ·cases e
theorem Z7{g:FuncId}{args:List AV}{h h':List ak}{r:AV}(hc:bW P g args h fun r1 h1=>r1=r∧h1=h')(hf:gu h.length h h')(ha:args.all (AV.aS h.length)=true)(hh:h.all (ak.aS h.length)=true)(hr:(r.bI h.length).aS h.length=true)(e:List ak):
 bW P g args (h++e) fun r1 h1=>r1=r.bI h.length∧h1=h++e:=by
 have ht:h'.take h.length=h:=hf.1.trans (by rw[List.take_length]);have hp:(h'.take h.length).map (ak.bI h.length)=h:=by rw[ht];exact FC hh
 have h1:=hc.cut h.length (agE _) hf.2 (by rw[hp];exact hh) hr;rw[hp]at h1;have h2:=h1.rq (h:=h) (l:=List.range h.length) (XU h.length) (by
  apply List.ext_getElem?;intro i;rw[agA,agA];by_cases hi:i<h.length
  ·rw[List.getElem?_range hi,agx hi];simp only[Option.map_some];rw[agx hi,W7 (agT.1 hh _ (List.getElem_mem hi))]
  ·rw[agZ (by simpa using hi),agZ (by omega)];rfl) (by rw[ha,hh,hr];rfl) e
 rw[RW hr]at h2;have ea:args.map (AV.aR (rn (List.range h.length) 0))=args:=(agY fun x hx=>RW (agT.1 ha x hx)).trans (List.map_id _);rw[ea]at h2;exact h2
theorem LQ(hP:pJ P)(hm:tz P dW)(hr:sT P run)(J:nt run){dr:Bool}{g:FuncId}{args:List AV}{h h':List ak}{r:AV}(e:uU run P dW lo dr g args h=some (r,h')):
 bW P g args h (fun r1 h1=>r1=r∧h1=h')∧(dr=true→h'=h∧∀e,bW P g args (h++e) fun r1 h1=>r1=r∧h1=h++e):=by
 unfold uU at e;rcases gZ e with⟨hp,e⟩|⟨_,e⟩
 ·split at e
  ·next r0 e1=>
   obtain⟨hb,he⟩:=cV e;cases he
   have h0:=M4 hP hm hr e1;rw[agv]at hp;exact⟨h0.use hp.1 hb ⟨rfl,rfl⟩,fun _=>⟨rfl,fun e=>h0.use hp.1 hb ⟨rfl,rfl⟩⟩⟩
  ·cases e
 ·rcases gZ e with⟨hd,e⟩|⟨hd,e⟩
  ·obtain⟨hb,e⟩:=gk e;rw[agv]at hb;split at e
   ·next r0 h0 e1=>
    obtain⟨hl,he⟩:=cV e;cases he
    have k:=Z7 (DN hP hr e1) (BO J e1 (agE _)) hb.1 hb.2 hl;refine⟨?_,fun _=>⟨rfl,k⟩⟩;have:=k [];rw[agO]at this;exact this
   ·cases e
  ·exact⟨DN hP hr e,fun h=>by rw[hd]at h;cases h⟩
theorem Vu(hr:sT P run){o:Oper}{K:St→Prop}{k:Nat}{x:AV}{b:Bool}{h':List ak}(e:Dw run lo k x s.h=some (b,h'))(hK:K ((s.wh h').put o.dst (.d (.v (.bool b))))):
 ∃p as bd cs,s.h[k]?=some (.lp .ready p as bd cs)∧p<cs.length∧∀(l N0:Nat),bH P (some l) N0 as (gN (fun s1=>∃p1 jj jo jS,s1.h[k]?=some (.lp .ready p1 jj jo jS)∧bH P (some l) N0 bd (Sn (fun b h'=>K ((s.wh h').put o.dst (.d (.v (.bool b))))) k) ⟨s1.n,s1.t,s1.h.set k (.lp .busy p1 jj jo jS)⟩) (fun _ _=>False)) ⟨cs.length,(p,x)::iN 0 cs,s.h⟩:=by
 unfold Dw at e;obtain⟨_,e⟩:=gk e;split at e
 ·next p as bd cs hk=>
  obtain⟨hp,e⟩:=gk e;rw[cZ]at hp;refine⟨p,as,bd,cs,hk,hp,fun l N0=> ?_⟩;split at e
  ·next s1 e1=>
   refine hr _ _ _ _ _ _ e1 _ _ _ (fun h=>Bool.noConfusion h) ?_;split at e
   ·next p1 jj jo jS mD=>
    split at e
    ·next ee s2 e2=>
     refine⟨p1,jj,jo,jS,mD,hr _ _ _ _ _ _ e2 _ _ _ (fun h=>Bool.noConfusion h) ?_⟩;split at e
     ·next p2 mv ml gH nx=>
      split at e
      ·cases e;exact⟨p2,mv,ml,gH,nx,hK⟩
      ·cases e;exact⟨p2,mv,ml,gH,nx,hK⟩
      ·cases e;exact⟨p2,mv,ml,gH,nx,hK⟩
     ·cases e
    ·cases e
   ·cases e
  ·cases e
 ·cases e
def Pf(P:Program)(dr ls:Bool)(o:Oper)(K:St→Prop)(s:St):Prop:=bif dr then oC ls P o K s else lF P o K s
theorem Uw(hP:pJ P)(hm:tz P dW)(hr:sT P run)(J:nt run){dr ls:Bool}{o:Oper}{K:St→Prop}(e:xV run P dW lo dr ls o s=some s')(hK:K s'):Pf P dr ls o K s:=by
 have plain:tI P lo dr o s=some s'→kX P o K s∨(dr=true∧ie o=true∧vL P o K s)∨(dr=false∧(vL P o K s∨Ni P o K s∨uX P o K s)):=fun e'=>by
  unfold tI at e';split at e'
  ·next r e0=>
   obtain⟨hb,e0⟩:=gk e0;rw[agv]at hb;have zk:dr=false:=by simpa using hb.1
   obtain⟨x,h,e1,rfl⟩:=iT e';obtain⟨d,e2,hd,rfl⟩:=Bl e1;cases e2
   obtain⟨a,p,k1,k2⟩:=Iu e0;exact .inr (.inr ⟨zk, .inl ⟨a,x,_,p,k1,k2,hK⟩⟩)
  split at e'
  ·next r e0=>
   obtain⟨x,h,e1,rfl⟩:=iT e';obtain⟨d,e2,hd,rfl⟩:=Bl e1;cases e2
   exact .inl (Lg e0 hK)
  ·rcases gZ e' with⟨uV,e'⟩|⟨zk,e'⟩
   ·obtain⟨hv,e'⟩:=gk e';split at e'
    ·next r e0=>
     obtain⟨x,h,e1,rfl⟩:=iT e';obtain⟨d,e2,hd,rfl⟩:=Bl e1;cases e2
     obtain⟨a,p,k1,k2⟩:=Iu e0;exact .inr (.inl ⟨uV,hv,a,x,_,p,k1,k2,hK⟩)
    ·cases e'
   ·split at e'
    ·next r e0=>
     obtain⟨x,h,e1,rfl⟩:=iT e';obtain⟨d,e2,hd,rfl⟩:=Bl e1;cases e2
     obtain⟨a,p,k1,k2⟩:=Iu e0;exact .inr (.inr ⟨zk, .inl ⟨a,x,_,p,k1,k2,hK⟩⟩)
    ·split at e'
     ·next e0=>
      rw[lf]at e';obtain⟨x,h,e1,rfl⟩:=iT e';cases e1
      exact .inr (.inr ⟨zk, .inr (.inl ⟨_,_, .inl e0,hK⟩)⟩)
     ·split at e'
      ·next e0=>
       obtain⟨x,h,e1,rfl⟩:=iT e';cases e1
       refine .inr (.inr ⟨zk, .inr (.inr ?_)⟩);unfold OX at e0;unfold uX;split at e0
       ·next ho=>
        split at e0
        ·next a1 a2 a3 a4 a5=>
         cases e0
         simp only[ho,a1,a2,a3,a4,a5];exact⟨(by intro h;cases h),hK⟩
        ·cases e0
       ·cases e0
      ·split at e'
       ·next e0=>
        rw[lf]at e';obtain⟨x,h,e1,rfl⟩:=iT e';cases e1
        exact .inr (.inr ⟨zk, .inr (.inl ⟨_,_, .inr ⟨_,e0⟩,hK⟩)⟩)
       ·cases e'
 have MV:dr=true→tI P lo dr o s=some s'→kX P o K s∨(ie o=true∧vL P o K s):=fun h e'=>(plain e').elim .inl fun k=>k.elim (fun k=> .inr k.2) fun k=>by rw[h]at k;cases k.1
 have U0:dr=false→tI P lo dr o s=some s'→lF P o K s:=fun h e'=>(plain e').elim (fun k=> .inr (.inr (.inl k))) fun k=>k.elim (fun k=>by rw[h]at k;cases k.1) fun k=>k.2.elim .inl fun k=>k.elim (fun k=> .inr (.inr (.inr (.inr k)))) fun k=> .inr (.inl k);unfold xV at e;split at e
 ·next c eW=>
  split at e
  ·next f hc=>
   split at e
   ·next g dt hf=>
    rcases gZ e with⟨hb,e⟩|⟨_,e⟩
    ·obtain⟨x,h,e1,rfl⟩:=iT e;simp only[agv,beq_iff_eq]at hb;obtain⟨rfl,u6,_⟩:=hb;have fr:=BO J e1 (agE _);have hh:h=s.h++h.drop s.h.length:=by
      conv=>lhs;rw[←ag6 s.h.length h]
      rw[fr.1,List.take_length]
     refine .inr (.inr (.inr ⟨u6,x,h.drop s.h.length,by rw[←hh];exact hK,fun C hC=> ?_⟩));rw[←hh]at hC;unfold cO;simp only[eW,hc,hf];exact(DN hP hr e1).mono fun r1 h1 ⟨a1,a2⟩=>by subst a1;subst a2;exact hC
    rcases gZ e with⟨hb,e⟩|⟨_,e⟩
    ·obtain⟨x,h,e1,rfl⟩:=iT e;rw[agv]at hb;obtain⟨rfl,hl⟩:=hb;obtain⟨k1,_⟩:=LQ hP hm hr J e1;cases dr with
     |true=>
      refine .inr (.inl ⟨hl,x,h,hK,fun C hC=> ?_⟩);unfold cO;simp only[eW,hc,hf];exact k1.mono fun r1 h1 ⟨a1,a2⟩=>by subst a1;subst a2;exact hC
     |false=>
      refine .inr (.inr (.inl ?_));unfold kX cO;simp only[eW,hc,hf];exact k1.mono fun r1 h1 ⟨a1,a2⟩=>by subst a1;subst a2;exact hK
    obtain⟨x,h,e1,rfl⟩:=iT e;obtain⟨k1,k2⟩:=LQ hP hm hr J e1;cases dr with
    |true=>
     obtain⟨rfl,k⟩:=k2 rfl;refine .inl ?_;unfold pj;simp only[eW,hc,hf];exact⟨x,hK,k⟩
    |false=>
     refine .inr (.inr (.inl ?_));unfold kX cO;simp only[eW,hc,hf];exact k1.mono fun r1 h1 ⟨a1,a2⟩=>by subst a1;subst a2;exact hK
   ·next g cs hf=>
    obtain⟨x,h,e1,rfl⟩:=iT e;obtain⟨k1,k2⟩:=LQ hP hm hr J e1;cases dr with
    |true=>
     obtain⟨rfl,k⟩:=k2 rfl;refine .inl ?_;unfold pj;simp only[eW,hc,hf];exact⟨g,cs,rfl,x,hK,k⟩
    |false=>
     refine .inr (.inr (.inl ?_));unfold kX cO;simp only[eW,hc,hf];exact⟨g,cs,rfl,k1.mono fun r1 h1 ⟨a1,a2⟩=>by subst a1;subst a2;exact hK⟩
   ·next k hf=>
    rcases gZ e with⟨_,e⟩|⟨hd,e⟩
    ·cases e
    ·split at e
     ·next x hx=>
      split at e
      ·next b h0 e0=>
       rw[lf]at e;obtain⟨x',h',e1,rfl⟩:=iT e;cases e1
       subst hd;refine .inr (.inr (.inr (.inl ?_)));unfold AW;simp only[eW,hc,hf,hx];obtain⟨p,as,bd,cs,q1,q2,q3⟩:=Vu hr e0 hK;exact N7 ⟨p,as,bd,cs,q1,q2,fun l=>q3 l _⟩
      ·cases e
     ·cases e
   ·cases e
  ·next hnc=>
   cases dr with
   |true=>
    rcases MV rfl e with k|k
    ·refine .inl ?_;unfold pj;simp only[eW];exact k
    ·exact .inr (.inr (.inl k))
   |false=>exact U0 rfl e
 ·next eW=>
  cases dr with
  |true=>
   rcases MV rfl e with k|k
   ·refine .inl ?_;unfold pj;split
    ·next c hc=>exact(eW c hc).elim
    ·exact k
   ·exact .inr (.inr (.inl k))
  |false=>exact U0 rfl e
theorem Kc(hP:pJ P)(hm:tz P dW)(hr:sT P run)(J:nt run){dr ls:Bool}{ops:Array Oper}{o:Oper}{K:St→Prop}(e:xG run P dW lo dr ls ops o s=some s')(hK:K s'):gM ops o s (Pf P dr ls o K s) (K (s.put o.dst (.d (.v undef)))):=by
 unfold xG at e;unfold gM;split at e
 ·next hg=>simp only[hg];exact Uw hP hm hr J e hK
 ·next j want hg=>
  simp only[hg];split at e
  ·next d hd=>
   simp only[hd];split at e
   ·next b hb=>
    simp only[hb];rcases gZ e with⟨h1,e⟩|⟨h1,e⟩
    ·have m7:b=want:=by simpa using h1
     exact⟨fun _=>Uw hP hm hr J e hK,fun h2=>by subst m7;cases b<;>cases h2⟩
    ·have m7:b≠want:=by simpa using h1
     cases e
     exact⟨fun h2=>(m7 h2).elim,fun _=>hK⟩
   ·next hb=>simp only[hb];cases e;exact hK
   ·cases e
  ·cases e
theorem G5(hP:pJ P)(hm:tz P dW)(hr:sT P run)(J:nt run){dr ls:Bool}{ops:Array Oper}{K:St→Prop}:∀(l:List Oper)(s s':St),sJ run P dW lo dr ls ops l s=some s'→K s'→(bif dr then po ls P ops l K s else nR P ops l K s)
 |[],s,s',e,hK=>by cases e;cases dr<;>exact hK
 |o::l,s,s',e,hK=>by
  unfold sJ at e;split at e
  ·next s1 e1=>
   have h2:=G5 hP hm hr J (dr:=dr) (ops:=ops) l s1 s' e hK;cases dr with
   |true=>exact Kc (K:=po ls P ops l K) hP hm hr J e1 h2
   |false=>exact Kc (K:=nR P ops l K) hP hm hr J e1 h2
  ·cases e
end
theorem abS{P:Program}{dW:oD}(hx:P.follows .mixedOrders=true)(hP:pJ P)(hm:tz P dW):∀n,sT P (pF P dW n):=by
 intro n
 induction n using Nat.strongRecOn with
 |_ n IH=>
 cases n with
 |zero=>intro fl lo c s e s' h;cases h
 |succ n=>
  have ih:=IH n (ahf n);intro fl lo c s e s' h r N0 Q fM hQ;have h0:=h;rw[JS]at h;unfold Cn at h;split at h
  ·cases h;exact et hQ
  ·next id ops draw=>
   rcases gZ h with⟨hd,h⟩|⟨hd,h⟩
   ·rcases gZ h with⟨hl,h⟩|⟨_,h⟩
    ·obtain⟨h1,rfl⟩:=sy h;subst hd;rw[agv,agv,beq_iff_eq]at hl;exact T1 (m:=true) _ hx hl.2.1 hl.2.2 (G5 hP hm ih (CA n) (dr:=true) (ls:=true) (ops:=ops) (K:=Q .normal) _ _ _ h1 hQ)
    rcases gZ h with⟨_,h⟩|⟨_,h⟩
    rotate_left
    ·obtain⟨h1,rfl⟩:=sy h;subst hd;exact KM (m:=true) hx fun hN kK=>Yn (Mp _) hN kK (fun o _ s s1 e K1 Wb=>Kc (K:=K1) (dr:=true) (ls:=true) hP hm ih (CA n) e Wb) h1 ⟨_,ir.refl _ _,hQ⟩
    rename_i hl
    obtain⟨h1,rfl⟩:=sy h;subst hd;have:=AH (P:=P) (r:=r) (N0:=N0) (Q:=Q) (s:=s) (id:=id) (l:=ops.toList) hx (by simpa using hl) (by
     have:=G5 hP hm ih (CA n) (dr:=true) (ops:=ops) (K:=Q .normal) _ _ _ h1 hQ
     simpa using this)
    simpa using this
   ·obtain⟨h1,rfl⟩:=sy h;subst hd;exact fq (G5 hP hm ih (CA n) (dr:=false) (ops:=ops) (K:=Q .normal) _ _ _ h1 hQ)
  ·refine aN ?_;split at h
   ·next s1 e1=>exact ih _ _ _ _ _ _ e1 _ _ _ fM (show bH P r N0 _ Q s1 from ih _ _ _ _ _ _ h _ _ _ fM hQ)
   ·next s1 e1=>cases h;exact ih _ _ _ _ _ _ e1 _ _ _ fM hQ
   ·next s1 e1=>cases h;exact ih _ _ _ _ _ _ e1 _ _ _ fM hQ
   ·cases h
  ·split at h
   ·next b hb=>
    rcases gZ h with⟨ht,h⟩|⟨ht,h⟩
    ·subst ht;exact lA hb (ih _ _ _ _ _ _ h _ _ _ fM hQ)
    ·subst ht;exact ld hb (ih _ _ _ _ _ _ h _ _ _ fM hQ)
   ·cases h
  ·refine e6 ?_;split at h
   ·next i s1 e1=>
    rcases gZ h with⟨ht,h⟩|⟨ht,h⟩
    ·cases h;exact ih _ _ _ _ _ _ e1 _ _ _ fM (kZ ht hQ)
    ·cases h;exact ih _ _ _ _ _ _ e1 _ _ _ fM (Sm ht hQ)
   ·next s1 e1=>cases h;exact ih _ _ _ _ _ _ e1 _ _ _ fM hQ
   ·next s1 e1=>cases h;exact ih _ _ _ _ _ _ e1 _ _ _ fM hQ
   ·cases h
  ·cases h;exact jZ hQ
  ·cases h;exact dM hQ
  ·next b=>
   clear h ih;constructor
   intro G w a m hs hN;refine Gi (fun(i:Nat) a' w'=>∃G' s1,i<n+1∧pF P dW (i+1) fl lo (.loop b) s1=some (e,s')∧bZ N0 G w G' w'∧N0≤G'.N∧c7 G' w' a' s1) id n ⟨G,s,ahf n,h0,bZ.refl _ _ _,hN,hs⟩ ?_;rintro i a' w' ⟨G',s1,hi,h1,hE,Ab,cM⟩;rw[JS]at h1;unfold Cn at h1;have I9:=IH i hi;refine wpIn_mono ((bH.run (Q:=fun e1 s2=>(e1= .normal∧∃i' s3,i'<i∧pF P dW (i'+1) fl lo (.loop b) s3=some (e,s')∧s3.n=s2.n∧s3.h=s2.h∧∀j,bz s3.t j=bz s2.t j∨bz s3.t j= .dead)∨(e1≠ .normal∧Q e1 s2)) ?_) G' w' a' m cM Ab) fun e1 a2 w2 hn=> ?_
   ·simp only at h1;split at h1
    ·next s2 e2=>
     refine I9 _ _ _ _ _ _ e2 _ _ _ fM (.inl ⟨rfl,?_⟩);obtain⟨l',h2,h3⟩:=F2 s2.t 0 fun t=>pF P dW i fl lo (.loop b) ⟨s2.n,t,s2.h⟩;rw[xI,h2]at h1;cases i with
     |zero=>cases h1
     |succ i'=>exact⟨i',_,ahf _,h1,rfl,rfl,fun j=> .inl (by show bz l' j=_;rw[h3];simp)⟩
    ·next s2 e2=>cases h1;exact I9 _ _ _ _ _ _ e2 _ _ _ fM (.inr ⟨(by intro h;cases h),hQ⟩)
    ·next s2 e2=>cases h1;exact I9 _ _ _ _ _ _ e2 _ _ _ fM (.inr ⟨(by intro h;cases h),hQ⟩)
    ·cases h1
   ·obtain⟨G2,s2,gY,HK,qM,hq⟩:=hn;rcases hq with⟨rfl,i',s3,aO,h3,e1,e2,e3⟩|⟨da,hq⟩
    ·exact⟨i',⟨G2,s3,Nat.lt_trans aO hi,h3,hE.trans gY,HK,qM.less e1 e2 e3⟩,aO⟩
    ·cases e1 with
     |normal=>exact(da rfl).elim
     |_=>exact⟨G2,s2,hE.trans gY,HK,qM,hq⟩
  ·next g ps assign body=>
   obtain⟨hf,h5⟩:=gk h;clear h0 h;revert h5;intro h;have p6:=fM hf;subst p6;split at h
   ·next p gf dt we hg=>
    have Xt:ps= #[p]:=by
     have:=congrArg List.toArray we
     simpa using this
    subst Xt;split at h
    ·next r1 h1 e1=>
     have hc:=(DN hP ih e1).mono fun _ _ hk=>hk.2;split at h
     ·next ls p1 jj jo jS hk=>
      refine ae6 hg hc hk ?_;split at h
      ·rw[lf]at h;cases h;exact hQ
      ·rw[lf]at h;cases h;exact dM hQ
      ·rw[lf]at h;cases h;exact jZ hQ
      ·cases h
     ·cases h
    ·cases h
   ·cases h
  ·cases h
theorem afl{P:Program}{dW:oD}(hx:P.follows .mixedOrders=true)(hP:pJ P)(hm:tz P dW)(n:Nat){g:FuncId}{args:List AV}{r:AV}(e:Cp (pF P dW n) P dW g args=some r):bm P g args (·=r):=
 M4 hP hm (abS hx hP hm n) e
def JM:oD:=fun _ _=>none
theorem aff(P:Program):tz P JM:=fun _ _ _ h=>by cases h
theorem Rg:∀(H' H e:List ak),H'.length=H.length→gz (List.range H.length) H' (H++e)=H'++e:=by
 intro H' H e hl;have gen:∀(n:Nat)(a b B r:List ak),b.length=n→B.length=n→gz ((List.range n).map (a.length+·)) B (a++(b++r))=a++(B++r):=by
  intro n
  induction n with
  |zero=>intro a b B r hb hB;rw[List.length_eq_zero_iff.1 hb,List.length_eq_zero_iff.1 hB];simp [gz]
  |succ n ih=>
   intro a b B r hb hB;cases b with
   |nil=>simp at hb
   |cons b0 b=>
    cases B with
    |nil=>simp at hB
    |cons B0 B=>
     rw[List.range_succ_eq_map,agS,List.map_map,gz];have e1:(a++(b0::b++r)).set (a.length+0) B0=(a++[B0])++(b++r):=by
       rw[Nat.add_zero,List.set_append_right _ _ (agE _),Nat.sub_self];simp
     have e2:(fun x=>a.length+x)∘Nat.succ=fun x=>(a++[B0]).length+x:=by
      funext x
      simp only[Function.comp_apply,agu,agw,agF];omega
     rw[e1,e2,ih (a++[B0]) b B r (by simpa using hb) (by simpa using hB)];simp
 have:=gen H.length [] H H' e rfl hl
 simpa using this
theorem LH{P:Program}{k:Nat}{x:AV}{H:List ak}{C:Bool→List ak→Prop}(hy:YS P k x H C)(e:List ak)(hb:H.all (ak.aS H.length)=true)(hx:x.aS H.length=true)
 (hC:∀b h',C b h'→h'.length=H.length∧h'.all (ak.aS H.length)=true):YS P k x (H++e) fun b h'=>∃H',C b H'∧h'=H'++e:=by
 intro G w v r n hi hv;have uy:∀i,i<H.length→rn (List.range H.length) (H++e).length i=i:=fun i h=>xa (List.range H.length) _ i i (by rw[List.getElem?_range h]);have FU:∀y:AV,y.aS H.length=true→y.aR (rn (List.range H.length) (H++e).length)=y:=fun y hy=>(rm (τ:=id) uy y hy).trans (yM y);have DG:∀B:ak,B.aS H.length=true→B.aR (rn (List.range H.length) (H++e).length)=B:=fun B hB=>(GQ (τ:=id) uy B hB).trans (HC B);obtain⟨G0,cJ,qz,qF,K3⟩:=SZ (H:=H) (l:=List.range H.length) (h:=H++e) List.nodup_range (fun j hj=>by have:=List.mem_range.1 hj;simp;omega) (fun i j nq=>by
  obtain⟨aO,rfl⟩:i<H.length∧j=i:=by
   have h1:=(agt.1 nq).1;rw[List.length_range]at h1;rw[List.getElem?_range h1]at nq;exact⟨h1,(agM nq).symm⟩
  rw[agD aO,agx aO,Option.map_some,DG _ (agT.1 hb _ (List.getElem_mem aO))]) (by simp) hb hi
 obtain⟨hk,p,as,bd,fn,tm,D,h1,h2⟩:=hy G0 w v r n qz (aG.sL qF (by rw[FU x hx];exact hv) x rfl (by rw[cJ];exact hx));have lJ:k<H.length:=cJ▸hk;have gR:G.bo k=G0.bo k:=by
  have:=qF.bo k hk
  rwa [uy k lJ]at this
 refine⟨by have:=qF.lt k hk;rwa [uy k lJ]at this,p,as,bd,fn,tm,D,by rw[gR];exact h1,?_⟩;rw[gR];refine h2.mono fun e1 w' hp=> ?_;obtain⟨b,G1,H',rfl,hE,fJ,iU,hc⟩:=hp;rw[cJ]at hE fJ;obtain⟨G2,a1,a2,a3,_⟩:=K3 G1 w' H' hE fJ iU;obtain⟨c1,c2⟩:=hC b H' hc;refine⟨b,G2,H'++e,rfl,a1,a2,?_,H',hc,rfl⟩;have hm:H'.map (ak.aR (rn (List.range H.length) (H++e).length))=H':=(agY fun B hB=>DG B (agT.1 c2 B hB)).trans (List.map_id _);rw[hm,Rg H' H e c1]at a3;exact a3
def lQ(P:Program)(k:Nat):List AV→(Bool→List ak→Prop)→List ak→Prop
 |[],C,h=>C true h
 |x::l,C,h=>YS P k x h fun b h1=>(h1.length=h.length∧h1.all (ak.aS h.length)=true)∧bif b then lQ P k l C h1 else C false h1
theorem Qu{P:Program}{k:Nat}:∀(l:List AV){C C':Bool→List ak→Prop}{h:List ak},(∀b h1,C b h1→C' b h1)→lQ P k l C h→lQ P k l C' h
 |[],_,_,_,hc,hs=>hc _ _ hs
 |x::l,C,C',h,hc,hs=>YS.mono hs fun b h1 ⟨h2,h3⟩=>⟨h2,by
  cases b with
  |true=>exact Qu l hc h3
  |false=>exact hc _ _ h3⟩
theorem Rz{P:Program}{k:Nat}:∀(l l':List AV){C:Bool→List ak→Prop}{h:List ak},lQ P k (l++l') C h→lQ P k l (fun b h1=>bif b then lQ P k l' C h1 else C false h1) h
 |[],_,_,_,hs=>hs
 |x::l,l',C,h,hs=>YS.mono hs fun b h1 ⟨h2,h3⟩=>⟨h2,by
  cases b with
  |true=>exact Rz l l' h3
  |false=>exact h3⟩
def td(h h1:List ak):Prop:=h1.length=h.length∧h1.all (ak.aS h.length)=true
def Mz(P:Program)(gf:FuncId)(dt:List AV)(xs:List AV):Prop:=
 ∀(k:Nat)(h:List ak)(C:Bool→List ak→Prop),h.all (ak.aS h.length)=true→k<h.length→lQ P k xs C h→bW P gf (.dj k::dt) h fun _ h1=>∃b,C b h1
def TQ(P:Program)(T:TypeId):List AV:=match gO P T with|some z=>z.cells.toList.map fun u=> .d (.v u)|none=>[]
section
variable {P:Program} {r:Option Nat} {N0:Nat} {Q:Exit→St→Prop} {ops:Array Oper} {o o1 o2 o3 o4 o5:Oper} {s:St} {K:St→Prop} {id:Nat}
theorem cH{rest:List Oper}(hg:o.guard=none)(h:lF P o (nR P ops rest K) s):nR P ops (o::rest) K s:=by
 unfold nR gM;rw[hg];exact h
theorem CC{n d:Nat}{t:List (Nat×AV)}{h h':List ak}{x:AV}{hd:HD}(hx:kA P o.op (ev ⟨n,t,h⟩) h=some (x,hd))(eR:o.dst=some d)(hn:Nat.ble n d=false)(he:hd.app h=h')(hK:K ⟨n,(d,x)::t,h'⟩):lF P o K ⟨n,t,h⟩:=by
 refine .inr (.inr (.inl (Lg hx ?_)));show K ((St.wh ⟨n,t,h⟩ (hd.app h)).put o.dst x);rw[eR,he];have aO:d<n:=Nat.lt_of_not_le fun hle=>by rw[Nat.ble_eq_true_of_le hle]at hn;cases hn
 rw[pD (s:=St.wh ⟨n,t,h⟩ h') aO];exact hK
theorem du{n d:Nat}{t:List (Nat×AV)}{h:List ak}{x:AV}(hx:kA P o.op (ev ⟨n,t,h⟩) h=some (x, .same))(eR:o.dst=some d)(hn:Nat.ble n d=false)(hK:K ⟨n,(d,x)::t,h⟩):lF P o K ⟨n,t,h⟩:=CC hx eR hn rfl hK
theorem Mm{n:Nat}{t:List (Nat×AV)}{h h':List ak}{x:AV}{hd:HD}(hx:kA P o.op (ev ⟨n,t,h⟩) h=some (x,hd))(eR:o.dst=none)(he:hd.app h=h')(hK:K ⟨n,t,h'⟩):lF P o K ⟨n,t,h⟩:=by
 refine .inr (.inr (.inl (Lg hx ?_)));show K ((St.wh ⟨n,t,h⟩ (hd.app h)).put o.dst x);rw[eR,he];exact hK
theorem abX{h l:List ak}{i off:Nat}{cs:List AV}(hi:l[i]?=some (.cells cs)):vn (h++l) (.ptr (h.length+i) off)=some (cs,off):=by
 unfold vn;simp only;rw[agJ (ag8 _ _),Nat.add_sub_cancel_left,hi]
theorem zX{ρ:Operand→AV}{h l:List ak}{T:TypeId}{p:Operand}{i off:Nat}{cs:List AV}{x:AV}(hp:ρ p= .ptr (h.length+i) off)(hi:l[i]?=some (.cells cs))(hl:yp P T cs off=some x):kA P (.load T p) ρ (h++l)=some (x, .same):=by
 unfold kA;simp only[hp,abX hi,hl,pX]
theorem Y7{ρ:Operand→AV}{h l:List ak}{T:TypeId}{y:Operand}{v:AV}(hv:ρ y=v)(hb:v.iy=true):kA P (.box T y) ρ (h++l)=some (.ptr (h.length+l.length) 0, .push (.cells v.cells)):=by
 subst hv;unfold kA;simp only[hb,cond_true,agu]
theorem IY{ρ:Operand→AV}{h l:List ak}{T:TypeId}(hz:(gO P T).isSome=true):kA P (.alloc T) ρ (h++l)=some (.ptr (h.length+l.length) 0, .push (.cells (TQ P T))):=by
 unfold kA TQ;cases e:gO P T with
 |none=>rw[e]at hz;cases hz
 |some z=>simp only[e,agu]
theorem Gb{h l:List ak}{B:ak}:(HD.push B).app (h++l)=h++(l++[B]):=by simp [HD.app]
theorem L6{ρ:Operand→AV}{h l:List ak}{T:TypeId}{p y:Operand}{i off k:Nat}{cs:List AV}{v:AV}(hp:ρ p= .ptr (h.length+i) off)(hi:l[i]?=some (.cells cs))(hk:fA P T=some k)(hv:ρ y=v)(hb:(k==v.cells.length&&v.iy&&cd (off+v.cells.length) cs.length)=true){cp:List AV}(fK:gy cs off v.cells=cp):
 kA P (.store T p y) ρ (h++l)=some (.d (.v undef), .set (h.length+i) (.cells cp)):=by
 subst hv fK;unfold kA;simp only[hp,hk];rw[agJ (ag8 _ _),Nat.add_sub_cancel_left,hi];simp only[hb,cond_true]
theorem Jn{ρ:Operand→AV}{h:List ak}{T:TypeId}{a i:Operand}{xs:List (List D)}{q e k:Nat}{c:List D}(hx:ρ a= .d (.sl xs))(hi:ρ i= .d (.v (.int .i64 (Int.ofNat q))))(hT:dY P T=some (e,k))(hc:xs[q]?=some c)(hk:(c.length==k)=true):kA P (.indexAddr T a i) ρ h=some (.bn [c] 0 0, .same):=by
 unfold kA;simp only[hx,hi];unfold Gk;simp only[hT,AV.fG,AV.int?,zN,hc,hk,cond_true,pX]
theorem KZ{h l:List ak}{B:ak}{i:Nat}:(HD.set (h.length+i) B).app (h++l)=h++l.set i B:=by
 simp only[HD.app];rw[List.set_append_right _ _ (ag8 _ _),Nat.add_sub_cancel_left]
theorem Cx{n d:Nat}{t:List (Nat×AV)}{h:List ak}{T:TypeId}{x y:Operand}{p:TypeId}{xs:List (List D)}{q:TypeId×Nat}(ho:o.op= .binOp .eql T x y p)(hx:(ev ⟨n,t,h⟩ x).fG=some xs)(hy:ev ⟨n,t,h⟩ y= .d (.v (.slice none 0 0)))(hT:dY P T=some q)(eR:o.dst=some d)(hn:Nat.ble n d=false)
 (h1:xs=[]→K ⟨n,(d, .d (.v (.bool true)))::t,h⟩) (h2:K ⟨n,(d, .d (.v (.bool false)))::t,h⟩):lF P o K ⟨n,t,h⟩:=by
 refine .inr (.inl ?_);have aO:d<n:=Nat.lt_of_not_le fun hle=>by rw[Nat.ble_eq_true_of_le hle]at hn;cases hn
 unfold uX;simp only[ho,hx,hy,hT,ql,eR,pD (s:=⟨n,t,h⟩) aO];exact⟨h1,h2⟩
theorem EE{n d k:Nat}{t:List (Nat×AV)}{h:List ak}{c:Call}{f:Operand}{x:AV}(ho:o.op= .call c)(hc:c.callee= .value f)(hf:ev ⟨n,t,h⟩ f= .dj k)(hx:c.args.toList.map (ev ⟨n,t,h⟩)=[x])(eR:o.dst=some d)(hn:Nat.ble n d=false)
 (hy:YS P k x h fun b h'=>K ⟨n,(d, .d (.v (.bool b)))::t,h'⟩):lF P o K ⟨n,t,h⟩:=by
 refine .inr (.inr (.inr (.inl ?_)));unfold AW;simp only[ho,hc,hf,hx];refine hy.mono fun b h' hK=> ?_;have aO:d<n:=Nat.lt_of_not_le fun hle=>by rw[Nat.ble_eq_true_of_le hle]at hn;cases hn
 rw[eR,pD (s:=St.wh ⟨n,t,h⟩ h') aO];exact hK
theorem Tb{n:Nat}{t:List (Nat×AV)}{h:List ak}{c:Call}{f:Operand}{g:FuncId}{dt:List AV}(ho:o.op= .call c)(hc:c.callee= .value f)(hf:ev ⟨n,t,h⟩ f= .fn g dt)
 (hA:bW P g (c.args.toList.map (ev ⟨n,t,h⟩)++dt) h fun x h'=>K ((St.wh ⟨n,t,h⟩ h').put o.dst x)):lF P o K ⟨n,t,h⟩:=by
 refine .inr (.inr (.inl ?_));unfold kX cO;simp only[ho,hc,hf];exact hA
end
theorem adb{P:Program}{f:FuncId}{args:List AV}{H:List ak}{K:AV→List ak→Prop}(hc:bW P f args H K)(e:List ak)(hb:H.all (ak.aS H.length)=true)(ha:args.all (AV.aS H.length)=true)
 (hK:∀r h',K r h'→h'.length=H.length∧h'.all (ak.aS H.length)=true∧r.aS H.length=true):bW P f args (H++e) fun r h'=>∃H',K r H'∧h'=H'++e:=by
 have uy:∀i,i<H.length→rn (List.range H.length) (H++e).length i=i:=fun i h=>xa (List.range H.length) _ i i (by rw[List.getElem?_range h]);have FU:∀y:AV,y.aS H.length=true→y.aR (rn (List.range H.length) (H++e).length)=y:=fun y hy=>(rm (τ:=id) uy y hy).trans (yM y);have DG:∀B:ak,B.aS H.length=true→B.aR (rn (List.range H.length) (H++e).length)=B:=fun B hB=>(GQ (τ:=id) uy B hB).trans (HC B);have:=hc.Ua (l:=List.range H.length) (h:=H++e) List.nodup_range (fun j hj=>by have:=List.mem_range.1 hj;simp;omega) (fun i j nq=>by
  obtain⟨aO,rfl⟩:i<H.length∧j=i:=by
   have h1:=(agt.1 nq).1;rw[List.length_range]at h1;rw[List.getElem?_range h1]at nq;exact⟨h1,(agM nq).symm⟩
  rw[agD aO,agx aO,Option.map_some,DG _ (agT.1 hb _ (List.getElem_mem aO))]) (by simp) ha hb
 have ea:args.map (AV.aR (rn (List.range H.length) (H++e).length))=args:=(agY fun x hx=>FU x (agT.1 ha x hx)).trans (List.map_id _);rw[ea]at this;refine this.mono fun r' h' ⟨r,H',k1,k2,k3⟩=> ?_;obtain⟨c1,c2,c3⟩:=hK r H' k1;have hm:H'.map (ak.aR (rn (List.range H.length) (H++e).length))=H':=(agY fun B hB=>DG B (agT.1 c2 B hB)).trans (List.map_id _);rw[hm,Rg H' H e c1]at k3;rw[FU r c3]at k2;exact⟨H',by rw[k2];exact k1,k3⟩
theorem adG{h:List ak}{p:AV}{K K':List AV→Nat→Prop}(hk:∀cs off,K cs off→K' cs off)(hp:qV h p K):qV h p K':=by
 unfold qV at hp ⊢;split at hp
 ·next n off=>
  split at hp
  ·next cs e=>(try simp only[e]);exact hk _ _ hp
  ·exact hp.elim
 ·next xs i off=>
  split at hp
  ·next cs e=>(try simp only[e]);exact hk _ _ hp
  ·exact hp.elim
 ·exact hp.elim
theorem abt{P:Program}{T:TypeId}{h:List ak}{p:AV}{K K':AV→Prop}(hk:∀x,K x→K' x)(hp:mG P T h p K):mG P T h p K':=
 adG (fun cs off hc=>by
  split at hc
  ·next k e1 e2=>
   try simp only[e1,e2]
   exact bY.2 ⟨(bY.1 hc).1,hk _ (bY.1 hc).2⟩
  ·next k e1 e2=>
   try simp only[e1,e2]
   split at hc
   ·next c e3=>(try simp only[e3]);exact hk _ hc
   ·exact hc.elim
  ·exact hc.elim) hp
theorem afV{P:Program}{fn:Func}{n:Nat}{t:List (Nat×AV)}{H l:List ak}{K:AV→List ak→Prop}(hb:H.all (ak.aS H.length)=true)(hr:jU P ⟨n,t,H++l⟩ fn.results.toList fun rs=>((gJ rs).bI H.length).aS H.length=true∧K ((gJ rs).bI H.length) H):pv P fn H.length K ⟨n,t,H++l⟩:=by
 have ht:(((H++l).take H.length).map (ak.bI H.length))=H:=by rw[List.take_left];exact FC hb
 unfold pv;show jU P ⟨n,t,H++l⟩ fn.results.toList fun rs=>H.length≤(H++l).length∧_;simp only[ht];have gen:∀(rv:List ResultVar){C C':List AV→Prop},(∀x,C x→C' x)→jU P ⟨n,t,H++l⟩ rv C→jU P ⟨n,t,H++l⟩ rv C':=by
  intro rv
  induction rv with
  |nil=>intro C C' hc h;exact hc _ h
  |cons x rv ih=>
   intro C C' hc h;cases x with
   |tmp t=>exact ih (fun y hy=>hc _ hy) h
   |cell p t=>exact abt (fun x h=>ih (fun y hy=>hc _ hy) h) h
 exact gen _ (fun rs ⟨h1,h2⟩=>⟨by simp,h1,hb,h2⟩) hr
theorem AY{n:Nat}{t:List (Nat×AV)}{H l:List ak}(live:List Nat)(hb:H.all (ak.aS H.length)=true):(⟨n,t,H++l⟩:St).mask live H.length=⟨n,live.map fun k=>(k,(bz t k).bI H.length),H⟩:=by
 unfold St.mask;rw[show((H++l).take H.length).map (ak.bI H.length)=H by rw[List.take_left];exact FC hb]
theorem Ct{n:Nat}{t:List (Nat×AV)}{H l:List ak}(live:List Nat)(hb:H.all (ak.aS H.length)=true)(hl:(live.all fun k=>((bz t k).bI H.length).aS H.length)=true):(⟨n,t,H++l⟩:St).yG live H.length:=
 ⟨by simp,hl,by rw[show((H++l).take H.length).map (ak.bI H.length)=H by rw[List.take_left];exact FC hb];exact hb⟩
theorem Td{n:Nat}{t:List (Nat×AV)}{H:List ak}(live:List Nat)(hb:H.all (ak.aS H.length)=true):(⟨n,t,H⟩:St).mask live H.length=⟨n,live.map fun k=>(k,(bz t k).bI H.length),H⟩:=by
 have:=AY (n:=n) (t:=t) (l:=[]) live hb
 rwa [agO]at this
theorem M5{n:Nat}{t:List (Nat×AV)}{H:List ak}(live:List Nat)(hb:H.all (ak.aS H.length)=true)(hl:(live.all fun k=>((bz t k).bI H.length).aS H.length)=true):(⟨n,t,H⟩:St).yG live H.length:=by
 have:=Ct (n:=n) (t:=t) (l:=[]) live hb hl
 rwa [agO]at this
theorem FQ{k m:Nat}(h:k<m):((AV.dj k).bI m).aS m=true:=by simp [AV.bI,AV.aS,cd];omega
theorem Xx{P:Program}{r:Option Nat}{N0 m:Nat}{c:Code}{s:St}{R R':Exit→St→Prop}{live:List Nat}(hm:N0≤m)(h:bH P r N0 c R s)(hR:∀e s2,R e s2→∃s',iD s2 live m=some s'∧R' e s'):bH P r N0 c R' s:=by
 constructor
 intro G w a n hs hN;refine wpIn_mono (h.run G w a n hs hN) fun e a1 w1 hn=> ?_;obtain⟨G1,s1,hE,_,eX,hq⟩:=hn;obtain⟨s',k1,k2⟩:=hR e s1 hq;exact⟨G1.cut m,s',hE.trans (nM _ _ _ _),hm,eX.iD k1,k2⟩
def Fm(m:Nat)(n:Nat)(T:List (Nat×AV))(LP:ak)(next:List ak→Prop)(Q:Exit→St→Prop)(e:Exit)(s:St):Prop:=
 ∃hs,hs.length=m∧hs.all (ak.aS (m+1))=true∧iD s [] (m+1)=some ⟨s.n,[],hs++[LP]⟩∧match e with
  | .normal=>next hs
  | .ret=>Q .ret ⟨n,T,hs++[.gone]⟩
  | .exit i=>Q (.exit i) ⟨n,T,hs++[.gone]⟩
  |_=>False
theorem F7{P:Program}{N0 n m:Nat}{T:List (Nat×AV)}{H:List ak}{Q:Exit→St→Prop}{g:Operand}{p:Nat}{as bd:Code}{gf:FuncId}{dt:List AV}(hg:ev ⟨n,T,H⟩ g= .fn gf dt){α:Type}{enc:α→AV}{xs:List α}(hI:Mz P gf dt (xs.map enc))
 {ι:Type} (Hs:ι→List ak) (I:ι→List α→Prop) (i0:ι) (h0:H=Hs i0) (qz:I i0 xs) (hl:∀i,(Hs i).length=m) (nI:∀i,(Hs i).all (ak.aS (m+1))=true) (hT:(dG n T).all (AV.aS (m+1))=true) (hp:Nat.ble n p=false)
 (round:∀i x l,I i (x::l)→∀(rr:Nat)(a b:Code),bH P (some rr) (m+1) as (gN (fun s1=>∃hs e,hs.length=m∧s1.h=hs++ .lp .ready p a b (dG n T)::e∧
  bH P (some rr) (m+1) bd (Fm m n T (.lp .busy p a b (dG n T)) (fun cM=>∃i',cM=Hs i'∧I i' l) Q) ⟨s1.n,s1.t,hs++ .lp .busy p a b (dG n T)::e⟩) (fun _ _=>False)) ⟨n,(p,enc x)::iN 0 (dG n T),Hs i++[.lp .ready p a b (dG n T)]⟩)
 (done:∀i,I i []→Q .normal ⟨n,T,Hs i++[.gone]⟩):bH P none N0 (.rangeFunc g #[p] as bd) Q ⟨n,T,H⟩:=by
 subst h0;have hm:(Hs i0).length=m:=hl i0;have sQ:(dG n T).length=n:=by simp [dG]
 have Fe:∀ls,(ak.lp ls p as bd (dG n T)).aS (m+1)=true:=fun ls=>hT;refine MW hg ?_;show bW P gf (.dj (Hs i0).length::dt) (Hs i0++[.lp .ready p as bd (dG n T)]) _;have x9:∀(hs:List ak)(B B':ak),hs.length=m→(hs++[B]).set m B'=hs++[B']:=fun hs B B' h=>by
  rw[List.set_append_right _ _ (Nat.le_of_eq h),h,Nat.sub_self];rfl
 have e8:∀(hs:List ak)(B:ak)(e:List ak),hs.length=m→(hs++B::e)[m]?=some B:=fun hs B e h=>by
  rw[agJ (Nat.le_of_eq h),h,Nat.sub_self];rfl
 have seq:∀(l:List α)(i:ι),I i l→lQ P m (l.map enc) (fun b h1=>∃(hs:List ak)(ls:LS),hs.length=m∧h1=hs++[.lp ls p as bd (dG n T)]∧Ev P N0 Q ⟨n,T,hs++[.gone]⟩ ls) (Hs i++[.lp .ready p as bd (dG n T)]):=by
  intro l
  induction l with
  |nil=>intro i hi;exact⟨Hs i, .ready,hl i,rfl,done i hi⟩
  |cons x l ih=>
   intro i hi;have hlen:(Hs i++[ak.lp .ready p as bd (dG n T)]).length=m+1:=by simp [hl i]
   refine N7 ⟨p,as,bd,dG n T,e8 _ _ [] (hl i),?_,fun rr=> ?_⟩
   ·rw[sQ];exact Nat.lt_of_not_le fun hle=>by rw[Nat.ble_eq_true_of_le hle]at hp;cases hp
   ·rw[hlen,sQ];refine(round i x l hi rr as bd).mono fun e s1 eX=> ?_;cases e with
    |normal=>
     obtain⟨hs,e',k1,k2,k3⟩:=eX;refine⟨p,as,bd,dG n T,by rw[k2];exact e8 _ _ _ k1,?_⟩;have VZ:s1.h.set m (.lp .busy p as bd (dG n T))=hs++ .lp .busy p as bd (dG n T)::e':=by
      rw[k2,List.set_append_right _ _ (Nat.le_of_eq k1),k1,Nat.sub_self];rfl
     rw[VZ];refine Xx (live:=[]) (agE _) k3 fun e2 s2 hr=> ?_;obtain⟨qM,c2,c5,c3,c4⟩:=hr;refine⟨_,c3,?_⟩;have eZ:∀B,B.aS (m+1)=true→(qM++[B]).all (ak.aS (m+1))=true:=fun B hB=>by
       rw[List.all_append,c5];simp [hB]
     have vR:(qM++[ak.lp .busy p as bd (dG n T)])[m]?=some (.lp .busy p as bd (dG n T)):=e8 _ _ [] c2;cases e2 with
     |normal=>
      obtain⟨i',rfl,dR⟩:=c4;refine⟨p,as,bd,dG n T,vR,?_⟩;simp only[x9 _ _ _ c2];exact⟨⟨by simp [hl],eZ _ (Fe _)⟩,ih i' dR⟩
     |ret=>
      refine⟨p,as,bd,dG n T,vR,?_⟩;simp only[x9 _ _ _ c2];exact⟨⟨by simp [c2],eZ _ (Fe _)⟩,qM, .done .ret,c2,rfl,dM c4⟩
     |exit j=>
      refine⟨p,as,bd,dG n T,vR,?_⟩;simp only[x9 _ _ _ c2];exact⟨⟨by simp [c2],eZ _ (Fe _)⟩,qM, .done (.exit j),c2,rfl,jZ c4⟩
     |_=>exact c4.elim
    |_=>exact eX.elim
 have Nl:(Hs i0++[ak.lp .ready p as bd (dG n T)]).length=m+1:=by simp [hm]
 refine(hI (Hs i0).length _ _ (by rw[Nl,List.all_append,nI i0];simp [Fe]) (by rw[Nl,hm];exact ahf m) (by rw[hm];exact seq xs i0 qz)).mono fun _ h1 hb=> ?_;obtain⟨b,hs,ls,k1,rfl,k2⟩:=hb;refine⟨ls,p,as,bd,dG n T,?_,?_⟩
 ·show(hs++[ak.lp ls p as bd (dG n T)])[(Hs i0).length]?=_;rw[hm];exact e8 _ _ [] k1
 ·show Ev P N0 Q ⟨n,T,(hs++[ak.lp ls p as bd (dG n T)]).set (Hs i0).length .gone⟩ ls;rw[hm,x9 _ _ _ k1];exact k2
section
variable {m n:Nat} {T:List (Nat×AV)} {LP:ak} {next:List ak→Prop} {Q:Exit→St→Prop} {s:St}
theorem Ih(hs:List ak)(hl:hs.length=m)(hb:hs.all (ak.aS (m+1))=true)(hc:iD s [] (m+1)=some ⟨s.n,[],hs++[LP]⟩)(hn:next hs):Fm m n T LP next Q .normal s:=⟨hs,hl,hb,hc,hn⟩
theorem JC(hs:List ak)(hl:hs.length=m)(hb:hs.all (ak.aS (m+1))=true)(hc:iD s [] (m+1)=some ⟨s.n,[],hs++[LP]⟩)(hq:Q .ret ⟨n,T,hs++[.gone]⟩):Fm m n T LP next Q .ret s:=⟨hs,hl,hb,hc,hq⟩
theorem W2{i:Nat}(hs:List ak)(hl:hs.length=m)(hb:hs.all (ak.aS (m+1))=true)(hc:iD s [] (m+1)=some ⟨s.n,[],hs++[LP]⟩)(hq:Q (.exit i) ⟨n,T,hs++[.gone]⟩):Fm m n T LP next Q (.exit i) s:=⟨hs,hl,hb,hc,hq⟩
end
set_option linter.unusedSimpArgs false
set_option linter.unusedVariables false
abbrev Lf:=St×List Nat×List (Nat×List (In×ct))
def ry(go:Nat→Option (List Lf)):List Nat→Option (List Lf)
 |[]=>some []
 |k::r=>match go k with
  |some a=>match ry go r with
   |some b=>some (a++b)
   |none=>none
  |none=>none
def yL(P:Program)(ops:Array Oper)(A C:List Nat)(as:List (Nat×ct)):Nat→Nat→List Nat→List (Nat×List (In×ct))→St→Option (List Lf)
 |0,L,al,acc,s=>match nY A L 0 with
  |[]=>some [(s,al,acc)]
  |_=>none
 |f+1,L,al,acc,s=>match nY A L 0 with
  |[]=>some [(s,al,acc)]
  |k0::r=>ry (fun k=>match ops[k]? with
     |some o=>match mF P ops true o k as s with
      |some (s1,l)=>fN (L|||(1<<<k)) fun L=>yL P ops A C as f L (al++List.replicate (s1.h.length-s.h.length) k) ((k,l)::acc) s1
      |none=>none
     |none=>none) (match yA C L (k0::r)with
      |some k=>[k]
      |none=>k0::r)
theorem Pd{go:Nat→Option (List Lf)}:∀{l:List Nat}{ls:List Lf},ry go l=some ls→∀k∈l,∃a,go k=some a∧∀x∈a,x∈ls
 |[],_,_,k,hk=>by cases hk
 |j::r,ls,h,k,hk=>by
  unfold ry at h;split at h
  ·next a e1=>
   split at h
   ·next b e2=>
    cases h
    rcases agX.1 hk with rfl|hk
    ·exact⟨a,e1,fun x hx=>List.mem_append_left _ hx⟩
    ·obtain⟨a',e3,h3⟩:=Pd e2 k hk;exact⟨a',e3,fun x hx=>List.mem_append_right _ (h3 x hx)⟩
   ·cases h
  ·cases h
section
variable {P:Program} {ops:Array Oper} {as:List (Nat×ct)} {K:St→Prop} {s0:St}
theorem X8{o:Oper}{j:Nat}{dr:Bool}{s s1:St}{l:List (In×ct)}(h:mF P ops dr o j as s=some (s1,l))(ho:o∈ops.toList)(hB:jh (jV ops.toList) s0 s):jh (jV ops.toList) s0 s1:=by
 have cI:∀{i a r l},sq i a r=some (s1,l)→∃m,r=some (s1,m):=fun{i a r l} h=>by
  unfold sq at h;split at h
  ·exact⟨_,h⟩
  ·split at h
   ·cases h;exact⟨_,rfl⟩
   ·cases h
 have cR:∀{m r l},pE m r=some (s1,l)→∃m,r=some (s1,m):=fun{m r l} h=>by
  unfold pE at h;split at h
  ·cases h;exact⟨_,rfl⟩
  ·cases h
 have Sz:jh (jV ops.toList) s0 (AK o s):=hB.put s.h (.d (.v undef)) (Bw ho);have st:∀l,oa P dr o j as s=some (s1,l)→jh (jV ops.toList) s0 s1:=fun l h=>by
  unfold oa at h;cases hd:dr&&Di (iL as (3*j+1))&& !zC o (iL as (3*j+1))with
  |true=>rw[hd]at h;cases h
  |false=>
   rw[hd]at h;simp only[cond_false]at h;split at h
   ·split at h<;>(obtain⟨m,e⟩:=cI h;cases e;exact hB.put _ _ (Bw ho))
   ·cases h
 unfold mF at h;split at h
 ·exact st _ h
 ·split at h
  ·obtain⟨m,e⟩:=cR h;revert e;generalize ((_:Bool)==_)=q;intro e;cases q with
   |true=>exact st _ e
   |false=>cases e;exact Sz
  ·obtain⟨m,e⟩:=cR h;cases e;exact Sz
  ·cases h
theorem MY(hK:rT K)(hM:nQ (Region.before ops) ops=true)(t0:List (Nat×AV)):
 ∀(fuel L:Nat)(listed:Array Bool)(al:List Nat)(acc:List (Nat×List (In×ct)))(s:St)(ls:List Lf),LM ops L listed→Dn ops listed→yL P ops (mH ops 0 ops.size) (lN ops false (Region.before ops) 0 ops.size) as fuel L al acc s=some ls→
  (∃x,x∈ls)∧(∀x∈ls,(∀p∈acc,p∈x.2.2)∧((∃pre,s.t=pre++t0)→∃pre,x.1.t=pre++t0)∧(jh (jV ops.toList) s0 s→jh (jV ops.toList) s0 x.1))∧((∀x∈ls,(∀p∈x.2.2,gT P p.2)∧K x.1)→ly false P ops K fuel listed s)
 |0,L,listed,al,acc,s,ls,hL,hD,h=>by
  unfold yL at h;split at h
  ·next hr=>
   cases h
   refine⟨⟨_,agz⟩,fun x hx=> ?_,fun hk=>⟨?_,(hk _ agz).2⟩⟩
   ·rw[List.mem_singleton]at hx;subst hx;exact⟨fun _ h=>h,fun h=>h,fun h=>h⟩
   ·rw[List.eq_nil_iff_forall_not_mem];intro i hi;have:=(hL.ready i).1 hi;rw[hr]at this;cases this
  ·cases h
 |fuel+1,L,listed,al,acc,s,ls,hL,hD,h=>by
  have mem:∀{k:Nat}{o:Oper},ops[k]?=some o→o∈ops.toList:=fun ho=>Array.mem_toList_iff.2 (Array.mem_of_getElem? ho);unfold yL at h;split at h
  ·next hr=>
   cases h
   refine⟨⟨_,agz⟩,fun x hx=> ?_,fun hk=>⟨fun _=>(hk _ agz).2,fun i hi=> ?_⟩⟩
   ·rw[List.mem_singleton]at hx;subst hx;exact⟨fun _ h=>h,fun h=>h,fun h=>h⟩
   ·have:=(hL.ready i).1 hi;rw[hr]at this;cases this
  ·next k0 r hr=>
   generalize hgo:(fun k:Nat=>(match ops[k]? with
    |some o=>match mF P ops true o k as s with
     |some (s1,l)=>fN (L|||(1<<<k)) fun L=>yL P ops (mH ops 0 ops.size) (lN ops false (Region.before ops) 0 ops.size) as fuel L (al++List.replicate (s1.h.length-s.h.length) k) ((k,l)::acc) s1
     |none=>none
    |none=>none:Option (List Lf)))=go at h
   have one:∀k a,k∈Region.ready .any ops listed→go k=some a→∃o s1 l,ops[k]?=some o∧mF P ops true o k as s=some (s1,l)∧(∃x,x∈a)∧(∀x∈a,(∀p∈(k,l)::acc,p∈x.2.2)∧((∃pre,s.t=pre++t0)→∃pre,x.1.t=pre++t0)∧(jh (jV ops.toList) s0 s→jh (jV ops.toList) s0 x.1))∧
       ((∀x∈a,(∀p∈x.2.2,gT P p.2)∧K x.1)→∃y h1,kY false P ops o s y h1∧ly false P ops K fuel (listed.setIfInBounds k true) ((s.wh h1).put o.dst y)):=fun k a xz tG=>by
    rw[←hgo]at tG;simp only at tG;split at tG
    ·next o ho=>
     split at tG
     ·next s1 l hg=>
      rw[ox]at tG;obtain⟨h1,h2,h3⟩:=MY hK hM t0 fuel _ _ _ _ s1 a (hL.set (agI.1 ho).1) (hD.set xz) tG;refine⟨o,s1,l,ho,hg,h1,fun x hx=>⟨(h2 x hx).1,fun⟨pre,hp⟩=> ?_,fun hB=>(h2 x hx).2.2 (X8 hg (mem ho) hB)⟩,fun hk=> ?_⟩
      ·obtain⟨⟨p1,e1⟩,_⟩:=SH hg;exact(h2 x hx).2.1 ⟨p1++pre,by rw[e1,hp,agK]⟩
      ·obtain⟨x,hx⟩:=h1;have hl:gT P l:=(hk x hx).1 (k,l) ((h2 x hx).1 _ agz);have h4:=I8 (K:=(·=s1)) hg hl rfl;have h5:=h3 hk;have:∃y h1,kY false P ops o s y h1∧(s.wh h1).put o.dst y=s1:=by
        rcases Gl h4 with⟨g,hd⟩|⟨g,hd⟩
        ·obtain⟨y,h1,h2,h3⟩:=GC hd;exact⟨y,h1, .inl ⟨g,h2⟩,h3⟩
        ·exact⟨_,s.h, .inr ⟨g,rfl,rfl⟩,hd⟩
       obtain⟨y,hh,q1,rfl⟩:=this;exact⟨y,hh,q1,h5⟩
     ·cases tG
    ·cases tG
   cases hf:yA (lN ops false (Region.before ops) 0 ops.size) L (k0::r)with
   |some k=>
    rw[hf]at h;obtain⟨mD,nx⟩:=I1 hf;have xz:k∈Region.ready .any ops listed:=(hL.ready k).2 (by rw[hr];exact mD);unfold ry at h;split at h
    ·next a e1=>
     unfold ry at h;simp only[agO]at h;cases h
     obtain⟨o,s1,l,ho,hg,h1,h2,h3⟩:=one k _ xz e1;refine⟨h1,fun x hx=>⟨fun p hp=>(h2 x hx).1 p (agC _ hp),(h2 x hx).2⟩,fun hk=> ?_⟩;obtain⟨y,hh,q1,q2⟩:=h3 hk;refine F9 hK hM ho fuel listed s hD (fun j oj hj da nc qS=> ?_) xz q1 q2;have Ba:=(agI.1 hj).1;have xy:=(agI.1 ho).1;have LI:Nat.testBit L j=false:=by
      rw[hL.b];have ib:j<listed.size:=by rw[hL.sz];exact Ba
      simpa [ib]using nc
     have mc:Nat.testBit (sO ops false (Region.before ops) k) j=false:=by
      rw[←Bool.not_eq_true];intro hc;have h5:(lN ops false (Region.before ops) 0 ops.size).getD k 0=sO ops false (Region.before ops) k:=by
        rw[List.getD_eq_getElem?_getD,Lu,if_pos xy,agN];rfl
      rw[h5]at nx;have:=congrArg (fun n=>Nat.testBit n j) nx;simp only[Nat.testBit_or,hc,LI]at this;cases this
     unfold sO at mc;rw[CD]at mc;unfold JG at mc;rw[qS,ho,hj]at mc;simp [Ba,da]at mc;exact mc
    ·cases h
   |none=>
    rw[hf]at h;have Sg:=Pd h;have p6:k0∈Region.ready .any ops listed:=(hL.ready k0).2 (by rw[hr];simp);have back:∀(l:List Nat)(ls:List Lf),ry go l=some ls→∀x∈ls,∃k∈l,∃a,go k=some a∧x∈a:=by
      intro l
      induction l with
      |nil=>intro ls h x hx;cases h;cases hx
      |cons j r ih=>
       intro ls h x hx;unfold ry at h;split at h
       ·next a e1=>
        split at h
        ·next b e2=>
         cases h
         rcases ag5.1 hx with hx|hx
         ·exact⟨j,agz,a,e1,hx⟩
         ·obtain⟨k,hk,a',h1,h2⟩:=ih b e2 x hx;exact⟨k,agC _ hk,a',h1,h2⟩
        ·cases h
       ·cases h
    refine⟨?_,fun x hx=> ?_,fun hk=>⟨fun e=>(by rw[e]at p6;cases p6),fun i hi oi vG=> ?_⟩⟩
    ·obtain⟨a,e1,h1⟩:=Sg k0 agz;obtain⟨o,s1,l,ho,hg,⟨x,hx⟩,_⟩:=one k0 a p6 e1;exact⟨x,h1 x hx⟩
    ·obtain⟨k,hk,a,e1,Qz⟩:=back _ _ h x hx;obtain⟨o,s1,l,ho,hg,h1,h2,h3⟩:=one k a ((hL.ready k).2 (by rw[hr];exact hk)) e1;exact⟨fun p hp=>(h2 x Qz).1 p (agC _ hp),(h2 x Qz).2⟩
    ·have dR:i∈k0::r:=by rw[←hr];exact(hL.ready i).1 hi
     obtain⟨a,e1,h1⟩:=Sg i dR;obtain⟨o,s1,l,ho,hg,_,_,h3⟩:=one i a hi e1;rw[ho]at vG;cases vG;exact h3 fun x hx=>hk x (h1 x hx)
end
def Lp(k:Nat):List Nat→Nat
 |[]=>0
 |j::l=>bif cd (j+1) k then Lp k l+1 else Lp k l
def Kl(k:Nat):List Nat→Nat
 |[]=>0
 |j::l=>bif j==k then Kl k l+1 else Kl k l
def JB(h0:Nat)(all:List Nat):List Nat→List Nat→List Nat
 |_,[]=>[]
 |pre,k::l=>fN (h0+Lp k all+Kl k pre) fun q=>q::JB h0 all (k::pre) l
def Rw(q:Nat):List Nat→Nat→Nat
 |[],i=>i
 |x::l,i=>bif x==q then i else Rw q l (i+1)
def IM(h0:Nat)(p:List Nat):Nat→Nat→List Nat
 |0,_=>[]
 |n+1,q=>fN (Rw q p h0) fun i=>i::IM h0 p n (q+1)
def Cz(a:Nat×List (In×ct)):List (Nat×List (In×ct))→List (Nat×List (In×ct))
 |[]=>[a]
 |b::l=>bif cd a.1 b.1 then a::b::l else b::Cz a l
def C8:List (Nat×List (In×ct))→List (Nat×List (In×ct))
 |[]=>[]
 |a::l=>Cz a (C8 l)
def F6:List (Nat×List (In×ct))→List (In×ct)
 |[]=>[]
 |a::l=>a.2++F6 l
def ri(p q:List Nat)(h0:Nat)(h:List ak):Nat→Nat→List ak
 |0,_=>[]
 |n+1,i=>(match h[fk h0 q i]? with|some B=>B.aR (fk h0 p)|none=> .gone)::ri p q h0 h n (i+1)
def zP(h0:Nat)(p:List Nat):Bool:=(List.range p.length).all fun i=>p.getD i 0==h0+i
theorem aeO{h0:Nat}{p:List Nat}(h:zP h0 p=true):fk h0 p=id:=by
 funext i
 unfold fk;cases e:cd h0 i with
 |false=>rfl
 |true=>
  rw[cZ]at e;simp only[cond_true,id];by_cases hi:i-h0<p.length
  ·unfold zP at h;rw[agT]at h;have:=h (i-h0) (List.mem_range.2 hi);rw[beq_iff_eq,List.getD_eq_getElem?_getD,agx hi]at this;rw[List.getD_eq_getElem?_getD,agx hi];simp only[Option.getD_some]at this ⊢;omega
  ·rw[List.getD_eq_getElem?_getD,agZ (by omega)];rfl
def Ta(ba:List Nat)(s:St)(x:Lf)(p q:List Nat):Option (List (Nat×AV)×List ak×List (In×ct)):=
 bif (x.1.t.take (x.1.t.length-s.t.length)).all (fun p=>ba.any (·==p.1)||No (bz s.t p.1))&&(List.range x.1.h.length).all (fun i=>cd (fk s.h.length p i+1) x.1.h.length&&cd (fk s.h.length q i+1) x.1.h.length&&fk s.h.length q (fk s.h.length p i)==i&&fk s.h.length p (fk s.h.length q i)==i)
 then some (ba.map fun k=>(k,(bz x.1.t k).aR (fk s.h.length p)),bif zP s.h.length p then x.1.h else ri p q s.h.length x.1.h x.1.h.length 0,F6 (C8 x.2.2))else none
def H5(ba:List Nat)(s:St)(x:Lf):Option (List (Nat×AV)×List ak×List (In×ct)):=
 fL (JB s.h.length x.2.1 [] x.2.1) fun p=>fL (IM s.h.length p p.length s.h.length) fun q=>Ta ba s x p q
def Im(ba:List Nat)(s:St):List Lf→Option (List (List (Nat×AV)×List ak×List (In×ct)))
 |[]=>some []
 |x::l=>match H5 ba s x with
  |some a=>match Im ba s l with
   |some b=>some (a::b)
   |none=>none
  |none=>none
def zT(P:Program)(ol:List Oper)(as:List (Nat×ct))(ba:List Nat)(s:St):Option (List (List (Nat×AV)×List ak×List (In×ct))):=
 bif nQ (Region.before ol.toArray) ol.toArray then fL (mH ol.toArray 0 ol.toArray.size) fun A=>fL (lN ol.toArray false (Region.before ol.toArray) 0 ol.toArray.size) fun C=>
  match yL P ol.toArray A C as ol.toArray.size 0 [] [] s with
  |some ls=>Im ba s ls
  |none=>none
 else none
theorem TG{ba:List Nat}{s:St}:∀{ls:List Lf}{r},Im ba s ls=some r→∀x∈ls,∃a∈r,H5 ba s x=some a
 |[],_,_,x,hx=>by cases hx
 |y::l,r,h,x,hx=>by
  unfold Im at h;split at h
  ·next a e1=>
   split at h
   ·next b e2=>
    cases h
    rcases agX.1 hx with rfl|hx
    ·exact⟨a,agz,e1⟩
    ·obtain⟨a',h1,h2⟩:=TG e2 x hx;exact⟨a',agC _ h1,h2⟩
   ·cases h
  ·cases h
theorem QB{a x:Nat×List (In×ct)}:∀{l:List (Nat×List (In×ct))},x∈Cz a l↔x=a∨x∈l
 |[]=>by simp [Cz]
 |b::l=>by
  unfold Cz;cases cd a.1 b.1 with
  |true=>simp
  |false=>
   simp only[cond_false,agX,QB (l:=l)];constructor
   ·rintro(h|h|h)
    ·exact .inr (.inl h)
    ·exact .inl h
    ·exact .inr (.inr h)
   ·rintro(h|h|h)
    ·exact .inr (.inl h)
    ·exact .inl h
    ·exact .inr (.inr h)
theorem Q2{x:Nat×List (In×ct)}:∀{l:List (Nat×List (In×ct))},x∈C8 l↔x∈l
 |[]=>by simp [C8]
 |a::l=>by rw[C8,QB,Q2 (l:=l),agX]
theorem SJ{P:Program}:∀{l:List (Nat×List (In×ct))},gT P (F6 l)→∀p∈l,gT P p.2
 |[],_,p,hp=>by cases hp
 |a::l,h,p,hp=>by
  unfold F6 at h;rcases agX.1 hp with rfl|hp
  ·exact fun q hq=>h q (List.mem_append_left _ hq)
  ·exact SJ (fun q hq=>h q (List.mem_append_right _ hq)) p hp
theorem Uh{p q:List Nat}{h0:Nat}{h:List ak}:∀(n i j:Nat),(ri p q h0 h n i)[j]?=if j<n then some (match h[fk h0 q (i+j)]? with|some B=>B.aR (fk h0 p)|none=> .gone)else none
 |0,i,j=>by simp [ri]
 |n+1,i,0=>by simp [ri]
 |n+1,i,j+1=>by
  rw[ri,ag4,Uh n (i+1) j];simp only[Nat.add_lt_add_iff_right];rw[show i+1+j=i+(j+1) by omega]
theorem Rx{p q:List Nat}{h0:Nat}{h:List ak}:∀(n i:Nat),(ri p q h0 h n i).length=n
 |0,_=>rfl
 |n+1,i=>by rw[ri,agw,Rx n]
theorem Xp{P:Program}{ops:Array Oper}{N0:Nat}{ba:List Nat}{s:St}{x:Lf}{Δ:List (Nat×AV)}{h':List ak}{ps:List (In×ct)}(h:H5 ba s x=some (Δ,h',ps))(hN:N0≤s.h.length)(kK:∀i,(bz s.t i).aS s.h.length=true)
 (hn:x.1.n=s.n) (hp:∃pre,x.1.t=pre++s.t) (cu:gT P ps):ir N0 x.1 ⟨s.n,Δ++s.t,h'⟩∧∀p∈x.2.2,gT P p.2:=by
 unfold H5 at h;rw[ra,ra]at h;generalize JB s.h.length x.2.1 [] x.2.1=p at h;generalize IM s.h.length p p.length s.h.length=q at h;unfold Ta at h;obtain⟨hb,he⟩:=cV h;cases he
 rw[agv]at hb;obtain⟨hb,hc⟩:=hb;simp only[agT,List.mem_range,agv,beq_iff_eq,cZ]at hc;have vj:∀i,i<s.h.length→fk s.h.length p i=i:=fun i hi=>by
   unfold fk;have:cd s.h.length i=false:=by rw[←Bool.not_eq_true,cZ];omega
   rw[this];rfl
 refine⟨?_,fun y hy=>SJ cu y (Q2.2 hy)⟩;refine ir.aR (fk s.h.length p) (fk s.h.length q) hn (by
  cases zP s.h.length p with
  |true=>rfl
  |false=>exact Rx _ _) (fun i hi=>(hc i hi).1.1.1) (fun i hi=>(hc i hi).1.1.2) (fun i hi=>(hc i hi).1.2) (fun i hi=>(hc i hi).2) (fun i hi=>vj i (by omega)) (fun i _=> ?_) fun i hi=> ?_
 ·obtain⟨pre,e1⟩:=hp;have B9:∀(f:Nat→AV),(ba.map fun k=>(k,f k)).map (·.1)=ba:=fun f=>by rw[List.map_map];exact List.map_id _
  show bz ((ba.map fun k=>(k,(bz x.1.t k).aR (fk s.h.length p)))++s.t) i=_∨_;rcases CO (ba.map fun k=>(k,(bz x.1.t k).aR (fk s.h.length p))) s.t i with⟨h1,h2⟩|⟨h1,h2⟩
  ·rw[B9]at h1;rw[h2,nA (fun k=>(bz x.1.t k).aR (fk s.h.length p)),if_pos h1];exact .inl rfl
  ·rw[B9]at h1;show _∨bz ((ba.map fun k=>(k,(bz x.1.t k).aR (fk s.h.length p)))++s.t) i=_;rw[h2];rw[e1,agu,Nat.add_sub_cancel,List.take_left']at hb
   ·rw[e1];rcases CO pre s.t i with⟨h3,h4⟩|⟨h3,h4⟩
    ·right
     obtain⟨y,hy,rfl⟩:=List.mem_map.1 h3;have:=agT.1 hb y hy;rw[Bool.or_eq_true]at this;rcases this with this|this
     ·exfalso;obtain⟨k,hk,e⟩:=List.any_eq_true.1 this;rw[beq_iff_eq]at e;exact h1 (e▸hk)
     ·generalize bz s.t y.1=z at this;cases z<;>first|rfl|cases this
    ·left
     rw[h4,rm (τ:=id) vj _ (kK i),yM]
   ·rfl
 ·show(bif zP s.h.length p then x.1.h else ri p q s.h.length x.1.h x.1.h.length 0)[fk s.h.length p i]?=_;cases hid:zP s.h.length p with
  |true=>rw[aeO hid];simp only[cond_true,id];rw[agx hi,Option.map_some,HC]
  |false=>
  simp only[cond_false];rw[Uh,if_pos (Nat.lt_of_succ_le (hc i hi).1.1.1),agN,(hc i hi).1.2,agx hi];rfl
theorem SW{P:Program}{ol:List Oper}{as:List (Nat×ct)}{ba:List Nat}{s:St}{Δ:List (Nat×AV)}{h':List ak}{ps:List (In×ct)}{m N0:Nat}{K:St→Prop}(h:zT P ol as ba s=some (List.replicate m (Δ,h',ps)))(cu:gT P ps)(hN:N0≤s.h.length)(kK:∀i,(bz s.t i).aS s.h.length=true)(hK:yj N0 K)(hk:K ⟨s.n,Δ++s.t,h'⟩):
 ly false P ol.toArray K ol.toArray.size (Array.replicate ol.toArray.size false) s:=by
 unfold zT at h;obtain⟨hM,h⟩:=gk h;rw[ra,ra]at h;split at h
 ·next ls e1=>
  obtain⟨_,h2,h3⟩:=MY (s0:=s) hK.c hM s.t _ 0 (Array.replicate ol.toArray.size false) _ _ s ls ⟨by simp,fun i=>by
   rw[Nat.zero_testBit,Array.getD_eq_getD_getElem?,Array.getElem?_replicate];split<;>rfl⟩ (fun j o ho hj=>by
   exfalso;rw[Array.getD_eq_getD_getElem?]at hj;rw[Array.getElem?_replicate]at hj;split at hj<;>simp at hj) e1
  refine h3 fun x hx=> ?_;obtain⟨a,ha,e2⟩:=TG h x hx;rw[List.mem_replicate]at ha;obtain⟨_,rfl⟩:=ha;obtain⟨k1,k2⟩:=Xp (P:=P) (ops:=ol.toArray) e2 hN kK ((h2 x hx).2.2 (jh.refl _ _)).n ((h2 x hx).2.1 ⟨[],rfl⟩) cu;exact⟨k2,hK _ _ k1 hk⟩
 ·cases h
section
variable {P:Program} {r:Option Nat} {N0 id n:Nat} {ol:List Oper} {y:Code} {t:List (Nat×AV)} {h:List ak} {Q Q':Exit→St→Prop}
theorem rtE(m:Nat)(hm:P.follows .mixedOrders=true)(Δ:List (Nat×AV))(h':List ak)(e:∃bC:List (Nat×Ob P),zT P ol (jw bC) (Δ.map (·.1)) ⟨n,t,h⟩=some (List.replicate m (Δ,h',jl bC)))(k:bH P r N0 y Q' ⟨n,Δ++t,h'⟩):bH P r N0 (.region id ol.toArray true) (gN (fun s=>bH P r N0 y Q' s) Q) ⟨n,t,h⟩:=
 let ⟨bC,e⟩:=e
 KM hm fun hN kK=>SW e (qK bC) hN kK (Mp _) ⟨_,ir.refl _ _,k⟩
theorem rt(m:Nat)(hm:P.follows .mixedOrders=true)(bC:List (Nat×Ob P))(Δ:List (Nat×AV))(h':List ak)(e:zT P ol (jw bC) (Δ.map (·.1)) ⟨n,t,h⟩=some (List.replicate m (Δ,h',jl bC)))(k:bH P r N0 y Q' ⟨n,Δ++t,h'⟩):bH P r N0 (.region id ol.toArray true) (gN (fun s=>bH P r N0 y Q' s) Q) ⟨n,t,h⟩:=rtE m hm Δ h' ⟨bC,e⟩ k
theorem VV(m:Nat)(hm:P.follows .mixedOrders=true)(bC:List (Nat×Ob P))(Δ:List (Nat×AV))(h':List ak)(e:zT P ol (jw bC) (Δ.map (·.1)) ⟨n,t,h⟩=some (List.replicate m (Δ,h',jl bC)))(k:Q .normal ⟨n,Δ++t,h'⟩):bH P r N0 (.region id ol.toArray true) Q ⟨n,t,h⟩:=
 KM hm fun hN kK=>SW e (qK bC) hN kK (Mp _) ⟨_,ir.refl _ _,k⟩
end
theorem ue{f:AV→AV}(hf:∀d,f (.d d)= .d d)(xs:List (List D)):(aK xs).map (·.map f)=aK xs:=by
 unfold aK;rw[List.map_map];refine agY fun c _=> ?_;simp only[Function.comp,List.map_map];exact agY fun d _=>hf d
theorem nb(xs:List (List D)):(aK xs).length=xs.length:=by unfold aK;rw[agy]
theorem Da{xs:List (List D)}{i:Nat}{c:List D}(h:xs[i]?=some c):(aK xs)[i]?=some (c.map .d):=by unfold aK;rw[agA,h];rfl
theorem Pl(xs:List (List D))(i:Nat)(c:List D):aK (xs.set i c)=(aK xs).set i (c.map .d):=by unfold aK;rw[List.map_set]
theorem Zj(xs ys:List (List D)):aK (xs++ys)=aK xs++aK ys:=by unfold aK;rw[List.map_append]
theorem yq{cs:List AV}{l:List ak}(h:VD l):VD (.cells cs::l):=⟨trivial,h⟩
theorem rX{e k n:Nat}{l:List ak}(h:VD l):VD (.front e k n::l):=⟨trivial,h⟩
theorem sw{l:List ak}(h:VD l):VD (.gone::l):=⟨trivial,h⟩
def ak.oW(m:Nat):ak→ak
 | .vec e k cs=> .vec e k cs
 |B=>B.bI m
def ak.xX:ak→ak
 | .vec e k cs=> .vec e k cs
 |B=>B.nE
def ak.yS(m:Nat):ak→Prop
 | .vec _ _ cs=>cs.map (·.map (AV.bI m))=cs∧cs.all (·.all (AV.aS m))=true
 |_=>True
def gV(m:Nat):List ak→Prop
 |[]=>True
 |B::l=>B.yS m∧gV m l
section
variable {m:Nat} {l:List ak}
theorem fh:gV m []:=trivial
theorem dQ{B:ak}(hB:B.yS m)(h:gV m l):gV m (B::l):=⟨hB,h⟩
theorem RD(xs:List (List D)):(aK xs).all (·.all (AV.aS m))=true:=by simp [aK,AV.aS]
theorem gb{e k:Nat}{xs:List (List D)}(h:gV m l):gV m (.vec e k (aK xs)::l):=⟨⟨ue (fun d=>by simp [AV.bI]) _,RD _⟩,h⟩
theorem vmR{e k i:Nat}{xs:List (List D)}{r:List AV}(h1:r.map (AV.bI m)=r)(h2:r.all (AV.aS m)=true)(h:gV m l):gV m (.vec e k ((aK xs).set i r)::l):=by
 refine⟨⟨by rw[List.map_set,ue (fun d=>by simp [AV.bI]),h1],?_⟩,h⟩;rw[agT];intro c hc;rcases List.mem_or_eq_of_mem_set hc with hc|rfl
 ·exact agT.1 (RD (m:=m) xs) c hc
 ·exact h2
theorem gV.mem:∀{l:List ak},gV m l→∀B∈l,B.yS m
 |[],_,B,hB=>by cases hB
 |_::_,h,B,hB=>by
  rcases agX.1 hB with rfl|hB
  ·exact h.1
  ·exact gV.mem h.2 B hB
end
theorem Wq{m:Nat}{B:ak}(h:B.yS m):B.oW m=B.bI m:=by
 cases B with
 |vec e k cs=>simp only[ak.oW,ak.bI];rw[h.1]
 |_=>rfl
theorem YK{m:Nat}{B:ak}(h:B.yS m)(hl:(B.oW m).vK m=true):(B.bI m).aS m=true:=by
 cases B with
 |vec e k cs=>simp only[ak.bI,ak.aS];rw[h.1];exact h.2
 |_=>exact hl
theorem Ui{G:Gh}{w:World}{h:List ak}(hi:cf G w h):cf G w (h.map ak.xX):=by
 have eh:∀n,cl (h.map ak.xX) G n=cl h G n:=fun n=>by
  unfold cl;rw[agA];cases h[n]? with
  |none=>rfl
  |some B=>cases B<;>rfl
 have h2:=LY hi;refine⟨by rw[agy];exact hi.len,hi.z,hi.S,fun n B hB=> ?_,fun m n x hm hn=>hi.inj m n x (by rw[←eh];exact hm) (by rw[←eh];exact hn),hi.gl⟩;rw[agA]at hB;cases h1:h[n]? with
 |none=>rw[h1]at hB;cases hB
 |some B'=>
  rw[h1]at hB;cases hB
  have h3:=h2.dp n B'.nE (by rw[agA,h1];rfl);cases B' with
  |vec e k cs=>exact hi.dp n _ h1
  |_=>exact h3
def tK(kn:List (Nat×Nat))(n:Nat):Nat→List AV→List AV
 |_,[]=>[]
 |i,x::l=>(bif kn.any (fun p=>p.1==n&&p.2==i)then x else x.nrm)::tK kn n (i+1) l
def ak.QI(kn:List (Nat×Nat))(n:Nat):ak→ak
 | .cells cs=> .cells (tK kn n 0 cs)
 |B=>B.xX
def nZ(kn:List (Nat×Nat)):Nat→List ak→List ak
 |_,[]=>[]
 |n,B::l=>B.QI kn n::nZ kn (n+1) l
theorem TZ(kn:List (Nat×Nat))(n:Nat):∀(j:Nat)(cs:List AV),(tK kn n j cs).length=cs.length
 |_,[]=>rfl
 |j,x::l=>by rw[tK,agw,TZ kn n (j+1) l,agw]
theorem NJ(kn:List (Nat×Nat))(n:Nat):∀(j:Nat)(cs:List AV)(i:Nat)(c':AV),(tK kn n j cs)[i]?=some c'→∃c,cs[i]?=some c∧(c'=c∨c'=c.nrm)
 |_,[],i,c',h=>by simp [tK]at h
 |j,x::l,0,c',h=>by
  simp only[tK,List.getElem?_cons_zero,Option.some.injEq]at h;refine⟨x,rfl,?_⟩;cases hk:kn.any (fun p=>p.1==n&&p.2==j)with
  |true=>rw[hk]at h;exact .inl h.symm
  |false=>rw[hk]at h;exact .inr h.symm
 |j,x::l,i+1,c',h=>by
  simp only[tK,ag4]at h;obtain⟨c,h1,h2⟩:=NJ kn n (j+1) l i c' h;exact⟨c,by simpa using h1,h2⟩
theorem MH(kn:List (Nat×Nat)):∀(j:Nat)(h:List ak)(i:Nat)(B':ak),(nZ kn j h)[i]?=some B'→∃B,h[i]?=some B∧B'=B.QI kn (j+i)
 |_,[],i,B',h=>by simp [nZ]at h
 |j,B::l,0,B',h=>by simp only[nZ,List.getElem?_cons_zero,Option.some.injEq]at h;exact⟨B,rfl,h.symm⟩
 |j,B::l,i+1,B',h=>by
  simp only[nZ,ag4]at h;obtain⟨C,h1,h2⟩:=MH kn (j+1) l i B' h;exact⟨C,by simpa using h1,by rw[h2];congr 1;omega⟩
theorem Qc(kn:List (Nat×Nat)):∀(j:Nat)(h:List ak),(nZ kn j h).length=h.length
 |_,[]=>rfl
 |j,B::l=>by rw[nZ,agw,Qc kn (j+1) l,agw]
theorem aca{G:Gh}{w:World}{h:List ak}(kn:List (Nat×Nat))(hi:cf G w h):cf G w (nZ kn 0 h):=by
 have eh:∀n x,cl (nZ kn 0 h) G n=some x→cl h G n=some x:=fun n x hx=>by
  obtain⟨B',hB,h1⟩:=kI hx;obtain⟨B,h2,rfl⟩:=MH kn 0 h n B' hB;rw[dU h2,←h1];cases B<;>rfl
 have h2:=Ui hi;refine⟨by rw[Qc];exact hi.len,hi.z,hi.S,fun n B' hB=> ?_,fun m n x hm hn=>hi.inj m n x (eh m x hm) (eh n x hn),hi.gl⟩;obtain⟨B,h1,rfl⟩:=MH kn 0 h n B' hB;cases B with
 |cells cs=>
  obtain⟨c1,c2,vs,T,c3,c4,c5⟩:=hi.dp n _ h1;refine⟨c1,c2,vs,T,c3,by rw[TZ];exact c4,fun i u c hu hc=> ?_⟩;obtain⟨c0,h3,h4|h4⟩:=NJ _ _ _ _ _ _ hc
  ·rw[h4];exact c5 i u c0 hu h3
  ·rw[h4];exact(c5 i u c0 hu h3).nrm
 |_=>exact h2.dp n _ (by rw[agA,h1];rfl)
def lI(s:St)(live:List Nat)(m:Nat)(ks:List Nat)(kn:List (Nat×Nat)):Option St:=
 bif cd m s.h.length&&(live.all fun k=>((bz s.t k).bI m).aS m)&&(((s.h.take m).map (ak.oW m)).all (ak.vK m))then some ⟨s.n,live.map fun k=>(k,bif ks.any (·==k)then(bz s.t k).bI m else(bz s.t k).fin m),nZ kn 0 ((s.h.take m).map (ak.oW m))⟩else none
theorem PQ{h:List ak}{m:Nat}(hd:gV m (h.take m)):(h.take m).map (ak.oW m)=(h.take m).map (ak.bI m):=agY fun B hB=>Wq (hd.mem B hB)
theorem OC{h:List ak}{m:Nat}(hd:gV m (h.take m))(hl:((h.take m).map (ak.oW m)).all (ak.vK m)=true):((h.take m).map (ak.bI m)).all (ak.aS m)=true:=by
 rw[agT]at hl ⊢;intro B hB;obtain⟨B',h1,rfl⟩:=List.mem_map.1 hB;exact YK (hd.mem B' h1) (hl _ (List.mem_map.2 ⟨B',h1,rfl⟩))
section
variable {P:Program} {r:Option Nat} {n N0:Nat} {G:Gh} {w:World} {a:Act} {s s':St} {Q Q':Exit→St→Prop} {live:List Nat} {m:Nat} {ks:List Nat} {kn:List (Nat×Nat)}
theorem c7.lI(hs:c7 G w a s)(hd:gV m (s.h.take m))(h:lI s live m ks kn=some s'):c7 (G.cut m) w a s':=by
 unfold Go.Proofs.YtphmhnabilhbgaaGreatDoor.lI at h;obtain⟨hb,rfl⟩:=cV h;rw[agv,agv]at hb;have hm:=hs.mask (live:=live) ⟨cZ.1 hb.1.1,hb.1.2,OC hd hb.2⟩;refine⟨hs.size,fun i=> ?_,by show cf _ _ (nZ kn 0 ((s.h.take m).map (ak.oW m)));rw[PQ hd];exact aca kn hm.inv,hs.df⟩;have:=hm.tmp i
 change aG _ _ _ (bz (live.map fun k=>(k,(bz s.t k).bI m)) i)at this
 rw[nA (fun k=>(bz s.t k).bI m)]at this;show aG _ _ _ (bz (live.map fun k=>(k,bif ks.any (·==k)then(bz s.t k).bI m else(bz s.t k).fin m)) i);rw[nA (fun k=>bif ks.any (·==k)then(bz s.t k).bI m else(bz s.t k).fin m)];split at this
 ·rename_i hi
  rw[if_pos hi];cases ks.any (·==i)with
  |true=>exact this
  |false=>exact this.nrm
 ·rename_i hi;rw[if_neg hi];exact .dead _
theorem pc{c:Code}{ι:Type}(live:List Nat)(m:Nat)(ks:List Nat)(kn:List (Nat×Nat))(st:ι→St)(I:ι→Prop)(μ:ι→Nat)(i0:ι)(hm:N0≤m)(h0:gV m (s.h.take m)∧Go.Proofs.YtphmhnabilhbgaaGreatDoor.lI s live m ks kn=some (st i0))(hI:I i0)
 (round:∀i,I i→bH P r N0 c (gN (fun s'=>∃i',(gV m (s'.h.take m)∧Go.Proofs.YtphmhnabilhbgaaGreatDoor.lI s' live m ks kn=some (st i'))∧I i'∧μ i'<μ i) Q) (st i)):bH P r N0 (.loop c) Q s:=by
 constructor
 intro G w a n hs _;refine Gi (fun(i:ι) a' w'=>∃G',I i∧bZ N0 G w G' w'∧N0≤G'.N∧c7 G' w' a' (st i)) μ i0 ⟨G.cut m,hI,nM _ _ _ _,hm,hs.lI h0.1 h0.2⟩ ?_;rintro i a' w' ⟨G',hi,hE,hN,cM⟩;refine wpIn_mono ((round i hi).run G' w' a' n cM hN) fun e a1 w1 hn=> ?_;obtain⟨G1,s1,ia,fJ,eX,hq⟩:=hn;cases e with
 |normal=>
  obtain⟨i',h1,h2,h3⟩:=hq;exact⟨i',⟨G1.cut m,h2,(hE.trans ia).trans (nM _ _ _ _),hm,eX.lI h1.1 h1.2⟩,h3⟩
 |_=>exact⟨G1,s1,hE.trans ia,fJ,eX,hq⟩
theorem Yv{c:Code}(live:List Nat)(m:Nat)(ks:List Nat)(kn:List (Nat×Nat))(hm:N0≤m)(h0:gV m (s.h.take m)∧Go.Proofs.YtphmhnabilhbgaaGreatDoor.lI s live m ks kn=some s')(h:bH P r N0 c Q s'):bH P r N0 c Q s:=by
 constructor
 intro G w a n hs _;exact wpIn_mono (h.run (G.cut m) w a n (hs.lI h0.1 h0.2) hm) fun _ _ _ hn=>hn.trans (nM N0 G w m)
theorem VW{c y:Code}{ι:Type}(live:List Nat)(m:Nat)(ks:List Nat)(kn:List (Nat×Nat))(st:ι→St)(I:ι→Prop)(hm:N0≤m)(hc:bH P r N0 c (gN (fun s'=>∃i,(gV m (s'.h.take m)∧Go.Proofs.YtphmhnabilhbgaaGreatDoor.lI s' live m ks kn=some (st i))∧I i) Q) s)(hy:∀i,I i→bH P r N0 y Q' (st i)):bH P r N0 c (gN (fun s=>bH P r N0 y Q' s) Q) s:=by
 refine hc.mono fun e s' h=> ?_;cases e with
 |normal=>obtain⟨i,h1,h2⟩:=h;exact Yv live m ks kn hm h1 (hy i h2)
 |_=>exact h
end
def AZ(P:Program)(rs:List ResultVar)(m:Nat)(s:St):Option (AV×List ak):=
 match qg P s rs with
 |some l=>bif cd m s.h.length&&((gJ l).bI m).aS m&&(((s.h.take m).map (ak.oW m)).all (ak.vK m))then some (((gJ l).bI m).nrm,((s.h.take m).map (ak.oW m)).map ak.xX)else none
 |none=>none
def QL(P:Program)(fn:Func)(m:Nat)(R:AV)(H:List ak):Exit→St→Prop
 | .normal,s=>gV m (s.h.take m)∧AZ P fn.results.toList m s=some (R,H)
 | .ret,s=>gV m (s.h.take m)∧AZ P fn.results.toList m s=some (R,H)
 |_,_=>False
theorem U8{P:Program}{s:St}{fn:Func}{m:Nat}{R:AV}{H:List ak}(h:gV m (s.h.take m)∧AZ P fn.results.toList m s=some (R,H)):pv P fn m (fun r h'=>r.nrm=R∧h'.map ak.xX=H) s:=by
 obtain⟨hd,h⟩:=h;unfold AZ at h;split at h
 ·next l e=>
  obtain⟨hb,he⟩:=cV h;cases he
  simp only[agv,cZ]at hb;exact Aq _ _ _ e ⟨hb.1.1,hb.1.2,OC hd hb.2,rfl,by rw[PQ hd]⟩
 ·cases h
theorem lX{P:Program}{s:St}{fn:Func}{m:Nat}{R:AV}{H:List ak}(hd:gV m (s.h.take m))(h:AZ P fn.results.toList m s=some (R,H)):QL P fn m R H .ret s:=⟨hd,h⟩
theorem sK{P:Program}{f:FuncId}{fn:Func}{c:Code}{args:List AV}{h H:List ak}{R:AV}(m:Nat)(hf:P.funcs[f]?=some fn)(hb:fn.body=some c)(hn:(fn.name== "runtime.NumGoroutine")=false)(hm:h.length≤m)
 (hw:bH P none h.length c (QL P fn m R H) {n:=args.length+(fn.ntmps-args.length),t:=iN 0 args,h:=h}):bW P f args h fun r1 h1=>r1=R∧h1=H:=by
 have h0:=yR (P:=P) (f:=f) (args:=args) (h:=h) (K:=fun r h'=>r.nrm=R∧h'.map ak.xX=H) m hf hb hn hm (hw.mono fun e s hq=>by
  cases e with
  |normal=>exact U8 hq
  |ret=>exact U8 hq
  |_=>exact hq.elim)
 refine⟨h0.1,fun G w vs hi hl hr=>(h0.2 G w vs hi hl hr).mono fun e w' hp=> ?_⟩;obtain⟨v,G',x,h',rfl,hE,hN,dR,hv,rfl,rfl⟩:=hp;exact⟨v,G',x.nrm,_,rfl,hE,hN,Ui dR,hv.nrm,rfl,rfl⟩
mutual
def AV.kH(b:Nat):AV→List (Nat×Nat×Nat×Nat)
 | .vec n o len L k=>bif n==b then[(o,len,L,k)]else[]
 | .agg cs=>AV.lZ b cs
 | .bX cs=>AV.lZ b cs
 | .fn _ cs=>AV.lZ b cs
 |_=>[]
def AV.lZ(b:Nat):List AV→List (Nat×Nat×Nat×Nat)
 |[]=>[]
 |x::l=>x.kH b++AV.lZ b l
end
mutual
def AV.mlt(b:Nat)(xs:List (List D)):AV→AV
 | .vec n o len L k=>bif n==b then .d (.sl xs)else .vec n o len L k
 | .di n i j L k=>bif n==b then .dead else .di n i j L k
 | .agg cs=> .agg (AV.jT b xs cs)
 | .bX cs=> .bX (AV.jT b xs cs)
 | .fn f cs=> .fn f (AV.jT b xs cs)
 |x=>x
def AV.jT(b:Nat)(xs:List (List D)):List AV→List AV
 |[]=>[]
 |x::l=>x.mlt b xs::AV.jT b xs l
end
mutual
theorem Ks{b kk:Nat}{xs:List (List D)}:∀x:AV,(∀q∈x.kH b,q=(0,xs.length,xs.length,kk))→x.dm b kk xs=x.mlt b xs
 | .vec n o len L k,h=>by
   unfold AV.dm AV.mlt;unfold AV.kH at h;cases e:n==b with
   |false=>rfl
   |true=>
    rw[e]at h;have:=h _ agz;cases this
    simp
 | .agg cs,h=>by unfold AV.dm AV.mlt;rw[pK cs (by unfold AV.kH at h;exact h)]
 | .bX cs,h=>by unfold AV.dm AV.mlt;rw[pK cs (by unfold AV.kH at h;exact h)]
 | .fn f cs,h=>by unfold AV.dm AV.mlt;rw[pK cs (by unfold AV.kH at h;exact h)]
 | .di n i j L k,h=>by unfold AV.dm AV.mlt;rfl
 | .d _,_=>by simp [AV.dm,AV.mlt]
 | .ptr ..,_=>by simp [AV.dm,AV.mlt]
 | .bn ..,_=>by simp [AV.dm,AV.mlt]
 | .own ..,_=>by simp [AV.dm,AV.mlt]
 | .full _,_=>by simp [AV.dm,AV.mlt]
 | .row ..,_=>by simp [AV.dm,AV.mlt]
 | .mp _,_=>by simp [AV.dm,AV.mlt]
 | .dj _,_=>by simp [AV.dm,AV.mlt]
 | .hid _,_=>by simp [AV.dm,AV.mlt]
 | .dead,_=>by simp [AV.dm,AV.mlt]
theorem pK{b kk:Nat}{xs:List (List D)}:∀l:List AV,(∀q∈AV.lZ b l,q=(0,xs.length,xs.length,kk))→AV.nN b kk xs l=AV.jT b xs l
 |[],_=>by simp [AV.nN,AV.jT]
 |x::l,h=>by
  unfold AV.lZ at h;unfold AV.nN AV.jT;rw[Ks x fun q hq=>h q (List.mem_append_left _ hq),pK l fun q hq=>h q (List.mem_append_right _ hq)]
end
inductive kt(b L kk:Nat)(xs:List (List D)):List ak→List ak→Prop
 |nil:kt b L kk xs [] []
 |cells {cs cp:List AV} {l l':List ak} (c:Nat) (h:AV.lZ b cs=List.replicate c (0,L,L,kk)) (e:AV.jT b xs cs=cp) (t:kt b L kk xs l l'):kt b L kk xs (.cells cs::l) (.cells cp::l')
 |iE {e k:Nat} {ys:List (List D)} {l l':List ak} (t:kt b L kk xs l l'):kt b L kk xs (.vec e k (aK ys)::l) (.vec e k (aK ys)::l')
 |row {e k i:Nat} {ys:List (List D)} {cs cp:List AV} {l l':List ak} (c:Nat) (h:AV.lZ b cs=List.replicate c (0,L,L,kk)) (e1:AV.jT b xs cs=cp) (t:kt b L kk xs l l'):kt b L kk xs (.vec e k ((aK ys).set i cs)::l) (.vec e k ((aK ys).set i cp)::l')
 |front {e k n:Nat} {l l':List ak} (t:kt b L kk xs l l'):kt b L kk xs (.front e k n::l) (.front e k n::l')
 |map {kv:List (ByteArray×D)} {l l':List ak} (t:kt b L kk xs l l'):kt b L kk xs (.map kv::l) (.map kv::l')
 |gone {l l':List ak} (t:kt b L kk xs l l'):kt b L kk xs (.gone::l) (.gone::l')
theorem zS{c L kk:Nat}{xs:List (List D)}(hL:xs.length=L){l:List (Nat×Nat×Nat×Nat)}(h:l=List.replicate c (0,L,L,kk)):∀q∈l,q=(0,xs.length,xs.length,kk):=fun q hq=>by
 rw[h,List.mem_replicate]at hq;rw[hq.2,hL]
theorem kt.eq{b L kk:Nat}{xs:List (List D)}(hL:xs.length=L){l l':List ak}(h:kt b L kk xs l l'):l'=l.map (ak.ij (AV.dm b kk xs)):=by
 have hd:∀d,AV.dm b kk xs (.d d)= .d d:=fun d=>by simp [AV.dm]
 induction h with
 |nil=>rfl
 |cells c h e t ih=>rw[agS,←ih,←e];simp only[ak.ij];rw[←oI,pK _ (zS hL h)]
 |iE t ih=>rw[agS,←ih];simp only[ak.ij];rw[ue hd]
 |row c h e1 t ih=>rw[agS,←ih,←e1];simp only[ak.ij];rw[List.map_set,ue hd,←oI,pK _ (zS hL h)]
 |front t ih=>rw[agS,←ih];rfl
 |map t ih=>rw[agS,←ih];rfl
 |gone t ih=>rw[agS,←ih];rfl
theorem afq{P:Program}{r:Option Nat}{N0:Nat}{c:Code}{s:St}{Q:Exit→St→Prop}(live:List Nat)(b:Nat)(xs:List (List D)){e k L:Nat}(h':List ak)(c1:Nat)(hb:s.h[b]?=some (.vec e k (aK xs)))(fw:∀c∈xs,c.all D.mV=true)(hL:xs.length=L)
 (ho:(live.flatMap fun i=>(bz s.t i).kH b)=List.replicate c1 (0,L,L,k)) (hh:kt b L k xs s.h h') (K:bH P r N0 c Q ⟨s.n,live.map (fun i=>(i,(bz s.t i).mlt b xs)),h'.set b .gone⟩):bH P r N0 c Q s:=by
 constructor
 intro G w a n hs hN;obtain⟨G',hE,e1,cM⟩:=hs.Jq xs hb fw;refine wpIn_mono (K.run G' w a n (cM.less rfl (by rw[hh.eq hL]) fun i=> ?_) (by rw[e1];exact hN)) fun _ _ _ hn=>hn.trans (hE.less hN);show bz (live.map (fun i=>(i,(bz s.t i).mlt b xs))) i=bz (s.t.map fun p=>(p.1,p.2.dm b k xs)) i∨_;rw[nA (fun k=>(bz s.t k).mlt b xs),wA (AV.dm b k xs) (by simp [AV.dm])];split
 ·next hi=>
  left
  refine(Ks _ fun q hq=>zS hL ho q ?_).symm;exact List.mem_flatMap.2 ⟨i,hi,hq⟩
 ·exact .inr rfl
theorem QC{G:Gh}{w:World}{h:List ak}(hi:cf G w h)(e k:Nat):bZ G.N G w (G.eJ (.slice none 0 0) 0 none) w∧G.N≤(G.eJ (.slice none 0 0) 0 none).N∧cf (G.eJ (.slice none 0 0) 0 none) w (h++[.vec e k []])∧aG (G.eJ (.slice none 0 0) 0 none) w (.slice none 0 0) (.vec h.length 0 0 0 k):=by
 obtain⟨a1,a2⟩:=JP (w':=w) hi (.vec e k []) (fun _ _=>rfl) (.slice none 0 0) 0 none ⟨fun _ _=>rfl,agE _,rfl,rfl,rfl⟩ (fun _ h=>by cases h)
  ⟨by simp [Gh.eJ],Nat.zero_le _,fun c hc=>absurd hc ag9, .inl ⟨by simp [Gh.eJ],rfl,none,by simp [Gh.eJ]⟩⟩
 refine⟨a1,Nat.le_succ _,a2, .vec _ 0 0 0 k (by rw[hi.len];exact ahf _) ⟨none,0,0,rfl⟩ (Nat.zero_le _) fun _=>⟨agE _,⟨none,0,rfl,agE _,Nat.zero_le _,agE _,fun h=>absurd h (ag7 _)⟩,fun _ _=> ?_⟩⟩;simp [Gh.eJ,hi.len]
section
variable {P:Program} {r:Option Nat} {N0:Nat} {s:St} {Q:Exit→St→Prop} {c:Code}
theorem Fv(t e k:Nat)(hx:bz s.t t= .d (.v (.slice none 0 0)))(h:bH P r N0 c Q ⟨s.n,(t, .vec s.h.length 0 0 0 k)::s.t,s.h++[.vec e k []]⟩):bH P r N0 c Q s:=by
 constructor
 intro G w a n hs hN;obtain⟨a1,a2,a3,a4⟩:=QC hs.inv e k;have hv:=hs.tmp t;rw[hx]at hv;have hv:=hv.val;have cM:c7 (G.eJ (.slice none 0 0) 0 none) w a ⟨s.n,(t, .vec s.h.length 0 0 0 k)::s.t,s.h++[.vec e k []]⟩:=by
  refine⟨hs.size,fun i=> ?_,a3,hs.df.ba a1⟩;show aG _ _ _ (bz ((t, .vec s.h.length 0 0 0 k)::s.t) i);rw[jX];split
  ·next e=>exact e▸hv▸a4
  ·exact(hs.tmp i).ba a1 a2
 exact wpIn_mono (h.run _ w a n cM (agL hN a2)) fun _ _ _ hn=>hn.trans (a1.less hN)
theorem abu(b i e k:Nat){cs:List AV}(hb:s.h[b]?=some (.cells cs))(hx:cs[i]?=some (.d (.v (.slice none 0 0))))
 (h:bH P r N0 c Q ⟨s.n,s.t,(s.h++[ak.vec e k []]).set b (ak.cells (cs.set i (AV.vec s.h.length 0 0 0 k)))⟩):bH P r N0 c Q s:=by
 constructor
 intro G w a n hs hN;obtain⟨h1,h2,vs,T,h3,h4,h5⟩:=hs.inv.dp _ _ hb;have hi:i<cs.length:=(agt.1 hx).1;have hv:vs[i]?=some vs[i]:=agP (by omega);have nV:=(h5 i _ _ hv hx).val;obtain⟨a1,a2,a3,a4⟩:=QC hs.inv e k;have aO:=(agt.1 hb).1;have cM:c7 (G.eJ (.slice none 0 0) 0 none) w a ⟨s.n,s.t,(s.h++[ak.vec e k []]).set b (ak.cells (cs.set i (AV.vec s.h.length 0 0 0 k)))⟩:=by
  refine⟨hs.size,fun j=>(hs.tmp j).ba a1 a2,Ti a3 (by rw[agD aO];exact hb) (by rw[List.length_set]) fun fW T' vq j u c hu hc=> ?_,hs.df.ba a1⟩;have e1:(G.eJ (.slice none 0 0) 0 none).bo b=G.bo b:=rfl;rw[e1,h3]at vq;cases vq
  by_cases e2:i=j
  ·subst e2;rw[agW hi]at hc;cases hc
   rw[hv]at hu;cases hu
   rw[nV];exact a4
  ·rw[ag1 e2]at hc;exact(h5 j u c hu hc).ba a1 a2
 exact wpIn_mono (h.run _ w a n cM (agL hN a2)) fun _ _ _ hn=>hn.trans (a1.less hN)
theorem Pp(b:Nat)(h:bH P r N0 c Q ⟨s.n,s.t,s.h.set b .gone⟩):bH P r N0 c Q s:=by
 constructor
 intro G w a n hs hN;have hi:=hs.inv;have eh:∀n x,cl (s.h.set b .gone) G n=some x→cl s.h G n=some x:=fun n x hx=>by
  obtain⟨B,hB,h1⟩:=kI hx;by_cases e:b=n
  ·subst e;have aO:=(agt.1 hB).1;rw[List.length_set]at aO;rw[agW aO]at hB;cases hB;cases h1
  ·rw[ag1 e]at hB;rw[dU hB];exact h1
 refine h.run G w a n ⟨hs.size,hs.tmp,⟨by rw[List.length_set];exact hi.len,hi.z,hi.S,fun n B hB=> ?_,fun m n x h1 h2=>hi.inj m n x (eh m x h1) (eh n x h2),hi.gl⟩,hs.df⟩ hN;by_cases e:b=n
 ·subst e;have aO:=(agt.1 hB).1;rw[List.length_set]at aO;rw[agW aO]at hB;cases hB;trivial
 ·rw[ag1 e]at hB;exact hi.dp n B hB
end
theorem gQ{α:Type}{f:α→List D}{E:List α}{L:Nat}(h:E.length=L):(aK (E.map f)).length=L:=by rw[nb,agy,h]
theorem kS{cs:List (List AV)}{z:Int}{L i:Nat}(h:cs.length=L)(h0:0≤z)(h1:z<(L:Int))(h2:z.toNat=i):cs.length=L∧0≤z∧z<(L:Int)∧i=0+z.toNat:=⟨h,h0,h1,by rw[h2,agN]⟩
theorem ua{α:Type}{f:α→List D}{E:List α}{L i:Nat}{x:α}(h:E.length=L)(hx:E[i]?=some x):(aK (E.map f)).length=L∧(aK (E.map f))[i]?=some ((f x).map .d):=⟨gQ h,Da (by rw[agA,hx];rfl)⟩
theorem At{α:Type}{f:α→List D}{E:List α}{L i j:Nat}{x y:α}{zs:List AV}(h:E.length=L)(hx:E[i]?=some x)(hy:(f y).map AV.d=gy ((f x).map .d) j zs):(aK (E.map f)).length=L∧(aK (E.map f))[i]?=some ((f x).map .d)∧aK ((E.set i y).map f)=(aK (E.map f)).set i (gy ((f x).map .d) j zs):=
 ⟨gQ h,Da (by rw[agA,hx];rfl),by rw[List.map_set,Pl,hy]⟩
theorem Us{α:Type}{f:α→List D}{E ys:List α}{h:List ak}{k L gm L' c9:Nat}{y:AV}(hE:E.length=L)(hy:y.fG=some (ys.map f))(hk:∀c∈ys.map f,c.length=k)(hn:ys.length=gm)(hL:L+ys.length=L')(hm:L'≤maxLen)(hb:L'*c9≤140737488355328):
 (aK (E.map f)).length=L∧vU h k y (aK (ys.map f))∧L'=L+(aK (ys.map f)).length∧((0+L+(aK (ys.map f)).length≤L∧L'=L∧aK ((E++ys).map f)=(aK (E.map f)).take (0+L)++aK (ys.map f)++(aK (E.map f)).drop (0+L+(aK (ys.map f)).length))∨(0=0∧L=L∧L'=L+(aK (ys.map f)).length∧aK ((E++ys).map f)=aK (E.map f)++aK (ys.map f)∧L'≤maxLen∧L'*c9≤140737488355328)):=by
 have hl:(aK (ys.map f)).length=ys.length:=by rw[nb,agy]
 refine⟨gQ hE, .inl ⟨_,hy,hk,rfl⟩,by rw[hl,hL], .inr ⟨rfl,rfl,by rw[hl,hL],by rw[List.map_append,Zj],hm,hb⟩⟩
theorem MB{xs:List (List D)}{h:List ak}{k c9:Nat}{y:AV}(hk:∀c∈xs,c.length=k)(hy:y.fG=some xs)(hm:xs.length≤maxLen)(hb:xs.length*c9≤140737488355328):
 ([]:List (List D))=[]∧vU h k y (aK xs)∧aK xs=aK xs∧xs.length=(aK xs).length∧xs.length=(aK xs).length∧xs.length≤maxLen∧xs.length*c9≤140737488355328:=⟨rfl, .inl ⟨xs,hy,hk,rfl⟩,rfl,(nb xs).symm,(nb xs).symm,hm,hb⟩
theorem abf{α:Type}{f:α→List D}{E:List α}{L i:Nat}{x:α}(r:List AV)(h:E.length=L)(hx:E[i]?=some x):((aK (E.map f)).set i r).length=L∧((aK (E.map f)).set i r)[i]?=some r:=
 ⟨by rw[List.length_set];exact gQ h,by rw[agW (by rw[gQ rfl];exact(agt.1 hx).1)]⟩
theorem adN{α:Type}{f:α→List D}{E:List α}{L i:Nat}{r:List AV}(h:E.length=L):((aK (E.map f)).set i r).length=L:=by rw[List.length_set];exact gQ h
theorem acB{α:Type}{f:α→List D}{E:List α}{L i j:Nat}{x:α}{zs r:List AV}(h:E.length=L)(hx:E[i]?=some x)(hy:r=gy ((f x).map .d) j zs):(aK (E.map f)).length=L∧(aK (E.map f))[i]?=some ((f x).map .d)∧(aK (E.map f)).set i r=(aK (E.map f)).set i (gy ((f x).map .d) j zs):=
 ⟨gQ h,Da (by rw[agA,hx];rfl),by rw[hy]⟩
theorem XG{α:Type}{f:α→List D}{E:List α}{i:Nat}{y:α}{r:List AV}(hy:(f y).map AV.d=r):(aK (E.map f)).set i r=aK ((E.set i y).map f):=by rw[←hy,List.map_set,Pl]
theorem HT{P:Program}{r:Option Nat}{N0:Nat}{c:Code}{s:St}{Q:Exit→St→Prop}(live:List Nat)(b:Nat)(xs ys:List (List D)){e k L:Nat}(h':List ak)(c1:Nat)(hb:s.h[b]?=some (.vec e k (aK xs)))(fw:∀c∈xs,c.all D.mV=true)(hL:xs.length=L)(hy:ys=xs)
 (ho:(live.flatMap fun i=>(bz s.t i).kH b)=List.replicate c1 (0,L,L,k)) (hh:kt b L k ys s.h h') (K:bH P r N0 c Q ⟨s.n,live.map (fun i=>(i,(bz s.t i).mlt b ys)),h'.set b .gone⟩):bH P r N0 c Q s:=by
 subst hy;exact afq live b _ h' c1 hb fw hL ho hh K
theorem oY{α:Type}{f:α→List D}(hf:∀x,(f x).all D.mV=true)(E:List α):∀c∈E.map f,c.all D.mV=true:=fun c hc=>by
 obtain⟨x,_,rfl⟩:=List.mem_map.1 hc;exact hf x
theorem pW{α:Type}{f:α→List D}{E:List α}{L:Nat}(h:E.length=L):(E.map f).length=L:=by rw[agy,h]
theorem TK{α:Type}{E:List α}{i:Nat}{x y:α}(h:E[i]?=some x):(E.set i y)[i]?=some y:=by
 rw[agW (agt.1 h).1]
def LC(o:Oper):Bool:=
 match o.op with
 | .call c=>match c.callee with
   | .value _=>false
   |_=>true
 |_=>true
def SE:ct→Bool
 | .va _=>true
 |_=>false
def H4(o:Oper)(a:ct):Bool:=l0 true o||(LC o&&(ie o|| !SE a))
def F5(as:List (Nat×ct)):Nat→List Oper→Bool
 |_,[]=>true
 |j,o::l=>H4 o (iL as (3*j+1))&&F5 as (j+1) l
section
variable {P:Program} {ops:Array Oper} {o:Oper} {j:Nat} {as:List (Nat×ct)} {s s1:St} {l:List (In×ct)} {K:St→Prop}
theorem abD(hn:LC o=true)(h:kX P o K s):pj P o K s:=by
 unfold pj;unfold LC at hn;split
 ·next c eW=>
  rw[eW]at hn;split
  ·next f hc=>simp only[hc]at hn;cases hn
  ·exact h
 ·exact h
theorem Q1(h:oa P false o j as s=some (s1,l))(cu:gT P l)(hK:K s1)(hL:H4 o (iL as (3*j+1))=true):oC true P o K s:=by
 unfold oa at h;simp only[Bool.false_and,cond_false]at h;split at h
 ·next x h' i hr=>
  have fin:OK P i (iL as (3*j+1))→K ((s.wh h').put o.dst x)→oC true P o K s:=fun h1 h2=>by
   unfold H4 at hL;rw[Bool.or_eq_true]at hL;unfold GY at hr;split at hr
   ·next va e=>
    simp only[Bool.false_and,cond_false]at hr;split at hr
    ·next x2 GJ p e2=>
     cases hr
     rcases hL with hL|hL
     ·exfalso;rw[e]at h1;unfold l0 at hL;simp only[Bool.true_and]at hL;split at hL
      ·next c eW=>
       split at hL
       ·next t hc=>
        rw[eW]at e2;unfold fm at e2;simp only[hc]at e2;cases e2
       ·cases hL
      ·cases hL
     ·rw[e]at h1 hL;simp only[SE,Bool.not_true,Bool.or_false,agv]at hL;cases h1 with|pr _ hp=>exact .inr (.inr (.inl ⟨hL.2,va,x,h',p,e2,hp,h2⟩))
    ·cases hr
   ·rcases hL with hL|hL
    ·exact .inr (.inl ⟨hL,x,h',h2,fun C hC=>zt hr h1 hC⟩)
    ·rw[agv]at hL;exact .inl (abD hL.1 (zt (C:=fun x h'=>K ((s.wh h').put o.dst x)) hr h1 h2))
  split at h
  ·next y hy=>
   obtain⟨m,e,h2,h3⟩:=Ha h cu;cases e
   have:=h2 (.eq x, .eq y) agz;cases this with|eq e=>subst e;exact fin h3 hK
  ·obtain⟨m,e,h2,h3⟩:=Ha h cu;cases e
   exact fin h3 hK
 ·cases h
theorem adx(h:mF P ops false o j as s=some (s1,l))(cu:gT P l)(hK:K s1)(hL:H4 o (iL as (3*j+1))=true):gM ops o s (oC true P o K s) (K (s.put o.dst (.d (.v undef)))):=by
 unfold mF at h;split at h
 ·next hg=>unfold gM;rw[hg];exact Q1 h cu hK hL
 ·next g want hg=>
  obtain⟨dst,op,ty,pos,after,guard⟩:=o;simp only at hg;subst hg;split at h
  ·next b hb=>
   obtain⟨n,e,h2,h3⟩:=zJ h cu;have h4:=OK.FM (h3 (_,_) agz);rw[Gd,h4];refine⟨fun e2=> ?_,fun e2=> ?_⟩
   ·subst e2;simp only[BEq.rfl,cond_true]at e;exact Q1 e h2 hK hL
   ·subst e2;have:((!want)==want)=false:=by cases want<;>rfl
    rw[this]at e;simp only[cond_false]at e;cases e
    exact hK
  ·next hb=>
   obtain⟨n,e,h2,h3⟩:=zJ h cu;cases e
   have h4:=h3 (_,_) agz;have h5:sN ops g s.t= .d (.v undef):=by
    generalize sN ops g s.t=z at h4;cases h4;rfl
   rw[Gd,h5];exact hK
  ·cases h
theorem Uf:∀(ol:List Oper)(j:Nat)(s:St)(l:List (In×ct)),mE P ops false ol j as s=some (s1,l)→gT P l→F5 as j ol=true→K s1→po true P ops ol K s
 |[],_,s,l,h,_,_,hK=>by cases h;exact hK
 |o::rest,j,s,l,h,cu,hL,hK=>by
  unfold F5 at hL;rw[agv]at hL;unfold mE at h;split at h
  ·next s2 m hg=>
   obtain⟨n,e,h2,h3⟩:=zJ h cu;exact adx (K:=po true P ops rest K) hg h3 (Uf rest (j+1) s2 n e h2 hL.2 hK) hL.1
  ·cases h
theorem Qm:∀(ol pre:List Oper),oH (pre++ol).toArray ((List.range ol.length).map (pre.length+·))=ol
 |[],_=>rfl
 |o::l,pre=>by
  rw[agw,List.range_succ_eq_map,agS,List.map_map];unfold oH;have h1:(pre++o::l).toArray[pre.length+0]?=some o:=by simp
  rw[h1];simp only;have h2:=Qm l (pre++[o]);rw[agK]at h2;simp only[List.singleton_append,agu,agw,agF,agN]at h2
  congr 1
  rw[show(pre.length+·)∘Nat.succ=(pre.length+1+·)from by funext i;simp only[Function.comp];omega];exact h2
theorem Zs(ol:List Oper):oH ol.toArray (List.range ol.length)=ol:=by
 have:=Qm ol []
 simpa using this
end
section
variable {P:Program} {r:Option Nat} {N0 id n:Nat} {ol:List Oper} {y:Code} {t:List (Nat×AV)} {h:List ak} {Q Q':Exit→St→Prop}
end
section
variable {P:Program} {r:Option Nat} {N0:Nat} {Q:Exit→St→Prop} {c:Code} {o:Oper} {K:St→Prop}
theorem H3{n d:Nat}{t:List (Nat×AV)}{h h':List ak}{x:AV}(hx:p8 P o.op (ev ⟨n,t,h⟩) h=some (x,h'))(hd:o.dst=some d)(hn:Nat.ble n d=false)(hK:K ⟨n,(d,x)::t,h'⟩):lF P o K ⟨n,t,h⟩:=by
 refine .inr (.inr (.inr (.inr ⟨x,h', .inl hx,?_⟩)));have aO:d<n:=Nat.lt_of_not_le fun hle=>by rw[Nat.ble_eq_true_of_le hle]at hn;cases hn
 rw[hd,pD (s:=St.wh ⟨n,t,h⟩ h') aO];exact hK
theorem abI{n d:Nat}{t:List (Nat×AV)}{h h':List ak}{x:AV}{p:Prop}(a:VA)(hx:fm P o.op (ev ⟨n,t,h⟩) h a=some (x,h',p))(hp:p)(hd:o.dst=some d)(hn:Nat.ble n d=false)(hK:K ⟨n,(d,x)::t,h'⟩):lF P o K ⟨n,t,h⟩:=by
 refine .inl ⟨a,x,h',p,hx,hp,?_⟩;have aO:d<n:=Nat.lt_of_not_le fun hle=>by rw[Nat.ble_eq_true_of_le hle]at hn;cases hn
 rw[hd,pD (s:=St.wh ⟨n,t,h⟩ h') aO];exact hK
theorem Vh{ρ:Operand→AV}{h:List ak}{q:Call}{x y:Operand}{T U:TypeId}{e k m c9:Nat}{kq kn:IntKind}{z:Value}(hc:q.callee= .builtin .append)(h1:q.args.toList=[x,y])(h2:q.argTypes.toList=[T,U])(hx:(ρ x).isNil=true)(hT:dY P T=some (e,k))(hU:oz P U=some kn)(hy:ρ y= .d (.v (.int kq (Int.ofNat m))))(hz:gO P e=some z)(hb:mw P e=some c9)(g1:1≤m)(g2:1≤k)(g3:z.cells.toList.length=k)(g4:m≤maxLen)(g5:m*c9≤140737488355328):
 p8 P (.call q) ρ h=some (.vec h.length 0 m m k,h++[.vec e k (List.replicate m (z.cells.toList.map fun u=> .d (.v u)))]):=by
 unfold p8;simp only[hc,h1,h2,hT,hU,hy,hz,hb,hx,cZ.2 g1,cZ.2 g2,cZ.2 g4,cZ.2 g5,g3,ahc,Bool.and_self,cond_true]
theorem adn{n t e k L:Nat}{ts:List (Nat×AV)}{cs:List (List AV)}(cJ:N0=0)(ht:bz ts t= .vec 0 0 0 L k)(hL:cs.length=L)(h:bH P r N0 c Q ⟨n,[(t, .own 0 [])],[.front e k 0]⟩):bH P r N0 c Q ⟨n,ts,[.vec e k cs]⟩:=by
 subst cJ;constructor
 intro G w a m hs hN;have hi:=hs.inv;have sb:([ak.vec e k cs]:List ak)[0]?=some (.vec e k cs):=rfl;have hGN:G.N=1:=hi.len.symm;have hv:=hs.tmp t;rw[ht]at hv;obtain⟨wI,⟨A,cc,q1,q2,q3,q4,q5⟩,Pz⟩:=hv.qQ hi sb hL;obtain⟨b1,b2,b3,b4⟩:=hi.dp 0 _ sb;have Xn:∀(A:Option Addr),cc≤maxLen→dC G.S w (.slice A 0 cc) (.sl []):=fun A hc=> .sl A 0 0 cc 0 [] (fun _ _=>undef) (fun h=>absurd rfl h) (Nat.zero_le _) hc (fun _ h=>absurd h ag9) (fun i j hi=>absurd hi (agV _)) (fun i j x d hx=>by simp at hx);obtain⟨G',fZ⟩:∃G',G'={G with sg:=fun i=>if i=0 then a.tmps.getD t undef else G.sg i,fl:=fun i=>if i=0 then 0 else G.fl i}:=⟨_,rfl⟩;have hE:bZ 0 G w G' w:=by
  subst fZ;exact⟨agE _,fun _ _ h=>h,fun _ _ _=>rfl,fun _ h=>absurd h (agV _),fun _ h=>absurd h (agV _),gq rfl,fun _ _=>rfl,rfl,rfl,rfl,fun _ _ h=> .inl h⟩
 have hinv:cf G' w [.front e k 0]:=by
  refine⟨by rw[fZ];exact hi.len,by rw[fZ];exact hi.z,by rw[fZ];exact hi.S,fun j B hB=> ?_,fun i j x h1 h2=> ?_,by rw[fZ];exact hi.gl⟩
  ·match j with
   |0=>
    cases hB
    refine⟨by rw[fZ];simp,Nat.zero_le _,?_⟩;rcases b4 with⟨d1,d2,A',d3⟩|⟨g,cap,cur,d1,d2,d3,d4,d5,d6,d7,d8,d9⟩
    ·left
     refine⟨by rw[fZ];exact d1,?_⟩;have xn:L=0:=by rw[←hL,d2];rfl
     have:=Pz rfl xn.symm;rw[fZ];exact⟨A',by simp only[if_true];rw[this];exact d3⟩
    ·by_cases xn:L=0
     ·have:=Pz rfl xn.symm
      right
      refine⟨g,cap,cur,by rw[fZ];exact d1,?_,by rw[fZ];exact d3,d4,Nat.zero_le _,d6,d7,fun o _=>by rw[fZ];exact d8 o⟩;rw[fZ];simp only[if_true];rw[this,d2,hL,xn]
     ·obtain⟨g',xZ,s1,rfl,s3⟩:=q5 (Nat.pos_of_ne_zero xn);rw[d2]at s1;cases s1
      right
      have:cc=cap:=by omega
      subst this;refine⟨g,cc,cur,by rw[fZ];exact d1,?_,by rw[fZ];exact d3,d4,Nat.zero_le _,d6,d7,fun o _=>by rw[fZ];exact d8 o⟩;rw[fZ];simp only[if_true];rw[q1,Nat.zero_mul]
   |j+1=>simp at hB
  ·have hj:∀i x,cl [ak.front e k 0] G' i=some x→i=0:=fun i x h=>by
    obtain⟨B,hB,_⟩:=kI h
    match i with
    |0=>rfl
    |i+1=>simp at hB
   rw[hj i x h1,hj j x h2]
 refine wpIn_mono (h.run G' w a m ⟨hs.size,fun i=> ?_,hinv,?_⟩ (Nat.zero_le _)) fun _ _ _ hn=>hn.trans hE
 ·show aG G' w _ (bz [(t, .own 0 [])] i);rw[jX];split
  ·next e=>
   subst e;refine .own 0 [] (by rw[fZ];show 0<G.N;omega) ?_ (Nat.zero_le _) (fun _=>by rw[fZ];simp);rw[q1,fZ];exact Xn A q3
  ·exact .dead _
 ·have:=hs.df;rw[fZ];exact this
end
end Go.Proofs.YtphmhnabilhbgaaGreatDoor
namespace Go.Proofs.YtphmhnabilhbgaaGreatDoor.MK
open Go.RowKit
set_option linter.unusedVariables false
def ak(w:World)(g:Nat)(t:TypeId)(cs:List Value):Prop:=w.heap[g]?=some (.cells cs.toArray t (0,0))
section
variable {w w':World} {g:Nat} {t:TypeId} {cs:List Value}
theorem ak.cell(h:ak w g t cs)(i:Nat):w.cell? ⟨g,i,none⟩=cs[i]?:=by
 rw[cell_of_row w g i cs.toArray t (0,0) h];simp
theorem ak.drew(h:ak w g t cs):ak w.drew g t cs:=h
theorem ak.setRow(h:ak w g t cs)(cp:List Value):ak (w.setRow g cp.toArray) g t cp:=setRow_heap w g _ _ t _ h
end
section
variable {P:Program} (w:World)
theorem acj(t ty e:TypeId)(k:Nat)(ht:P.underlying t=some (.slice e))(hs:(P.info? e).map (·.size)=some k)
 (g n cap:Nat) (cur:List Value) (hg:ak w g e cur)
 (ad:Addr) (m c:Nat) (news:List Value) (hl:news.length=m*k) (mA:∀j u,news[j]?=some u→w.cell? (ad.add j)=some u) (h1:∀u∈news,u.oneCell'=true)
 (mK:n+m≤cap) (jF:n*k+news.length≤cur.length):
 (Builtin.append_ #[t,t] ty #[.slice (some ⟨g,0,none⟩) n cap, .slice (some ad) m c]).run P w=
  .ok (.slice (some ⟨g,0,none⟩) (n+m) cap) (w.setRow g (Go.splice cur (n*k) news).toArray):=by
 cases hq:P.info? e with
 |none=>simp [hq]at hs
 |some i=>
  have hi:i.size=k:=by simpa [hq]using hs
  subst hi;rw[run_append_room (P:=P) w t ty e i ht hq g n cap cur.toArray hg ad m c news hl mA h1 mK (by simpa using jF)];simp [Go.splice]
theorem adQ(t e:TypeId)(k:Nat)(z:Value)(ht:P.underlying t=some (.slice e))(hv:∀w,(zeroValue e).run P w= .ok z w)(hk:z.cells.size=k)(hz1:∀v∈z.cells.toList,v.oneCell'=true)
 (g off n:Nat) (cur:List Value) (te:TypeId) (hg:ak w g te cur) (hn:0<n) (jF:off+n*k≤cur.length):
 ∃zs:List Value,zs.length=n*k∧∀ty c,(Builtin.clear_ #[t] ty #[.slice (some ⟨g,off,none⟩) n c]).run P w= .ok (.tuple #[]) (w.setRow g (Go.splice cur off zs).toArray):=by
 subst hk;refine⟨(Builtin.zeroCells z.cells n).toList,by simp [Builtin.zeroCells],fun ty c=> ?_⟩;have hlen:(Builtin.zeroCells z.cells n).toList.length=n*z.cells.size:=by simp [Builtin.zeroCells]
 have h1:∀v∈(Builtin.zeroCells z.cells n).toList,v.oneCell'=true:=by
  intro v hv;rw[Array.mem_toList_iff]at hv;simp only[Builtin.zeroCells,Array.mem_map,Array.mem_range]at hv;obtain⟨i,hi,rfl⟩:=hv;have hp:0<z.cells.size:=by
   rcases Nat.eq_zero_or_pos z.cells.size with h0|h0
   ·rw[h0]at hi;omega
   ·exact h0
  have aO:=Nat.mod_lt i hp;rw[getElem!_pos z.cells (i%z.cells.size) aO];exact hz1 _ (by simp)
 have fE:=run_storeCells_at P g off te (Builtin.zeroCells z.cells n).toList 0 cur.toArray w hg (by rw[hlen];simpa using jF) h1;simp only[Nat.add_zero]at fE;obtain⟨m,rfl⟩:∃m,n=m+1:=⟨n-1,by omega⟩;simp only[Builtin.clear_];simp [run_underlying ht,hv,fE,Go.splice]
end
section
variable {P:Program} {w:World}
theorem aaK{ops:Array Oper}{rest:List Oper}{o:Oper}{a:Act}{Q:Exit→Act→World→Prop}(Cu:o.guard=none)(d:Operand)(t:TypeId)
 (ho:o.op= .call {callee:= .builtin .clear,args:= #[d],argTypes:= #[t]}) (v:Value) (hd:a.eval d=v) {v':Value} {w':World}
 (hr:(Builtin.clear_ #[t] o.type #[v]).run P w= .ok v' w') (h:wpList P ops Q rest (a.put o.dst v') w'):wpList P ops Q (o::rest) a w:=
 wpList_plain Cu fun _ hK=>by
  unfold Oper.wp execOp;simp only[ho,resolve,invoke,builtin,Sem.run_bind,Sem.run_pure,Result.andThen_ok,List.map_toArray,agS,List.map_nil,hd,hr];exact hK _ _ h
theorem XS{ops:Array Oper}{o:Oper}{a:Act}{K:Act→World→Prop}{Q:Exit→Act→World→Prop}{E:Prop}(Cu:o.guard=none)(d s:Operand)(t t':TypeId)
 (ho:o.op= .call {callee:= .builtin .append,args:= #[d,s],argTypes:= #[t,t']}) (v u:Value) (hd:a.eval d=v) (hs:a.eval s=u) {v':Value} {w':World}
 (hr:(Builtin.append_ #[t,t'] o.type #[v,u]).run P w= .ok v' w') (hK:K (a.put o.dst v') w'):if Region.wanted o (yielded ops a.tmps)=true then Oper.wp P o a w K Q else E:=by
 have hw:Region.wanted o (yielded ops a.tmps)=true:=by simp [Region.wanted,Cu]
 rw[if_pos hw];unfold Oper.wp execOp;simp only[ho,resolve,invoke,builtin,Sem.run_bind,Sem.run_pure,Result.andThen_ok,List.map_toArray,agS,List.map_nil,hd,hs,hr];exact hK
end
section
variable {S E base:Nat} {w w' w'':World}
end
end Go.Proofs.YtphmhnabilhbgaaGreatDoor.MK
