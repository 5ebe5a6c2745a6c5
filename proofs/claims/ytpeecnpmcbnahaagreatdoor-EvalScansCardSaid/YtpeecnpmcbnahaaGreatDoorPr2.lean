/-
  Part 2 of the proof: AbsLeave, AbsLoop, AbsZero, AbsIter, AbsCode, AbsWalk, GrowF, AbsDraw, AbsFrame.
-/
import Derived.Test.YtpeecnpmcbnahaaGreatDoorPr1
import Derived.Lib.AppendZeros
import Derived.Maps.RangeRun
namespace Go.Proofs.YtpeecnpmcbnahaaGreatDoor
open Go.RowKit
theorem aD.zm{G:Gh}{w:an8}{u:an7}{x:AV}(Z:Nat->Prop)(M:Nat)(h:aD G w u x):aD {G with Z:=Z,M:=M} w u x:=by
 induction h with
 |agg vs cs hl _ ih=>exact .agg vs cs hl ih
 |aZ vs cs hl _ ih=>exact .aZ vs cs hl ih
 |fn f vs cs hl _ ih=>exact .fn f vs cs hl ih
 |own n xs h hp hle hf=>exact .own n xs h hp hle hf
 |ptr n off h=>exact .ptr (G:={G with Z:=Z,M:=M}) n off h
 |row n off len cap k h hl hm=>exact .row (G:={G with Z:=Z,M:=M}) n off len cap k h hl hm
 |mp n h=>exact .mp (G:={G with Z:=Z,M:=M}) n h
 |cg n h=>exact .cg (G:={G with Z:=Z,M:=M}) n h
 |vec n o len L k h hs hL hf=>exact .vec (G:={G with Z:=Z,M:=M}) n o len L k h hs hL hf
 |dp n i j L k h hs hL hf=>exact .dp (G:={G with Z:=Z,M:=M}) n i j L k h hs hL hf
 |hid h J=>exact .hid h J
 |d h=>exact .d h
 |bg xs i off b o u x hx hS hu=>exact .bg xs i off b o u x hx hS hu
 |full xs hp hf=>exact .full xs hp hf
 |dead u=>exact .dead u
theorem dP.zm{G:Gh}{w:an8}{n:Nat}{B:ao}(Z:Nat->Prop)(M:Nat)(hz:∀b,Z b->G.Z b)(h:dP G w n B):dP {G with Z:=Z,M:=M} w n B:=by
 cases B with
 |gone=>trivial
 |cells cs=>
  obtain⟨J,h2,vs,T,h3,h4,h5⟩:=h;exact⟨λk=>J (hz _ k),h2,vs,T,h3,h4,λi u c hu hc=>(h5 i u c hu hc).zm Z M⟩
 |lp ls p as bd cs=>
  obtain⟨J,h2,fn,vs,T,h3,h4,h5⟩:=h;exact⟨λk=>J (hz _ k),h2,fn,vs,T,h3,h4,λi u c hu hc=>(h5 i u c hu hc).zm Z M⟩
 |it sn cs=>
  obtain⟨J,h2,fn,vs,T,h3,h4,h5⟩:=h;exact⟨λk=>J (hz _ k),h2,fn,vs,T,h3,h4,λi u c hu hc=>(h5 i u c hu hc).zm Z M⟩
 |eG T0 cs=>
  obtain⟨J,h2,fn,vs,T,h3,h4,h5⟩:=h;exact⟨λk=>J (hz _ k),h2,fn,vs,T,h3,h4,λi u c hu hc=>(h5 i u c hu hc).zm Z M⟩
 |map kv=>
  obtain⟨J,h2,es,c,h3,h4⟩:=h;exact⟨λk=>J (hz _ k),h2,es,c,h3,h4⟩
 |iy kv=>
  obtain⟨J,h2,es,c,h3,h4⟩:=h;exact⟨λk=>J (hz _ k),h2,es,c,h3,h4⟩
 |front e k len=>
  obtain⟨J,hm,h2⟩:=h;refine⟨J,hm,?_⟩;rcases h2 with h2|⟨g,cap,cur,h2,h3,h4,h5⟩
  ·exact .inl h2
  ·exact .inr ⟨g,cap,cur,h2,h3,λk=>h4 (hz _ k),h5⟩
 |ig e b2=>
  obtain⟨J,hm,h2⟩:=h;refine⟨J,hm,?_⟩;rcases h2 with h2|⟨g,cap,cur,h2,h3,h4,h5⟩
  ·exact .inl h2
  ·exact .inr ⟨g,cap,cur,h2,h3,λk=>h4 (hz _ k),h5⟩
 |vec e k cs=>
  obtain⟨J,hm,hk,h2⟩:=h;refine⟨J,hm,hk,?_⟩;rcases h2 with h2|⟨g,cap,cur,h2,h3,h4,h5,h6,h7,h8,h9,bE⟩
  ·exact .inl h2
  ·exact .inr ⟨g,cap,cur,h2,h3,λk=>h4 (hz _ k),h5,h6,h7,h8,h9,λi j c x u hc hx hu=>(bE i j c x u hc hx hu).zm Z M⟩
theorem GN{h:an3 ao}{G:Gh}{n:Nat}(Z:Nat->Prop)(M:Nat):bH h {G with Z:=Z,M:=M} n=bH h G n:=by
 unfold bH;cases h[n]? with
 |none=>rfl
 |some B=>cases B<;>rfl
theorem bJ.zm{G:Gh}{w:an8}{h:an3 ao}(hi:bJ G w h)(Z:Nat->Prop)(M:Nat)(hz:∀b,Z b->G.Z b)(hM:M<=w.heap.size):bJ {G with Z:=Z,M:=M} w h:=
 ⟨hi.len,λb hb=>hi.z b (hz b hb),hi.S,λn B hB=>(hi.cV n B hB).zm Z M hz,λm n b J h2=>hi.inj m n b (by rw[<-GN Z M];exact J) (by rw[<-GN Z M];exact h2),⟨hi.gl.1,hM⟩⟩
def qK(l:an3 Nat)(w:an8):an8:=l.foldl (λw D=>w.putObj D (.deferred none)) w
theorem Vt:∀(l:an3 Nat)(w:an8),(∀D∈l,w.heap[D]?=some (.deferred (some [])))->l.Nodup->
 (qK l w).heap.size=w.heap.size/\(∀b,b ∉ l->(qK l w).heap[b]?=w.heap[b]?)/\(∀b o,(qK l w).cell? ⟨b,o,none⟩=w.cell? ⟨b,o,none⟩)/\(qK l w).os=w.os/\(qK l w).tape=w.tape/\(qK l w).output=w.output
 |[],w,_,_=>⟨rfl,λ_ _=>rfl,λ_ _=>rfl,rfl,rfl,rfl⟩
 |D::l,w,hd,hn=>by
  rw[List.nodup_cons]at hn;have hD:=hd D ank;have aI:=(ant.1 hD).1;obtain⟨J,h2,h3,h4,h5,h6⟩:=Vt l (w.putObj D (.deferred none)) (λE hE=>by
    have cA:E≠D:=λe=>hn.1 (e▸hE);rw[World.putObj_heap_other cA];exact hd E (ann _ hE)) hn.2
  refine⟨J.trans (by simp),λb hb=> ?_,λb o=> ?_,h4,h5,h6⟩
  ·exact(h2 b λh=>hb (ann _ h)).trans (World.putObj_heap_other λe=>hb (e▸ank))
  ·refine(h3 b o).trans ?_;by_cases e:b=D
   ·subst e;unfold World.cell?;simp only[World.putObj_heap_same aI,hD]
   ·exact World.cell?_of_block (World.putObj_heap_other e)
theorem aaZ{F:Fence}{n:Nat}{P:an6}{fn:Func}{tmps:Array an7}{R:Ending->an8->Prop}:∀(l:an3 Nat)(w:an8),(∀D∈l,w.heap[D]?=some (.deferred (some [])))->l.Nodup->
 LeavesIn F n P fn tmps R [] .returning (qK l w)->LeavesInM F n P fn tmps R (l.map λD=>{target:= .collected D,args:= #[]}) .returning w
 |[],w,_,_,h=>h
 |D::l,w,hd,hn,h=>by
  rw[List.nodup_cons]at hn;exact⟨by simp, .inl ⟨D,_,rfl,run_takeDeferred (hd D ank),aaZ l _ (λE hE=>by
    have cA:E≠D:=λe=>hn.1 (e▸hE);rw[World.putObj_heap_other cA];exact hd E (ann _ hE)) hn.2 h⟩⟩
theorem ajh{N0:Nat}{G G1:Gh}{w w':an8}{a':Act}{s1:St}(hE:bI N0 {G with M:=w.heap.size} w G1 w')(hN:N0<=G1.N)(hz:∀b,G.Z b->b<w.heap.size)(hMw:G.M<=w.heap.size)(hs:cJ G1 w' a' s1):
 ∃(w2:an8)(G2:Gh),(∀(F:Fence)(n:Nat)(P:an6)(fn:Func)(R:Ending->an8->Prop),(∃v,(results fn a'.tmps).run P w2= .ok v w2/\R (.returned v) w2)->LeavesInM F n P fn a'.tmps R a'.defers .returning w')/\
  bI N0 G w G2 w2/\G2.N=G1.N/\cJ G2 w2 {a' with defers:=[]} s1:=by
 obtain⟨l,l1,l2,l3⟩:=hs.df;have hd:∀D∈l,w'.heap[D]?=some (.deferred (some [])):=λD hD=>(l3 D hD).2.2;obtain⟨J,h2,h3,h4,h5,h6⟩:=Vt l w' hd l1;have hM:G1.M=w.heap.size:=hE.Z.2;have jB:∀b,G.Z b->b ∉ l:=λb hb hl=>by
  have:=(l3 b hl).1;have:=hz b hb;omega
 obtain⟨G2,iq⟩:∃G2:Gh,G2={G1 with Z:=G.Z,M:=G.M}:=⟨_,rfl⟩;have uC:∀b,G.Z b->G1.Z b:=hE.Z.1.1;have kL:bJ G2 w' s1.h:=by rw[iq];exact hs.inv.zm _ _ uC (anw hMw hE.size)
 have iT:bI N0 G w G2 w':=by
  rw[iq];exact⟨hE.size,hE.S,hE.cell,hE.aO,hE.fr,gU rfl,hE.old,hE.os,hE.tape,hE.output,hE.new⟩
 have js:bI G2.N G2 w' G2 (qK l w'):=⟨by rw[J];exact anp _,λ_ _ h=>h,λb o _=>h3 b o,λ_ _=>rfl,λ_ _=> .inl ⟨rfl,rfl⟩,gU rfl,λb hb=>h2 b (jB b (by rw[iq]at hb;exact hb)),h4,h5,h6,λ_ _ h=> .inl h⟩;have Gi:bJ G2 (qK l w') s1.h:=⟨kL.len,λb hb=>by rw[J];exact kL.z b hb,λb o hb=>by rw[J];exact kL.S b o hb,λn B hB=>dP.keep (kL.lt hB) js (anp _) ⟨rfl,rfl,rfl⟩ (λb hb=>⟨h2 b λhl=>(hs.inv.cV n B hB).lf (by rw[iq]at hb;cases B<;>exact hb) (l3 b hl).2.1,λ_ h=>h⟩) (kL.cV n B hB),kL.inj,kL.gl.keep js⟩;refine⟨qK l w',G2,λF n P fn R h=> ?_,iT.trans (js.less (by rw[iq];exact hN)),by rw[iq],⟨hs.size,λi=>aD.keep js (anp _) (by rw[iq];exact(hs.tmp i).zm _ _),Gi,rz.nil _ _⟩⟩;rw[l2];exact aaZ l w' hd l1 h
section
variable {G:Gh} {w:an8} {h:an3 ao}
theorem aku(hi:bJ G w h)(fn:FuncId)(tm:Array an7)(D p:Nat)(as bd:Code)(cs:an3 AV)(hl:tm.size=cs.length)(hr:∀(i:Nat)(u:an7)(c:AV),tm[i]?=some u->cs[i]?=some c->aD G w u c):bI G.N G w (G.cO w.heap.size) (w.alloc (.loop {state:= .ready,pending:=none,fn:=fn,tmps:=tm,params:= #[p],assign:=as,body:=bd,defers:=D}))/\bJ (G.cO w.heap.size) (w.alloc (.loop {state:= .ready,pending:=none,fn:=fn,tmps:=tm,params:= #[p],assign:=as,body:=bd,defers:=D})) (h++[.lp .ready p as bd cs])/\aD (G.cO w.heap.size) (w.alloc (.loop {state:= .ready,pending:=none,fn:=fn,tmps:=tm,params:= #[p],assign:=as,body:=bd,defers:=D})) (.func (.yield w.heap.size) #[] #[]) (.cg h.length):=by
 have hE:=rD G w hi.z hi.S (.loop {state:= .ready,pending:=none,fn:=fn,tmps:=tm,params:= #[p],assign:=as,body:=bd,defers:=D});have hN:G.N<=(G.cO w.heap.size).N:=Nat.le_succ _;have fX:(G.cO w.heap.size).aO h.length=w.heap.size:=by simp [Gh.cO,hi.len]
 have lh:∀n(B:ao),n<G.N->B.dL (G.cO w.heap.size) n=B.dL G n:=λn B hn=>by
  cases B<;>simp [ao.dL,Gh.cO,Nat.ne_of_lt hn]
 have fk:∀n,n<G.N->bH (h++[.lp .ready p as bd cs]) (G.cO w.heap.size) n=bH h G n:=λn hn=>by
  have aI:n<h.length:=by rw[hi.len];exact hn
  unfold bH;rw[ano aI,ani aI];exact lh n _ hn
 have rX:bH (h++[.lp .ready p as bd cs]) (G.cO w.heap.size) h.length=some w.heap.size:=by
  rw[dx (B:= .lp .ready p as bd cs) (by simp)];exact congrArg some fX
 refine⟨hE,⟨by simp [Gh.cO,hi.len],λb hb=>anD (hi.z b hb) hE.size,λb o hs=>anD (hi.S b o hs) hE.size,λn B hB=> ?_,λm n b hm hn=> ?_,hi.gl.keep hE⟩,?_⟩
 ·by_cases hn:n<h.length
  ·rw[ano hn]at hB;have eN:n<G.N:=hi.len▸hn;exact dP.keep eN hE hN ⟨rfl,rfl,rfl⟩ (λb hb=>⟨Below.heap_alloc w _ _ (hi.gX (n:=n) ((dx hB).trans hb)),λo h=>h⟩) (hi.cV n B hB)
  ·have ku:n=h.length:=by
    have:=(ane.1 hB).1;simp at this;omega
   subst ku;simp at hB;subst hB;exact⟨by rw[fX];exact λhz=>anT _ (hi.z _ hz),λo hs=>by rw[fX]at hs;exact anT _ (hi.S _ _ hs),fn,tm,D,by rw[fX];exact World.alloc_heap_new w _,hl,λi u c hu hc=>(hr i u c hu hc).keep hE hN⟩
 ·have key:∀n b,bH (h++[.lp .ready p as bd cs]) (G.cO w.heap.size) n=some b->(n<G.N/\bH h G n=some b)\/(n=h.length/\b=w.heap.size):=λn b hn=>by
   by_cases aI:n<G.N
   ·exact .inl ⟨aI,by rw[<-fk n aI];exact hn⟩
   ·by_cases e:n=h.length
    ·subst e;rw[rX]at hn;cases hn;exact .inr ⟨rfl,rfl⟩
    ·rw[uV (anL (by simp;have:=hi.len;omega))]at hn;cases hn
  rcases key m b hm with⟨_,fZ⟩|⟨rfl,rfl⟩<;>rcases key n _ hn with⟨_,eN⟩|⟨rfl,hb⟩
  ·exact hi.inj m n b fZ eN
  ·have:=hi.gX fZ;omega
  ·have:=hi.gX eN;omega
  ·rfl
 ·have:=aD.cg (G:=G.cO w.heap.size) (w:=w.alloc (.loop {state:= .ready,pending:=none,fn:=fn,tmps:=tm,params:= #[p],assign:=as,body:=bd,defers:=D})) h.length (by simp [Gh.cO,hi.len])
  rwa [fX]at this
theorem LK{k:Nat}{B B':ao}{ob vB:Obj}(hi:bJ G w h)(hk:h[k]?=some B)(vh:B.dL G k=some (G.aO k))(hS:∀o,¬G.S (G.aO k) o)(l7:w.heap[G.aO k]?=some ob)(hn:B'= .gone\/B'.dL G k=some (G.aO k))
 (hB:∀w',(∀b o,G.S b o->w'.cell? ⟨b,o,none⟩=w.cell? ⟨b,o,none⟩)->w'.heap[G.aO k]?=some vB->bI G.N G w G w'->dP G w' k B'):bI G.N G w G (w.putObj (G.aO k) vB)/\bJ G (w.putObj (G.aO k) vB) (h.set k B'):=by
 have aI:=(ant.1 l7).1;have hZ:¬G.Z (G.aO k):=(hi.cV k B hk).lf vh;have ja:∀b,b≠G.aO k->(w.putObj (G.aO k) vB).heap[b]?=w.heap[b]?:=λb hb=>World.putObj_heap_other hb;have hcell:∀b o,G.S b o->(w.putObj (G.aO k) vB).cell? ⟨b,o,none⟩=w.cell? ⟨b,o,none⟩:=λb o hs=>World.cell?_of_block (ja b (λe=>hS o (e▸hs)));have hE:bI G.N G w G (w.putObj (G.aO k) vB):=⟨by simp,λ_ _ h=>h,hcell,λ_ _=>rfl,λ_ _=> .inl ⟨rfl,rfl⟩,gU rfl,λb hb=>ja b (λe=>hZ (e▸hb)),rfl,rfl,rfl,λ_ _ h=> .inl h⟩;refine⟨hE,?_⟩;have hkl:=(ane.1 hk).1;have mH:(h.set k B')[k]?=some B':=by rw[anI hkl]
 have e8:∀m,m≠k->(h.set k B')[m]?=h[m]?:=λm hm=>by rw[anN (Ne.symm hm)]
 have lE:bH h G k=some (G.aO k):=(dx hk).trans vh;have eo:∀m b,bH (h.set k B') G m=some b->bH h G m=some b:=λm b hb=>by
  by_cases e:m=k
  ·subst e;rw[dx mH]at hb;rcases hn with rfl|hn
   ·cases hb
   ·rw[hn]at hb;cases hb;exact lE
  ·unfold bH at hb ⊢;rw[e8 m e]at hb;exact hb
 refine⟨by rw[List.length_set];exact hi.len,λb hb=>anD (hi.z b hb) hE.size,λb o hs=>anD (hi.S b o hs) hE.size,λm C hC=> ?_,λm m' b J h2=>hi.inj m m' b (eo m b J) (eo m' b h2),hi.gl.keep hE⟩;by_cases e:m=k
 ·subst e;rw[mH]at hC;cases hC
  exact hB _ hcell (World.putObj_heap_same aI) hE
 ·rw[e8 m e]at hC;have cA:∀b,bH h G m=some b->b≠G.aO k:=λb hb eb=>e (hi.inj m k b hb (by rw[eb];exact lE));exact dP.keep (hi.lt hC) hE (anp _) ⟨rfl,rfl,rfl⟩ (λb hb=>⟨ja b (cA _ ((dx hC).trans hb)),λo h=>h⟩) (hi.cV m C hC)
theorem G7{k:Nat}{ls:LS}{p:Nat}{as bd:Code}{cs:an3 AV}(hi:bJ G w h)(hk:h[k]?=some (.lp ls p as bd cs)):
 (∀o,¬G.S (G.aO k) o)/\∃(fn:FuncId)(tm:Array an7)(D:Nat),w.heap[G.aO k]?=some (.loop {state:=ls.st,pending:=ls.pd,fn:=fn,tmps:=tm,params:= #[p],assign:=as,body:=bd,defers:=D})/\tm.size=cs.length/\(∀(i:Nat)(u:an7)(c:AV),tm[i]?=some u->cs[i]?=some c->aD G w u c)/\
   ∀(Ad:LS),bI G.N G w G (w.putObj (G.aO k) (.loop {state:=Ad.st,pending:=Ad.pd,fn:=fn,tmps:=tm,params:= #[p],assign:=as,body:=bd,defers:=D}))/\bJ G (w.putObj (G.aO k) (.loop {state:=Ad.st,pending:=Ad.pd,fn:=fn,tmps:=tm,params:= #[p],assign:=as,body:=bd,defers:=D})) (h.set k (.lp Ad p as bd cs)):=by
 obtain⟨J,h2,fn,tm,D,h3,h4,h5⟩:=hi.cV k _ hk;refine⟨h2,fn,tm,D,h3,h4,h5,λAd=>LK hi hk rfl h2 h3 (.inr rfl) λw' hc eX hE=>⟨J,h2,fn,tm,D,eX,h4,λi u c hu fI=>(h5 i u c hu fI).keep hE (anp _)⟩⟩
theorem ajr{k:Nat}{ls:LS}{p:Nat}{as bd:Code}{cs:an3 AV}(hi:bJ G w h)(hk:h[k]?=some (.lp ls p as bd cs))(ob:Obj):bI G.N G w G (w.putObj (G.aO k) ob)/\bJ G (w.putObj (G.aO k) ob) (h.set k .gone):=by
 obtain⟨J,h2,fn,tm,D,h3,h4,h5⟩:=hi.cV k _ hk;exact LK hi hk rfl h2 h3 (.inl rfl) λ_ _ _ _=>trivial
theorem adt(hi:bJ G w h):bI G.N G w {G with Z:=λb=>G.Z b\/b=w.heap.size} (w.alloc (.deferred (some [])))/\bJ {G with Z:=λb=>G.Z b\/b=w.heap.size} (w.alloc (.deferred (some []))) h:=by
 have hE:bI G.N G w {G with Z:=λb=>G.Z b\/b=w.heap.size} (w.alloc (.deferred (some []))):=
  ⟨by simp,λ_ _ h=>h,λb _ h=>World.cell?_alloc_lt _ _ _ (hi.S _ _ h),λ_ _=>rfl,λ_ _=> .inl ⟨rfl,rfl⟩,⟨⟨λ_ h=> .inl h,λb h=>h.imp id λe=>Nat.le_of_eq e.symm⟩,rfl⟩,λb hb=>Below.heap_alloc w _ b (hi.z b hb),rfl,rfl,rfl,λ_ _ h=> .inl h⟩
 refine⟨hE,hi.len,λb hb=> ?_,λb o hs=>anD (hi.S b o hs) hE.size,λn B hB=> ?_,λm n b J h2=>hi.inj m n b (by rw[<-GN (λb=>G.Z b\/b=w.heap.size) G.M];exact J) (by rw[<-GN (λb=>G.Z b\/b=w.heap.size) G.M];exact h2),hi.gl.keep hE⟩
 ·rcases hb with hb|rfl
  ·exact anD (hi.z b hb) hE.size
  ·simp
 ·exact dP.keep (hi.lt hB) hE (anp _) ⟨rfl,rfl,rfl⟩ (λb hb=>⟨Below.heap_alloc w _ _ (hi.gX (n:=n) ((dx hB).trans hb)),λo h=>h⟩) (hi.cV n B hB)
end
end Go.Proofs.YtpeecnpmcbnahaaGreatDoor
namespace Go.Proofs.YtpeecnpmcbnahaaGreatDoor
open Go.RowKit Go.Lib
def AV.isNil:AV->Bool
 | .d (.v (.slice none 0 0))=>true
 |_=>false
theorem aeP{x:AV}(h:x.isNil=true):x= .d (.v (.slice none 0 0)):=by
 unfold AV.isNil at h;split at h
 ·rfl
 ·cases h
def Av(P:an6)(op:Op)(ρ:Operand->AV)(h:an3 ao):an5 (AV×an3 ao):=
 match op with
 | .slice T x lo hi none=>match eP P T,ub ρ 0 lo,ub ρ 0 hi with
   |some _,some 0,some 0=>bif (ρ x).isNil then some (.d (.v (.slice none 0 0)),h)else none
   |_,_,_=>none
 | .call c=>match c.callee with
   | .builtin .cap=>match c.args.toList,c.argTypes.toList with
     |[x],[T]=>bif (ρ x).isNil&&(eP P T).isSome then some (.d (.v (.int .i64 0)),h)else none
     |_,_=>none
   | .builtin .append=>match c.args.toList,c.argTypes.toList with
     |[x,y],[T,U]=>match eP P T,qZ P U,ρ y with
      |some (e,k),some _, .d (.v (.int _ (.ofNat m)))=>match iJ P e,qw P e with
       |some z,some cN=>bif (ρ x).isNil&&cf 1 m&&cf 1 k&&z.cells.toList.length==k&&cf m maxLen&&cf (m*cN) 140737488355328 then some (.vec h.length 0 m m k,h++[.vec e k (List.replicate m (z.cells.toList.map λu=> .d (.v u)))])else none
       |_,_=>none
      |_,_,_=>none
     |_,_=>none
   |_=>none
 |_=>none
section
variable {P:an6} {r:an5 Nat} {n N0:Nat} {G:Gh} {w:an8} {a:Act} {s:St} {o:Oper} {K:St->Prop} {Q:Exit->Act->an8->Prop}
theorem ajy{x:Operand}{T:TypeId}(c:Call)(hc:c.callee= .builtin .cap)(J:c.args.toList=[x])(h2:c.argTypes.toList=[T])(ho:o.op= .call c):
 (execOp a.eval o).run P w=((Builtin.cap_ #[T] o.type #[a.eval x]).run P w).andThen λv w'=> .ok (.value v) w':=by
 have e1:c.args= #[x]:=by rw[<-Array.toList_inj];exact J
 have e2:c.argTypes= #[T]:=by rw[<-Array.toList_inj];exact h2
 unfold execOp;simp only[ho,resolve,hc,e1,e2,invoke,builtin,Sem.run_bind,Sem.run_pure,Result.andThen_ok,List.map_toArray,anE,List.map_nil]
theorem WG(hs:cJ G w a s){x:an5 Operand}(h:ub (ev s) 0 x=some 0):BE a x 0 0:=by
 cases x with
 |none=>rfl
 |some y=>exact QJ (d:=0) hs h (Int.le_refl _)
theorem ae4{x:AV}{h':an3 ao}(hs:cJ G w a s)(cq:N0<=G.N)(hx:Av P o.op (ev s) s.h=some (x,h'))(hK:K ((s.wh h').put o.dst x)):o.wpIn (WF r) n P a w (iS N0 G w K) Q:=by
 have de:=hs.ev;have nil:∀{y:Operand},(ev s y).isNil=true->a.eval y= .slice none 0 0:=fun{y} h=>by
  have:=de y;rw[aeP h]at this;exact this.val
 unfold Av at hx;split at hx
 next T y lo hi ho=>
  split at hx
  ·next ek e1 e2 e3=>
   obtain⟨hb,he⟩:=mC hx;cases he
   obtain⟨fB,fS⟩:=jV e1;refine ft (by rw[ho];simp) hs cq (v:= .slice none 0 0) ?_ (.d (.v _)) hK;have jY:=BK (P:=P) (Bn:=true) (WG hs e2) (WG hs e3) (anp _) (anp 0) w;unfold execOp;simp [ho,nil hb,Instr.sliceAt,Instr.slice,run_underlying fB,jY,mz fS]
  ·cases hx
 next c ho=>
  split at hx
  ·next hc=>
   split at hx
   ·next y T e1 e2=>
    obtain⟨hb,he⟩:=mC hx;cases he
    rw[ang]at hb;cases hT:eP P T with
    |none=>rw[hT]at hb;cases hb.2
    |some ek=>
     obtain⟨fB,fS⟩:=jV hT;refine ft (by rw[ho];simp) hs cq (v:= .int .i64 0) ?_ (.d (.v _)) hK;rw[ajy c hc e1 e2 ho,nil hb.1];simp [Builtin.cap_,run_underlying fB,goInt]
   ·cases hx
  ·next hc=>
   split at hx
   ·next y z T U e1 e2=>
    split at hx
    ·next e k kn kq m f1 f2 f3=>
     split at hx
     ·next zz cN g1 g2=>
      obtain⟨hb,he⟩:=mC hx;cases he
      simp only[ang,c6,beq_iff_eq]at hb;obtain⟨⟨⟨⟨⟨iC,jY⟩,KQ⟩,qi⟩,Oq⟩,PK⟩:=hb;clear hx;obtain⟨fB,fS⟩:=jV f1;obtain⟨i,ld,jS⟩:∃i,P.info? e=some i/\i.size=k:=by
       unfold fW at fS;cases hq:P.info? e with
       |none=>rw[hq]at fS;cases fS
       |some i=>rw[hq]at fS;exact⟨i,rfl,anx fS⟩
      have hz:i.zero=some zz:=by unfold iJ at g1;rw[ld]at g1;exact g1
      have hbt:i.bytes=cN:=by unfold qw at g2;rw[ld]at g2;exact anx g2
      subst jS;subst hbt;have hy:=de z;rw[f3]at hy;have ey:a.eval z= .int kq (m:Nat):=hy.val;have dz:=run_append_nil_zeros (P:=P) w T U o.type e i zz kq kn fB (H7 f2) ld hz m (by omega) (by omega) (by have:=Oq;simp [maxLen]at this;omega) (by omega);have jB:zz.cells.size=i.size:=by rw[<-anM];exact qi
      have gd:(List.replicate m (zz.cells.toList.map λu=>AV.d (.v u))).length=m:=anP;obtain⟨cap,jU⟩:∃cap,cap=grownCap w m 0 e:=⟨_,rfl⟩;have j0:m<=cap:=by rw[jU];exact grownCap_ge _ _ _ _
      have hle:cap<=maxLen:=by rw[jU];exact grownCap_le_maxLen _ _ _ _ Oq
      rw[<-jU]at dz;obtain⟨cur,kt⟩:∃cur,cur=Builtin.zeroCells zz.cells m++Builtin.zeroCells zz.cells (cap-m):=⟨_,rfl⟩;rw[<-kt]at dz;have gx:cur.size=cap*i.size:=by
        rw[kt,Array.size_append,size_zeroCells,size_zeroCells,jB,<-Nat.add_mul]
        congr 1
        omega
      obtain⟨G',q1,q2,q3,q4⟩:=Nl (e:=e) (k:=i.size) (cap:=cap) (cs:=List.replicate m (zz.cells.toList.map λu=>AV.d (.v u))) (cur:=cur) hs.inv (by rw[gd];exact j0) hle gx (λc hc=>by
       rw[List.eq_of_mem_replicate hc,anj];exact qi) w.drew ⟨rfl,rfl,rfl,rfl⟩ (λa' b c x u hc hx hu=>by
       have:=List.eq_of_mem_replicate (anr hc);subst this;rw[anl]at hx;cases hq:zz.cells.toList[b]? with
       |none=>rw[hq]at hx;cases hx
       |some y=>
        rw[hq]at hx;cases hx
        have jv:b<i.size:=by rw[<-qi];exact(ane.1 hq).1
        have Ly:a'<m:=by have:=(ane.1 hc).1;rwa [gd]at this
        have aI:a'*i.size+b<m*i.size:=m8 Ly jv;rw[kt,Array.getElem?_append_left (by rw[size_zeroCells,jB];exact aI)]at hu;unfold Builtin.zeroCells at hu;rw[Array.getElem?_map,Array.getElem?_range,jB,if_pos aI]at hu;simp only[Option.map_some,Option.some.injEq]at hu;rw[(IY (i:=a') jv).2]at hu;have ql:zz.cells[b]?=some y:=by rw[<-anC];exact hq
        rw[getElem!_pos zz.cells b (by rw[jB];exact jv)]at hu;rw[anB (by rw[jB];exact jv)]at ql;cases ql
        subst hu;exact .d (.v _))
      rw[gd]at q4;refine l8 (by rw[ho];simp) hs cq (by rw[D5 c hc e1 e2 ho,nil iC,ey,dz];rfl) q1 q2 q3 (q4 m (anp _)) hK
     ·cases hx
    ·cases hx
   ·cases hx
  ·cases hx
 next=>cases hx
end
end Go.Proofs.YtpeecnpmcbnahaaGreatDoor
namespace Go.Proofs.YtpeecnpmcbnahaaGreatDoor
open Go.RowKit
section
variable {G:Gh} {w:an8} {h:an3 ao}
theorem ahA(hi:bJ G w h){b mb c:Nat}(hr:aD G w (.map (some b)) (.mp mb)):bI G.N G w (G.cO w.heap.size) (w.alloc (.mapIter (some b) c #[] c))/\bJ (G.cO w.heap.size) (w.alloc (.mapIter (some b) c #[] c)) (h++[.it (c,[]) [.mp mb]])/\aD (G.cO w.heap.size) (w.alloc (.mapIter (some b) c #[] c)) (.pointer (some ⟨w.heap.size,0,none⟩)) (.ptr h.length 0):=by
 have hE:=rD G w hi.z hi.S (.mapIter (some b) c #[] c);have hN:G.N<=(G.cO w.heap.size).N:=Nat.le_succ _;have fX:(G.cO w.heap.size).aO h.length=w.heap.size:=by simp [Gh.cO,hi.len]
 have lh:∀n(B:ao),n<G.N->B.dL (G.cO w.heap.size) n=B.dL G n:=λn B hn=>by
  cases B<;>simp [ao.dL,Gh.cO,Nat.ne_of_lt hn]
 have fk:∀n,n<G.N->bH (h++[.it (c,[]) [.mp mb]]) (G.cO w.heap.size) n=bH h G n:=λn hn=>by
  have aI:n<h.length:=by rw[hi.len];exact hn
  unfold bH;rw[ano aI,ani aI];exact lh n _ hn
 have rX:bH (h++[.it (c,[]) [.mp mb]]) (G.cO w.heap.size) h.length=some w.heap.size:=by
  rw[dx (B:= .it (c,[]) [.mp mb]) (by simp)];exact congrArg some fX
 refine⟨hE,⟨by simp [Gh.cO,hi.len],λb hb=>anD (hi.z b hb) hE.size,λb o hs=>anD (hi.S b o hs) hE.size,λn B hB=> ?_,λm n b hm hn=> ?_,hi.gl.keep hE⟩,?_⟩
 ·by_cases hn:n<h.length
  ·rw[ano hn]at hB;have eN:n<G.N:=hi.len▸hn;exact dP.keep eN hE hN ⟨rfl,rfl,rfl⟩ (λb hb=>⟨Below.heap_alloc w _ _ (hi.gX (n:=n) ((dx hB).trans hb)),λo h=>h⟩) (hi.cV n B hB)
  ·have ku:n=h.length:=by
    have:=(ane.1 hB).1;simp at this;omega
   subst ku;simp at hB;subst hB;exact⟨by rw[fX];exact λhz=>anT _ (hi.z _ hz),λo hs=>by rw[fX]at hs;exact anT _ (hi.S _ _ hs),b, #[.map (some b)],(),by rw[fX];exact World.alloc_heap_new w _,⟨rfl,rfl⟩,λi u c hu hc=>by
    match i with
    |0=>cases hu;cases hc;exact hr.keep hE hN
    |i+1=>simp at hu⟩
 ·have key:∀n b,bH (h++[.it (c,[]) [.mp mb]]) (G.cO w.heap.size) n=some b->(n<G.N/\bH h G n=some b)\/(n=h.length/\b=w.heap.size):=λn b hn=>by
   by_cases aI:n<G.N
   ·exact .inl ⟨aI,by rw[<-fk n aI];exact hn⟩
   ·by_cases e:n=h.length
    ·subst e;rw[rX]at hn;cases hn;exact .inr ⟨rfl,rfl⟩
    ·rw[uV (anL (by simp;have:=hi.len;omega))]at hn;cases hn
  rcases key m b hm with⟨_,fZ⟩|⟨rfl,rfl⟩<;>rcases key n _ hn with⟨_,eN⟩|⟨rfl,hb⟩
  ·exact hi.inj m n b fZ eN
  ·have:=hi.gX fZ;omega
  ·have:=hi.gX eN;omega
  ·rfl
 ·have:=aD.ptr (G:=G.cO w.heap.size) (w:=w.alloc (.mapIter (some b) c #[] c)) h.length 0 (by simp [Gh.cO,hi.len])
  rwa [fX]at this
theorem Zy(hi:bJ G w h)(e:TypeId):bJ (G.cO w.heap.size) (w.alloc (.cells #[.pointer none, .slice none 0 0] e)) (h++[.eG e [.d (.v (.slice none 0 0))]])/\aD (G.cO w.heap.size) (w.alloc (.cells #[.pointer none, .slice none 0 0] e)) (.pointer (some ⟨w.heap.size,0,none⟩)) (.ptr h.length 0):=by
 have hE:=rD G w hi.z hi.S (.cells #[.pointer none, .slice none 0 0] e);have hN:G.N<=(G.cO w.heap.size).N:=Nat.le_succ _;have fX:(G.cO w.heap.size).aO h.length=w.heap.size:=by simp [Gh.cO,hi.len]
 have lh:∀n(B:ao),n<G.N->B.dL (G.cO w.heap.size) n=B.dL G n:=λn B hn=>by
  cases B<;>simp [ao.dL,Gh.cO,Nat.ne_of_lt hn]
 have fk:∀n,n<G.N->bH (h++[.eG e [.d (.v (.slice none 0 0))]]) (G.cO w.heap.size) n=bH h G n:=λn hn=>by
  have aI:n<h.length:=by rw[hi.len];exact hn
  unfold bH;rw[ano aI,ani aI];exact lh n _ hn
 have rX:bH (h++[.eG e [.d (.v (.slice none 0 0))]]) (G.cO w.heap.size) h.length=some w.heap.size:=by
  rw[dx (B:= .eG e [.d (.v (.slice none 0 0))]) (by simp)];exact congrArg some fX
 refine⟨⟨by simp [Gh.cO,hi.len],λb hb=>anD (hi.z b hb) hE.size,λb o hs=>anD (hi.S b o hs) hE.size,λn B hB=> ?_,λm n b hm hn=> ?_,hi.gl.keep hE⟩,?_⟩
 ·by_cases hn:n<h.length
  ·rw[ano hn]at hB;have eN:n<G.N:=hi.len▸hn;exact dP.keep eN hE hN ⟨rfl,rfl,rfl⟩ (λb hb=>⟨Below.heap_alloc w _ _ (hi.gX (n:=n) ((dx hB).trans hb)),λo h=>h⟩) (hi.cV n B hB)
  ·have ku:n=h.length:=by
    have:=(ane.1 hB).1;simp at this;omega
   subst ku;simp at hB;subst hB;exact⟨by rw[fX];exact λhz=>anT _ (hi.z _ hz),λo hs=>by rw[fX]at hs;exact anT _ (hi.S _ _ hs),(), #[.slice none 0 0], .pointer none,by rw[fX];exact World.alloc_heap_new w _,⟨rfl, .inl rfl,λv hv=>Or.inl (by simpa using hv)⟩,λi u c hu hc=>by
    match i with
    |0=>cases hu;cases hc;exact .d (.v _)
    |i+1=>simp at hu⟩
 ·have key:∀n b,bH (h++[.eG e [.d (.v (.slice none 0 0))]]) (G.cO w.heap.size) n=some b->(n<G.N/\bH h G n=some b)\/(n=h.length/\b=w.heap.size):=λn b hn=>by
   by_cases aI:n<G.N
   ·exact .inl ⟨aI,by rw[<-fk n aI];exact hn⟩
   ·by_cases e:n=h.length
    ·subst e;rw[rX]at hn;cases hn;exact .inr ⟨rfl,rfl⟩
    ·rw[uV (anL (by simp;have:=hi.len;omega))]at hn;cases hn
  rcases key m b hm with⟨_,fZ⟩|⟨rfl,rfl⟩<;>rcases key n _ hn with⟨_,eN⟩|⟨rfl,hb⟩
  ·exact hi.inj m n b fZ eN
  ·have:=hi.gX fZ;omega
  ·have:=hi.gX eN;omega
  ·rfl
 ·have:=aD.ptr (G:=G.cO w.heap.size) (w:=w.alloc (.cells #[.pointer none, .slice none 0 0] e)) h.length 0 (by simp [Gh.cO,hi.len])
  rwa [fX]at this
theorem Hg{n mb:Nat}{sn:Nat×an3 Nat}(hi:bJ G w h)(hb:h[n]?=some (.it sn [.mp mb])):(∀o,¬G.S (G.aO n) o)/\w.heap[G.aO n]?=some (.mapIter (some (G.aO mb)) sn.1 sn.2.toArray sn.1)/\aD G w (.map (some (G.aO mb))) (.mp mb):=by
 obtain⟨J,h2,fn,vs,_,h3,⟨_,h4⟩,h5⟩:=hi.cV n _ hb;have:=h5 0 (.map (some fn)) (.mp mb) (by rw[h4];rfl) rfl;cases this with
 |mp _ aI=>exact⟨h2,h3, .mp mb aI⟩
theorem WZ(hi:bJ G w h):bI G.N G w G w.drew/\bJ G w.drew h:=by
 have hE:bI G.N G w G w.drew:=⟨anp _,λ_ _ h=>h,λ_ _ _=>rfl,λ_ _=>rfl,λ_ _=> .inl ⟨rfl,rfl⟩,gU rfl,λ_ _=>rfl,rfl,rfl,rfl,λ_ _ h=> .inl h⟩;exact⟨hE,hi.len,hi.z,hi.S,λn B hB=>dP.keep (hi.lt hB) hE (anp _) ⟨rfl,rfl,rfl⟩ (λ_ _=>⟨rfl,λ_ h=>h⟩) (hi.cV n B hB),hi.inj,hi.gl.keep hE⟩
end
def Lq(P:an6)(o:Oper)(K:St->Prop)(s:St):Prop:=
 match o.op with
 | .range T m=>match tG P T,ev s m with
   |some _, .mp mb=>match s.h[mb]? with
    |some (.iy kv)=>K ((s.wh (s.h++[.it (kv.length,[]) [.mp mb]])).put o.dst (.ptr s.h.length 0))
    |_=>False
   |_,_=>False
 | .next it false=>match ev s it with
   | .ptr m 0=>match s.h[m]? with
     |some (.it sn [.mp mb])=>match s.h[mb]? with
      |some (.iy kv)=>sn.1=kv.length/\(∀b p,kv[b]?=some p->b ∉ sn.2->K ((s.wh (s.h.set m (.it (sn.1,sn.2++[b]) [.mp mb]))).put o.dst (.aZ [.d (.v (.bool true)), .d (.v (.string p.1)), .d p.2])))/\((∀b,b<kv.length->b∈sn.2)->K (s.put o.dst (.aZ [.d (.v (.bool false))])))
      |_=>False
     |_=>False
   |_=>False
 | .entry it=>match ev s it with
   | .ptr m 0=>match s.h[m]? with
     |some (.it sn [.mp mb])=>match s.h[mb]? with
      |some (.iy kv)=>sn.1=kv.length/\∃l b p,sn.2=l++[b]/\kv[b]?=some p/\K (s.put o.dst (.aZ [.d (.v (.string p.1)), .d p.2]))
      |_=>False
     |_=>False
   |_=>False
 | .alloc e=>match iJ P e with
   |some z=>z.cells= #[.pointer none, .slice none 0 0]/\K ((s.wh (s.h++[.eG e [.d (.v (.slice none 0 0))]])).put o.dst (.ptr s.h.length 0))
   |none=>False
 | .box e x=>ev s x= .agg [.d (.v (.pointer none)), .d (.v (.slice none 0 0))]/\K ((s.wh (s.h++[.eG e [.d (.v (.slice none 0 0))]])).put o.dst (.ptr s.h.length 0))
 |_=>False
section
variable {P:an6} {r:an5 Nat} {n N0:Nat} {G:Gh} {w:an8} {a:Act} {s:St} {o:Oper} {K:St->Prop} {Q:Exit->Act->an8->Prop}
theorem PL{mb:Nat}{kv:an3 (an4×D)}(hi:bJ G w s.h)(hb:s.h[mb]?=some (.iy kv)):∃es:Array MapEntry,w.heap[G.aO mb]?=some (.map es kv.length)/\xG G.S w es kv.length kv:=by
 obtain⟨_,_,es,c,J,h2⟩:=hi.cV mb _ hb;have:c=kv.length:=h2.ok.BJ.trans h2.all.symm;subst this;exact⟨es,J,h2⟩
theorem xG.mem{S:Nat->Nat->Prop}{es:Array MapEntry}{c:Nat}{kv:an3 (an4×D)}(h:xG S w es c kv){e:MapEntry}(he:e∈es.toList):es[e.born]?=some e/\e.born<kv.length:=by
 obtain⟨i,hi,rfl⟩:=List.getElem_of_mem he;have hs:es[i]?=some es.toList[i]:=by simp
 have hb:=h.ok.born i _ hs;rw[hb];exact⟨hs,by rw[h.all];simpa using hi⟩
theorem al7(hs:cJ G w a s)(cq:N0<=G.N)(hx:Lq P o K s):o.wpIn (WF r) n P a w (iS N0 G w K) Q:=by
 have de:=hs.ev;have ptr:∀{y:Operand}{n:Nat},ev s y= .ptr n 0->a.eval y= .pointer (some ⟨G.aO n,0,none⟩):=fun{y n} h=>by
  have:=de y;rw[h]at this;generalize a.eval y=u at this;cases this;rfl
 unfold Lq at hx;split at hx
 next T m ho=>
  split at hx
  ·next ke mb e1 e2=>
   split at hx
   ·next kv hb=>
    obtain⟨es,J,h2⟩:=PL hs.inv hb;have hv:=de m;rw[e2]at hv;have ea:a.eval m= .map (some (G.aO mb)):=by
     generalize a.eval m=u at hv;cases hv;rfl
    rw[ea]at hv;obtain⟨i1,i2,i3⟩:=ahA (c:=kv.length) hs.inv hv;obtain⟨k0,el⟩:=ke;refine l8 (by rw[ho];simp) hs cq (v:= .pointer (some ⟨w.heap.size,0,none⟩)) (w':=w.alloc (.mapIter (some (G.aO mb)) kv.length #[] kv.length)) ?_ i1 (Nat.le_succ _) i2 i3 hx;unfold execOp;simp [ho,ea,Instr.range,run_underlying (BT e1),MapKept.run_getObj_map J,Result.andThen]
   ·cases hx
  ·cases hx
 next it ho=>
  split at hx
  ·next m e1=>
   split at hx
   ·next sn mb hn=>
    split at hx
    ·next kv hb=>
     obtain⟨hc,hK1,hK2⟩:=hx;obtain⟨es,J,h2⟩:=PL hs.inv hb;obtain⟨t1,t2,t3⟩:=Hg hs.inv hn;rw[hc]at t2;have hr:=run_next_at (P:=P) w o.type _ _ _ _ _ _ _ t2 J (λx hx=>(h2.mem hx).2) (anp _);rcases hr with⟨h0,hr⟩|⟨e',pG,w1,Ac,hr⟩
     ·refine ft (by rw[ho];simp) hs cq (v:= .tuple #[.bool false]) ?_ (.aZ _ _ rfl λi u c hu hc=> ?_) (hK2 λb fK=> ?_)
      ·unfold execOp;simp [ho,ptr e1,hr]
      ·match i with
       |0=>cases hu;cases hc;exact .d (.v _)
       |i+1=>simp at hu
      ·have aI:b<es.size:=by rw[<-h2.all];exact fK
       have I4:es[b]?=some es[b]:=anB aI;have FI:=h2.ok.born b _ I4;have O2:leftOf es sn.2.toArray= #[]:=Array.eq_empty_of_size_eq_zero h0;unfold leftOf at O2;rw[Array.filter_eq_empty_iff]at O2;have:=O2 es[b] (Array.getElem_mem aI);rw[FI]at this
       simpa using this
     ·have hm:e'∈es.toList/\e'.born ∉ sn.2:=by
       unfold leftOf at pG;simp only[Array.toList_filter,List.mem_filter]at pG;exact⟨pG.1,by simpa using pG.2⟩
      obtain⟨q1,q2⟩:=h2.mem hm.1;obtain⟨p,p1,p2,p3⟩:=h2.ord _ _ q1;have hK:=hK1 e'.born p p1 hm.2;obtain⟨iT,wa⟩:bI G.N G w G w1/\bJ G w1 s.h:=by
       rcases Ac with rfl|rfl
       ·exact⟨bI.refl _ _ _,hs.inv⟩
       ·exact WZ hs.inv
      obtain⟨t1',t2',_⟩:=Hg wa hn;obtain⟨z1,z2,z3,z4,z5,z6,z7⟩:=wa.cV m _ hn;obtain⟨js,HP⟩:=LK (B':= .it (sn.1,sn.2++[e'.born]) [.mp mb]) (vB:= .mapIter (some (G.aO mb)) kv.length (sn.2.toArray.push e'.born) kv.length) wa hn rfl t1' t2' (.inr rfl) λw' fI eX hE=>by
       have hvv:=(Hg wa hn).2.2;refine⟨z1,z2,G.aO mb, #[.map (some (G.aO mb))],(),?_,⟨rfl,rfl⟩,λi u c hu hc=> ?_⟩
       ·rw[eX];simp [hc]
       ·match i with
        |0=>cases hu;cases hc;exact hvv.keep hE (anp _)
        |i+1=>simp at hu
      refine l8 (by rw[ho];simp) hs cq (v:= .tuple #[.bool true,e'.key,e'.val]) ?_ (iT.trans js) (anp _) HP (.aZ _ _ rfl λi u c hu hc=> ?_) hK
      ·unfold execOp;simp only[ho,ptr e1];simp [hr];rfl
      ·match i with
       |0=>cases hu;cases hc;exact .d (.v _)
       |1=>cases hu;cases hc;rw[p2];exact .d (.v _)
       |2=>cases hu;cases hc;exact .d (p3.keep (iT.trans js).S (iT.trans js).cell)
       |i+3=>simp at hu
    ·cases hx
   ·cases hx
  ·cases hx
 next it ho=>
  split at hx
  ·next m e1=>
   split at hx
   ·next sn mb hn=>
    split at hx
    ·next kv hb=>
     obtain⟨hc,l,b,p,hl,hp,hK⟩:=hx;obtain⟨es,J,h2⟩:=PL hs.inv hb;obtain⟨t1,t2,t3⟩:=Hg hs.inv hn;have aI:b<es.size:=by rw[<-h2.all];exact(ane.1 hp).1
     have I4:es[b]?=some es[b]:=anB aI;have FI:=h2.ok.born b _ I4;obtain⟨p',p1,p2,p3⟩:=h2.ord _ _ I4;rw[hp]at p1;cases p1
     have j5:(es.toList.map (·.born)).Nodup:=by
      have e:es.toList.map (·.born)=List.range es.size:=by
       apply List.ext_getElem?;intro i;rw[anl,anC];by_cases hi:i<es.size
       ·rw[anB hi,Option.map_some,h2.ok.born i _ (anB hi),List.getElem?_range hi]
       ·rw[Array.getElem?_eq_none (by omega),anL (by simp;omega)];rfl
      rw[e];exact List.nodup_range
     have hr:=run_entry_at (P:=P) w (G.aO m) (G.aO mb) sn.1 l.toArray es kv.length es[b] (by rw[t2,hl,FI,hc];simp) J (by simp) j5;refine ft (by rw[ho];simp) hs cq (v:= .tuple #[es[b].key,es[b].val]) ?_ (.aZ _ _ rfl λi u c hu hc=> ?_) hK
     ·unfold execOp;simp [ho,ptr e1,hr]
     ·match i with
      |0=>cases hu;cases hc;rw[p2];exact .d (.v _)
      |1=>cases hu;cases hc;exact .d p3
      |i+2=>simp at hu
    ·cases hx
   ·cases hx
  ·cases hx
 next e ho=>
  split at hx
  ·next z hz=>
   obtain⟨hc,hK⟩:=hx;obtain⟨i1,i2⟩:=Zy hs.inv e;exact l8 (by rw[ho];simp) hs cq (by unfold execOp;simp [ho,Instr.alloc,Cu hz,newVar,newRow,hc]) (rD G w hs.inv.z hs.inv.S _) (Nat.le_succ _) i1 i2 hK
  ·cases hx
 next e x ho=>
  obtain⟨hx1,hK⟩:=hx;have hc:(a.eval x).cells= #[.pointer none, .slice none 0 0]:=by
   have hv:=de x;rw[hx1]at hv;generalize a.eval x=u at hv;cases hv with|agg vs _ hl hr=>
   obtain⟨l⟩:=vs
   match l,hl with
   |[p,q],_=>
    have h0:=(hr 0 p _ rfl rfl).val;have J:=(hr 1 q _ rfl rfl).val;subst h0;subst J;rfl
  obtain⟨i1,i2⟩:=Zy hs.inv e;exact l8 (by rw[ho];simp) hs cq (by unfold execOp;simp [ho,Instr.box,newVar,newRow,hc]) (rD G w hs.inv.z hs.inv.S _) (Nat.le_succ _) i1 i2 hK
 ·cases hx
end
def iY(ops:Array Oper)(o:Oper)(s:St)(yes no:Prop):Prop:=
 match o.guard with
 |none=>yes
 |some (j,want)=>match (ops[j]?).bind (·.dst)with
  |some d=>match bm s.t d with
   | .d (.v (.bool b))=>(b=want->yes)/\(b= !want->no)
   | .d (.v (.tuple _))=>no
   |_=>False
  |none=>False
structure bw(P:Program)(r:Option Nat)(N0:Nat)(c:Code)(Q:Exit->St->Prop)(s:St):Prop where
 run:∀(G:Gh)(w:World)(a:Act)(n:Nat),cJ G w a s->N0<=G.N->c.wpIn (WF r) n P (λe a' w'=>iS N0 G w (Q e) a' w') a w
def iL(K:St->Prop)(Q:Exit->St->Prop):Exit->St->Prop
 | .normal,s=>K s
 |e,s=>Q e s
def lS:Nat->an3 AV->an3 (Nat×AV)
 |_,[]=>[]
 |k,x::l=>(k,x)::lS (k+1) l
theorem PR:∀(l:an3 AV)(k i:Nat),bm (lS k l) i=if k<=i then(l[i-k]?).getD .dead else .dead
 |[],k,i=>by simp [lS,bm]
 |x::l,k,i=>by
  rw[lS,kX,PR l (k+1) i];by_cases h:i=k
  ·subst h;simp
  ·rw[if_neg h];by_cases h2:k<=i
   ·rw[if_pos (by omega),if_pos h2,show i-k=i-(k+1)+1 by omega,anQ]
   ·rw[if_neg (by omega),if_neg h2]
def YS(P:an6)(k:Nat)(x:AV)(h:an3 ao)(C:Bool->an3 ao->Prop):Prop:=
 ∀(G:Gh)(w:an8)(v:an7)(r:an5 Nat)(n:Nat),bJ G w h->aD G w v x->k<G.N/\∃(p:Nat)(as bd:Code)(fn:FuncId)(tm:Array an7)(D:Nat),
  w.heap[G.aO k]?=some (.loop {state:= .ready,pending:=none,fn:=fn,tmps:=tm,params:= #[p],assign:=as,body:=bd,defers:=D})/\
  RoundIn (WF r) n P (G.aO k) fn (tm.setIfInBounds p v) as bd w λe w'=>∃(b:Bool)(G':Gh)(h':an3 ao),e= .returned (.bool b)/\bI G.N G w G' w'/\G.N<=G'.N/\bJ G' w' h'/\C b h'
def ajo(C:Bool->an3 ao->Prop)(k:Nat):Exit->St->Prop
 | .normal,s2=>∃p as bd kJ,s2.h[k]?=some (.lp .busy p as bd kJ)/\C true (s2.h.set k (.lp .ready p as bd kJ))
 | .ret,s2=>∃p as bd kJ,s2.h[k]?=some (.lp .busy p as bd kJ)/\C false (s2.h.set k (.lp (.done .ret) p as bd kJ))
 | .exit i,s2=>∃p as bd kJ,s2.h[k]?=some (.lp .busy p as bd kJ)/\C false (s2.h.set k (.lp (.done (.exit i)) p as bd kJ))
 |_,_=>False
def Ha(P:an6)(o:Oper)(K:St->Prop)(s:St):Prop:=
 match o.op with
 | .call c=>match c.callee with
   | .value f=>match ev s f,c.args.toList.map (ev s)with
     | .cg k,[x]=>YS P k x s.h λb h'=>K ((s.wh h').put o.dst (.d (.v (.bool b))))
     |_,_=>False
   |_=>False
 |_=>False
def ajs(P:an6)(o:Oper)(K:St->Prop)(s:St):Prop:=∃x h',Av P o.op (ev s) s.h=some (x,h')/\K ((s.wh h').put o.dst x)
def n9(P:an6)(o:Oper)(K:St->Prop)(s:St):Prop:=Jz P o K s\/CP P o K s\/qB P o K s\/Ha P o K s\/ajs P o K s\/Lq P o K s
def sE(P:an6)(ops:Array Oper):an3 Oper->(St->Prop)->St->Prop
 |[],K,s=>K s
 |o::rest,K,s=>iY ops o s (n9 P o (sE P ops rest K) s) (sE P ops rest K (s.put o.dst (.d (.v undef))))
def qz(id:Nat)(Q:Exit->St->Prop):Exit->St->Prop
 | .exit ru,s=>bif ru==id then Q .normal s else Q (.exit ru) s
 |e,s=>Q e s
section
variable {P:an6} {r:an5 Nat} {n N0:Nat} {G:Gh} {w:an8} {a:Act} {s:St} {o:Oper} {Q:Exit->St->Prop}
theorem iS.mono{K K':St->Prop}(h:∀s,K s->K' s){a':Act}{w':an8}(hn:iS N0 G w K a' w'):iS N0 G w K' a' w':=
 let ⟨G',s',J,h2,h3,h4⟩:=hn;⟨G',s',J,h2,h3,h _ h4⟩
theorem iS.trans{K:St->Prop}{G1:Gh}{w1:an8}(hE:bI N0 G w G1 w1){a':Act}{w':an8}(hn:iS N0 G1 w1 K a' w'):iS N0 G w K a' w':=
 let ⟨G',s',J,h2,h3,h4⟩:=hn;⟨G',s',hE.trans J,h2,h3,h4⟩
theorem bw.mono{c:Code}{Q':Exit->St->Prop}(h:bw P r N0 c Q s)(hq:∀e s,Q e s->Q' e s):bw P r N0 c Q' s:=
 ⟨λG w a n hs hN=>wpIn_mono (h.run G w a n hs hN) λe _ _ hn=>hn.mono (hq e)⟩
theorem Nr{ops:Array Oper}{yes no:Prop}(hs:cJ G w a s)(h:iY ops o s yes no):if Region.wanted o (yielded ops a.tmps)then yes else no:=by
 unfold iY at h;split at h
 ·rename_i hg
  rw[if_pos (by simp [Region.wanted,hg])];exact h
 ·rename_i j want hg
  split at h
  ·rename_i d hd
   have hv:=hs.tmp d;split at h
   ·rename_i b hb
    rw[hb]at hv;have e:=hv.bool;have hy:yielded ops a.tmps j=some b:=by
      unfold yielded;rw[hd,anc];by_cases aI:d<a.tmps.size
      ·rw[anB aI];have:a.tmps.getD d undef=a.tmps[d]:=by simp [Array.getD,aI]
       rw[this]at e;rw[e]
      ·have:a.tmps.getD d undef=undef:=by simp [Array.getD,aI]
       rw[this]at e;cases e
    by_cases xZ:b=want
    ·rw[if_pos (by simp [Region.wanted,hg,hy,xZ])];exact h.1 xZ
    ·rw[if_neg (by simp [Region.wanted,hg,hy,xZ])];exact h.2 (by cases b<;>cases want<;>simp_all)
   ·rename_i vs hb
    rw[hb]at hv;have e:=hv.val;have hy:yielded ops a.tmps j=none:=by
      unfold yielded;rw[hd,anc];by_cases aI:d<a.tmps.size
      ·rw[anB aI];have:a.tmps.getD d undef=a.tmps[d]:=by simp [Array.getD,aI]
       rw[this]at e;rw[e]
      ·rw[Array.getElem?_eq_none (Nat.le_of_not_lt aI)]
    rw[if_neg (by simp [Region.wanted,hg,hy])];exact h
   ·exact h.elim
  ·exact h.elim
theorem YS.mono{k:Nat}{x:AV}{h:an3 ao}{C C':Bool->an3 ao->Prop}(hy:YS P k x h C)(hc:∀b h',C b h'->C' b h'):YS P k x h C':=λG w v r n hi hv=>
 let ⟨h0,p,as,bd,fn,tm,D,J,h2⟩:=hy G w v r n hi hv
 ⟨h0,p,as,bd,fn,tm,D,J,h2.mono λ_ _ ⟨b,G',h',a1,a2,a3,a4,a5⟩=>⟨b,G',h',a1,a2,a3,a4,hc _ _ a5⟩⟩
theorem ahn{k:Nat}{x:AV}{h:an3 ao}{C:Bool->an3 ao->Prop}
 (hA:∃p as bd cs,h[k]?=some (.lp .ready p as bd cs)/\p<cs.length/\∀(l:Nat),bw P (some l) h.length as (iL (λs1=>∃p1 sN rR xH,s1.h[k]?=some (.lp .ready p1 sN rR xH)/\bw P (some l) h.length bd (ajo C k) ⟨s1.n,s1.t,s1.h.set k (.lp .busy p1 sN rR xH)⟩) (λ_ _=>False)) ⟨cs.length,(p,x)::lS 0 cs,h⟩):YS P k x h C:=by
 intro G w v r n hi QI;obtain⟨p,as,bd,cs,hk,hp,hA⟩:=hA;have yT:k<G.N:=hi.lt hk;obtain⟨hS,fn,tm,D,h3,h4,h5,am0⟩:=G7 hi hk;refine⟨yT,p,as,bd,fn,tm,D,h3,?_⟩;refine roundIn_of_wpIn (F:=WF r) trivial ?_;have ri:cJ G w {tmps:=tm.setIfInBounds p v,defers:=[]} ⟨cs.length,(p,x)::lS 0 cs,h⟩:=by
  refine⟨by simp [h4],λi=> ?_,hi,rz.nil _ _⟩;show aD _ _ _ (bm ((p,x)::lS 0 cs) i);rw[kX];split
  ·next e=>
   subst e;have:(tm.setIfInBounds i v).getD i undef=v:=by simp [Array.getD,h4,hp]
   rw[this];exact QI
  ·next e=>
   rw[PR];simp only[Nat.zero_le,if_true,Nat.sub_zero];cases fI:cs[i]? with
   |none=>exact .dead _
   |some y=>
    have aI:i<tm.size:=by rw[h4];exact(ane.1 fI).1
    have:(tm.setIfInBounds p v).getD i undef=tm[i]:=by
     simp [Array.getD,aI,Ne.symm e]
    rw[this];exact h5 i _ y (anB aI) fI
 have K4:=hA (G.aO k);rw[hi.len]at K4;refine wpIn_mono (K4.run G w _ n ri (anp _)) λe1 a1 w1 wu=> ?_;obtain⟨G1,s1,iT,gh,e9,xt⟩:=wu;cases e1 with
 |normal=>
  obtain⟨p1,sN,rR,xH,jH,iC⟩:=xt;have CA:G1.aO k=G.aO k:=iT.aO k yT;obtain⟨_,fn1,tm1,D1,g3,g4,g5,SP⟩:=G7 e9.inv jH;obtain⟨gE,gI⟩:=SP .busy;rw[CA]at g3 gE gI;refine⟨_,run_beginRound g3 rfl,?_⟩;have wz:cJ G1 (w1.putObj (G.aO k) (.loop {state:= .busy,pending:=none,fn:=fn1,tmps:=tm1,params:= #[p1],assign:=sN,body:=rR,defers:=D1})) a1 ⟨s1.n,s1.t,s1.h.set k (.lp .busy p1 sN rR xH)⟩:=e9.move gE (anp _) gI;refine wpIn_mono (iC.run G1 _ a1 n wz gh) λe3 a3 w3 hn3=> ?_;obtain⟨G3,s3,TM,S3,hs3,qt⟩:=hn3;have fin:∀(jump:an5 Code)(ls:LS)(b:Bool)(p:Nat)(as bd:Code)(kJ:an3 AV),s3.h[k]?=some (.lp .busy p as bd kJ)->ls.pd=jump->ls.st=(if jump.isNone then .ready else .done)->jump.isNone=b->C b (s3.h.set k (.lp ls p as bd kJ))->
   ∃v w',(Instr.endRound (G.aO k) jump).run P w3= .ok v w'/\∃(b:Bool)(G':Gh)(h':an3 ao),(Ending.returned v:Ending)= .returned (.bool b)/\bI G.N G w G' w'/\G.N<=G'.N/\bJ G' w' h'/\C b h':=λjump ls b p as bd kJ Jr q1 q2 q3 hK=>by
   have hr3:G3.aO k=G.aO k:=(TM.aO k yT).trans CA;obtain⟨_,fn3,tm3,D3,z3,z4,z5,abQ⟩:=G7 hs3.inv Jr;obtain⟨zE,zI⟩:=abQ ls;rw[hr3]at z3 zE zI;subst q1;have Dc:=run_endRound (P:=P) ls.pd z3;rw[<-q2]at Dc;refine⟨_,_,Dc,b,G3,_,by rw[q3],?_,S3,zI,hK⟩;exact(iT.trans ((gE.less gh).trans TM)).trans (zE.less S3)
  cases e3 with
  |normal=>obtain⟨p2,Dv,Ci,kJ,y1,y2⟩:=qt;exact fin none .ready true p2 Dv Ci kJ y1 rfl rfl rfl y2
  |ret=>obtain⟨p2,Dv,Ci,kJ,y1,y2⟩:=qt;exact fin (some .ret) (.done .ret) false p2 Dv Ci kJ y1 rfl rfl rfl y2
  |exit i=>obtain⟨p2,Dv,Ci,kJ,y1,y2⟩:=qt;exact fin (some (.exit i)) (.done (.exit i)) false p2 Dv Ci kJ y1 rfl rfl rfl y2
  |_=>exact qt.elim
 |_=>exact xt.elim
theorem alk{K:St->Prop}{Q:Exit->Act->an8->Prop}(hs:cJ G w a s)(hN:N0<=G.N)(h:Ha P o K s):o.wpIn (WF r) n P a w (iS N0 G w K) Q:=by
 unfold Ha at h;split at h
 ·next c ho=>
  split at h
  ·next f hc=>
   split at h
   ·next k x hf hx=>
    have hv:=hs.ev f;rw[hf]at hv;have ea:a.eval f= .func (.yield (G.aO k)) #[] #[]:=by
     generalize a.eval f=u at hv;cases hv;rfl
    obtain⟨p1,p2⟩:=xg hs c.args;obtain⟨v,rG⟩:∃v,c.args.map a.eval= #[v]:=by
     have:(c.args.map a.eval).size=1:=by rw[p1,hx];rfl
     exact⟨(c.args.map a.eval)[0],Array.ext (by simp [this]) λi J h2=>by
      have:i=0:=by simp at h2;exact h2
      subst this;rfl⟩
    have QI:aD G w v x:=p2 0 v x (by rw[rG];rfl) (by rw[hx];rfl);obtain⟨yT,p,as,bd,fn,tm,D,h3,hA⟩:=h G w v r (n-1) hs.inv QI;have j5:∀c',o.op≠ .defer c':=λc' e=>by rw[ho]at e;cases e
    have hy:=run_yield (P:=P) (args:= #[v]) h3 rfl;have dz:(o.semAt (WF r).round a.eval).run P w= .ok (.round (G.aO k) fn (tm.setIfInBounds p v) as bd) w:=by
     rw[Oper.semAt_eq _ _ _ j5];unfold execOp;simp only[ho,resolve,hc,ea];simp [Deferred.ofValue,invoke,rG,hy]
    unfold Oper.wpIn;refine⟨λg hg=>trivial,?_⟩;rw[dz,Oper.uponIn_round];refine⟨λh=>(by simp [WF,Fence.wide]at h),hA.mono λe w' hp=> ?_⟩;obtain⟨b,G',h',rfl,hE,qp,dM,hK⟩:=hp;exact⟨G',_,hE.less hN,anw hN qp,(hs.move hE qp dM).put (.d (.v _)) o.dst,hK⟩
   ·exact h.elim
  ·exact h.elim
 ·exact h.elim
theorem ais{K:St->Prop}{Q:Exit->Act->an8->Prop}(hs:cJ G w a s)(hN:N0<=G.N)(h:n9 P o K s):o.wpIn (WF r) n P a w (iS N0 G w K) Q:=by
 rcases h with h|h|h|h|⟨x,h',h,hK⟩|h
 ·exact LA hs hN (.inl h)
 ·exact LA hs hN (.inr (.inl h))
 ·exact LA hs hN (.inr (.inr h))
 ·exact alk hs hN h
 ·exact ae4 hs hN h hK
 ·exact al7 hs hN h
theorem Rr{ops:Array Oper}{K:St->Prop}{Q':Exit->Act->an8->Prop}(hQ:∀a' w',iS N0 G w K a' w'->Q' .normal a' w'):∀(l:an3 Oper)(k:Nat),(∀j,l[j]?=ops[k+j]?)->∀(G1:Gh)(w1:an8)(a:Act)(s:St),
 bI N0 G w G1 w1->N0<=G1.N->cJ G1 w1 a s->sE P ops l K s->wpOpsIn (WF r) n P ops Q' (List.range' k l.length) a w1
 |[],k,_,G1,w1,a,s,hE,hN,hs,h=>hQ _ _ ⟨G1,s,hE,hN,hs,h⟩
 |o::l,k,hl,G1,w1,a,s,hE,hN,hs,h=>by
  have h0:ops[k]?=some o:=by simpa using (hl 0).symm
  have pI:∀j,l[j]?=ops[k+1+j]?:=λj=>by have:=hl (j+1);simpa [Nat.add_assoc,Nat.add_comm 1 j]using this
  have hg:=Nr hs h;simp only[anh,List.range'_succ,wpOpsIn,h0];split
  ·rename_i hw
   rw[if_pos hw]at hg;exact Oper.wpIn_mono (λa' w' hn=>by
     obtain⟨G2,s2,e2,n2,vz,k2⟩:=hn;exact Rr hQ l (k+1) pI G2 w' a' s2 (hE.trans e2) n2 vz k2) (ais hs hN hg)
  ·rename_i hw
   rw[if_neg hw]at hg;exact⟨λ_ _=>trivial,Rr hQ l (k+1) pI G1 w1 _ _ hE hN (hs.put (.d (.v undef)) o.dst) hg⟩
theorem eW{id:Nat}{ops:Array Oper}(h:sE P ops ops.toList (Q .normal) s):bw P r N0 (.region id ops false) Q s:=by
 constructor
 intro G w a n hs hN;refine wpIn_region ?_;rw[List.range_eq_range',<-anM];exact Rr (G:=G) (w:=w) (K:=Q .normal) (λ_ _ h=>h) ops.toList 0 (by simp) G w a s (bI.refl _ _ _) hN hs h
theorem dt(h:Q .normal s):bw P r N0 .skip Q s:=⟨λG _ _ _ hs hN=>wpIn_skip ⟨G,s,bI.refl _ _ _,hN,hs,h⟩⟩
theorem cQ(h:Q .ret s):bw P r N0 .ret Q s:=⟨λG _ _ _ hs hN=>wpIn_ret ⟨G,s,bI.refl _ _ _,hN,hs,h⟩⟩
theorem nT{id:Nat}(h:Q (.exit id) s):bw P r N0 (.exit id) Q s:=⟨λG _ _ _ hs hN=>wpIn_exit ⟨G,s,bI.refl _ _ _,hN,hs,h⟩⟩
theorem aA{x y:Code}(h:bw P r N0 x (iL (λs'=>bw P r N0 y Q s') Q) s):bw P r N0 (.seq x y) Q s:=by
 constructor
 intro G w a n hs hN;refine wpIn_seq (wpIn_mono (h.run G w a n hs hN) λe a1 w1 hn=> ?_);obtain⟨G1,s1,hE,gh,e9,hq⟩:=hn;cases e with
 |normal=>exact wpIn_mono (hq.run G1 w1 a1 n e9 gh) λ_ _ _ hn=>hn.trans hE
 |_=>exact⟨G1,s1,hE,gh,e9,hq⟩
theorem QA{c:Operand}{x y:Code}{t:Bool}(hc:ev s c= .d (.v (.bool t)))(J:t=true->bw P r N0 x Q s)(h2:t=false->bw P r N0 y Q s):bw P r N0 (.cond c x y) Q s:=by
 constructor
 intro G w a n hs hN;have hb:=hs.ev c;rw[hc]at hb;exact wpIn_cond_split hb.bool (λe=>(J e).run G w a n hs hN) (λe=>(h2 e).run G w a n hs hN)
theorem fV{id:Nat}{c:Code}(h:bw P r N0 c (qz id Q) s):bw P r N0 (.block id c) Q s:=by
 constructor
 intro G w a n hs hN;refine wpIn_block (wpIn_mono (h.run G w a n hs hN) λe a1 w1 hn=> ?_);obtain⟨G1,s1,hE,gh,e9,hq⟩:=hn;cases e with
 |exit ru=>
  by_cases he:ru=id
  ·simp only[qz,he,BEq.rfl,cond_true]at hq;simp only[Exit.inBlock,if_pos he];exact⟨G1,s1,hE,gh,e9,hq⟩
  ·have hbe:(ru==id)=false:=by simpa using he
   simp only[qz,hbe,cond_false]at hq;simp only[Exit.inBlock,if_neg he];exact⟨G1,s1,hE,gh,e9,hq⟩
 |_=>exact⟨G1,s1,hE,gh,e9,hq⟩
theorem RN{F:Fence}{c:Code}{Q:Exit->Act->an8->Prop}{ι:Type}(I:ι->Act->an8->Prop)(μ:ι->Nat)(i0:ι)(h₀:I i0 a w)
 (round:∀i a w,I i a w->c.wpIn F n P (Exit.then (λa' w'=>∃i',I i' a' w'/\μ i'<μ i) Q) a w):(Code.loop c).wpIn F n P Q a w:=by
 intro b k cs AB hb hr;have key:∀j i a w,μ i=j->I i a w->
  ∃e a' w',Q e a' w'/\ArrivesIn (Machine.fenced P F) P (lone (b.atR a (.code c:: .inLoop c::k)) cs w) b k cs e a' w':=by
  intro j
  induction j using Nat.strongRecOn with
  |_ j ih=>
   intro i a w hn hI;obtain⟨e,a₁,w₁,hq,uA⟩:=round i a w hI b (.inLoop c::k) cs AB hb hr;cases e with
   |normal=>
    obtain⟨i',hI₁,aI⟩:=hq;obtain⟨e₂,a₂,w₂,hq₂,ak2⟩:=ih (μ i') (hn▸aI) i' a₁ w₁ rfl hI₁;exact⟨e₂,a₂,w₂,hq₂, .of_steps (StepsIn.trans uA (.one (fenced_calm hb hr rfl) stepR_inLoop)) ak2⟩
   |exit id=>exact⟨_,a₁,w₁,hq, .pass (x:= .inLoop c) rfl (λ_ _=> .inl (by simp)) uA⟩
   |goto l=>exact⟨_,a₁,w₁,hq, .pass (x:= .inLoop c) rfl (λ_ _=> .inl (by simp)) uA⟩
   |ret=>exact⟨_,a₁,w₁,hq, .pass (x:= .inLoop c) rfl (λ_ _=> .inl (by simp)) uA⟩
   |panic ch=>exact⟨_,a₁,w₁,hq, .pass (x:= .inLoop c) rfl (λ_ _=> .inl (by simp)) uA⟩
   |outgrown=>exact⟨_,a₁,w₁,hq, .pass (x:= .inLoop c) rfl (λ_ _=> .inl (by simp)) uA⟩
 obtain⟨e,a',w',hq,uA⟩:=key _ i0 a w rfl h₀;exact⟨e,a',w',hq, .of_steps (.one (fenced_calm hb hr rfl) stepR_loop) uA⟩
end
mutual
def AV.bo(m:Nat):AV->AV
 | .own n xs=>bif cf m n then .d (.sl xs)else .own n xs
 | .agg cs=> .agg (AV.pe m cs)
 | .aZ cs=> .aZ (AV.pe m cs)
 | .fn f cs=> .fn f (AV.pe m cs)
 |x=>x
def AV.pe(m:Nat):an3 AV->an3 AV
 |[]=>[]
 |x::l=>x.bo m::AV.pe m l
end
mutual
def AV.aC(m:Nat):AV->Bool
 | .own n _| .ptr n _| .row n _ _ _ _| .mp n| .cg n| .vec n _ _ _ _| .dp n _ _ _ _=> !cf m n
 | .agg cs=>AV.kh m cs
 | .aZ cs=>AV.kh m cs
 | .fn _ cs=>AV.kh m cs
 |_=>true
def AV.kh(m:Nat):an3 AV->Bool
 |[]=>true
 |x::l=>x.aC m&&AV.kh m l
end
theorem E1(m:Nat):∀l,AV.pe m l=l.map (AV.bo m)
 |[]=>by simp [AV.pe]
 |x::l=>by simp [AV.pe,E1 m l]
theorem nb(m:Nat):∀l,AV.kh m l=l.all (AV.aC m)
 |[]=>by simp [AV.kh]
 |x::l=>by simp [AV.kh,nb m l]
def ao.bo(m:Nat):ao->ao
 | .cells cs=> .cells (cs.map (AV.bo m))
 | .lp ls p as bd cs=> .lp ls p as bd (cs.map (AV.bo m))
 | .it sn cs=> .it sn (cs.map (AV.bo m))
 | .eG T cs=> .eG T (cs.map (AV.bo m))
 | .vec e k cs=> .vec e k (cs.map (·.map (AV.bo m)))
 |B=>B
def ao.aC(m:Nat):ao->Bool
 | .cells cs=>cs.all (AV.aC m)
 | .lp _ _ _ _ cs=>cs.all (AV.aC m)
 | .it _ cs=>cs.all (AV.aC m)
 | .eG _ cs=>cs.all (AV.aC m)
 | .vec _ _ cs=>cs.all (·.all (AV.aC m))
 |_=>true
theorem aD.bo{G:Gh}{w:an8}(m:Nat){u:an7}{x:AV}(h:aD G w u x):aD G w u (x.bo m):=by
 have fD:∀(vs:Array an7)(cs:an3 AV),(∀(i:Nat)(u:an7)(c:AV),vs[i]?=some u->cs[i]?=some c->aD G w u (c.bo m))->∀(i:Nat)(u:an7)(c:AV),vs[i]?=some u->(AV.pe m cs)[i]?=some c->aD G w u c:=by
  intro vs cs ih i u c hu hc;rw[E1,anl]at hc;cases hx:cs[i]? with
  |none=>rw[hx]at hc;cases hc
  |some x=>rw[hx]at hc;cases hc;exact ih i u x hu hx
 induction h with
 |agg vs cs hl _ ih=>rw[AV.bo];exact .agg vs _ (by rw[E1,anj];exact hl) (fD vs cs ih)
 |aZ vs cs hl _ ih=>rw[AV.bo];exact .aZ vs _ (by rw[E1,anj];exact hl) (fD vs cs ih)
 |fn f vs cs hl _ ih=>rw[AV.bo];exact .fn f vs _ (by rw[E1,anj];exact hl) (fD vs cs ih)
 |own n xs h hp hle hf=>
  rw[AV.bo,cond_eq_ite];split
  ·exact .d hp
  ·exact .own n xs h hp hle hf
 |d h=>simp only[AV.bo];exact .d h
 |ptr n off h=>simp only[AV.bo];exact .ptr n off h
 |bg xs i off b o u x hx hS hu=>simp only[AV.bo];exact .bg xs i off b o u x hx hS hu
 |full xs hp hf=>simp only[AV.bo];exact .full xs hp hf
 |row n off len cap k h hl hm=>simp only[AV.bo];exact .row n off len cap k h hl hm
 |mp n h=>simp only[AV.bo];exact .mp n h
 |cg n h=>simp only[AV.bo];exact .cg n h
 |vec n o len L k h hs hL hf=>simp only[AV.bo];exact .vec n o len L k h hs hL hf
 |dp n i j L k h hs hL hf=>simp only[AV.bo];exact .dp n i j L k h hs hL hf
 |hid h J=>simp only[AV.bo];exact .hid h J
 |dead u=>simp only[AV.bo];exact .dead u
def Gh.cut(G:Gh)(m:Nat):Gh:={G with N:=m}
theorem aD.cut{G:Gh}{w:an8}{m:Nat}{u:an7}{x:AV}(h:aD G w u x)(hb:x.aC m=true):aD (G.cut m) w u x:=by
 induction h with
 |agg vs cs hl _ ih=>
  rw[AV.aC,nb,anF]at hb;exact .agg vs cs hl λi u c hu hc=>ih i u c hu hc (hb c (anr hc))
 |aZ vs cs hl _ ih=>
  rw[AV.aC,nb,anF]at hb;exact .aZ vs cs hl λi u c hu hc=>ih i u c hu hc (hb c (anr hc))
 |fn f vs cs hl _ ih=>
  rw[AV.aC,nb,anF]at hb;exact .fn f vs cs hl λi u c hu hc=>ih i u c hu hc (hb c (anr hc))
 |own n xs h hp hle hf=>rw[AV.aC]at hb;exact .own n xs (show n<m by rw[Bool.not_eq_true',<-Bool.not_eq_true,c6]at hb;omega) hp hle hf
 |ptr n off h=>rw[AV.aC]at hb;exact .ptr (G:=G.cut m) n off (show n<m by rw[Bool.not_eq_true',<-Bool.not_eq_true,c6]at hb;omega)
 |row n off len cap k h hl hm=>rw[AV.aC]at hb;exact .row (G:=G.cut m) n off len cap k (show n<m by rw[Bool.not_eq_true',<-Bool.not_eq_true,c6]at hb;omega) hl hm
 |mp n h=>rw[AV.aC]at hb;exact .mp (G:=G.cut m) n (show n<m by rw[Bool.not_eq_true',<-Bool.not_eq_true,c6]at hb;omega)
 |cg n h=>rw[AV.aC]at hb;exact .cg (G:=G.cut m) n (show n<m by rw[Bool.not_eq_true',<-Bool.not_eq_true,c6]at hb;omega)
 |vec n o len L k h hs hL hf=>rw[AV.aC]at hb;exact .vec (G:=G.cut m) n o len L k (show n<m by rw[Bool.not_eq_true',<-Bool.not_eq_true,c6]at hb;omega) hs hL hf
 |dp n i j L k h hs hL hf=>rw[AV.aC]at hb;exact .dp (G:=G.cut m) n i j L k (show n<m by rw[Bool.not_eq_true',<-Bool.not_eq_true,c6]at hb;omega) hs hL hf
 |hid h J=>exact .hid (G:=G.cut m) h J
 |d h=>exact .d h
 |bg xs i off b o u x hx hS hu=>exact .bg xs i off b o u x hx hS hu
 |full xs hp hf=>exact .full xs hp hf
 |dead u=>exact .dead u
def St.mask(s:St)(live:an3 Nat)(m:Nat):St:={s with t:=live.map λk=>(k,(bm s.t k).bo m),h:=(s.h.take m).map (ao.bo m)}
def St.yW(s:St)(live:an3 Nat)(m:Nat):Prop:=m<=s.h.length/\(live.all λk=>((bm s.t k).bo m).aC m)=true/\(((s.h.take m).map (ao.bo m)).all (ao.aC m))=true
theorem rV(f:Nat->AV):∀(live:an3 Nat)(i:Nat),bm (live.map λk=>(k,f k)) i=if i∈live then f i else .dead
 |[],i=>by simp [bm]
 |k::l,i=>by
  simp only[anE,kX,rV f l i,anJ];by_cases h:i=k
  ·subst h;simp
  ·simp [h]
theorem Ln{G:Gh}{w:an8}{h:an3 ao}(hi:bJ G w h){m:Nat}(hm:m<=h.length)(hb:(((h.take m).map (ao.bo m)).all (ao.aC m))=true):bJ (G.cut m) w ((h.take m).map (ao.bo m)):=by
 have e8:∀(n:Nat)(B:ao),((h.take m).map (ao.bo m))[n]?=some B->n<m/\∃B',h[n]?=some B'/\B=B'.bo m/\(B'.bo m).aC m=true:=λn B hB=>by
  have vc:=anF.1 hb B (anr hB);rw[anl,List.getElem?_take]at hB;split at hB
  ·rename_i hn
   cases hx:h[n]? with
   |none=>rw[hx]at hB;cases hB
   |some B'=>rw[hx]at hB;cases hB;exact⟨hn,B',rfl,rfl,vc⟩
  ·cases hB
 have eo:∀n b,bH ((h.take m).map (ao.bo m)) (G.cut m) n=some b->bH h G n=some b:=λn b hb=>by
  obtain⟨B,hB,hb⟩:=ng hb;obtain⟨_,B',J,rfl,_⟩:=e8 n B hB;rw[dx J,<-hb];cases B'<;>rfl
 refine⟨by simp [Gh.cut];omega,hi.z,hi.S,λn B hB=> ?_,λi j b J h2=>hi.inj i j b (eo i b J) (eo j b h2),hi.gl⟩;obtain⟨hn,B',J,rfl,vc⟩:=e8 n B hB;have dC:=hi.cV n B' J;cases B' with
 |gone=>trivial
 |front e k len=>exact dC
 |ig e b=>exact dC
 |map kv=>exact dC
 |iy kv=>exact dC
 |vec e k cs=>
  obtain⟨c1,c2,c3,c4⟩:=dC;refine⟨by rw[anj];exact c1,by rw[anj];exact c2,λc hc=> ?_,?_⟩
  ·obtain⟨x,hx,rfl⟩:=List.mem_map.1 hc;rw[anj];exact c3 x hx
  ·rcases c4 with⟨d1,d2,A,d3⟩|⟨g,cap,cur,d1,d2,d3,d4,d5,d6,d7,d8,d9⟩
   ·exact .inl ⟨d1,by rw[d2];rfl,A,d3⟩
   ·refine .inr ⟨g,cap,cur,d1,by rw[anj];exact d2,d3,d4,by rw[anj];exact d5,d6,d7,d8,λi j c x u hc hx hu=> ?_⟩;simp only[ao.bo,ao.aC,anF]at vc;rw[anl]at hc;cases hy:cs[i]? with
    |none=>rw[hy]at hc;cases hc
    |some y=>
     rw[hy]at hc;cases hc
     have hz:=hx;rw[anl]at hx;cases hw:y[j]? with
     |none=>rw[hw]at hx;cases hx
     |some z=>
      rw[hw]at hx;cases hx
      exact((d9 i j y z u hy hw hu).bo m).cut (vc _ (List.mem_map.2 ⟨y,anr hy,rfl⟩) _ (anr hz))
 |cells cs=>
  obtain⟨c1,c2,vs,T,c3,c4,c5⟩:=dC;refine⟨c1,c2,vs,T,c3,by rw[anj];exact c4,λi u c hu hc=> ?_⟩;have jI:=anr hc;rw[anl]at hc;cases hx:cs[i]? with
  |none=>rw[hx]at hc;cases hc
  |some x=>
   rw[hx]at hc;cases hc
   exact((c5 i u x hu hx).bo m).cut (anF.1 vc _ jI)
 |lp ls p as bd cs=>
  obtain⟨c1,c2,fn,vs,T,c3,c4,c5⟩:=dC;refine⟨c1,c2,fn,vs,T,c3,by rw[anj];exact c4,λi u c hu hc=> ?_⟩;have jI:=anr hc;rw[anl]at hc;cases hx:cs[i]? with
  |none=>rw[hx]at hc;cases hc
  |some x=>
   rw[hx]at hc;cases hc
   exact((c5 i u x hu hx).bo m).cut (anF.1 vc _ jI)
 |it sn cs=>
  obtain⟨c1,c2,fn,vs,T,c3,c4,c5⟩:=dC;refine⟨c1,c2,fn,vs,T,c3,by rw[anj];exact c4,λi u c hu hc=> ?_⟩;have jI:=anr hc;rw[anl]at hc;cases hx:cs[i]? with
  |none=>rw[hx]at hc;cases hc
  |some x=>
   rw[hx]at hc;cases hc
   exact((c5 i u x hu hx).bo m).cut (anF.1 vc _ jI)
 |eG T0 cs=>
  obtain⟨c1,c2,fn,vs,T,c3,c4,c5⟩:=dC;refine⟨c1,c2,fn,vs,T,c3,by rw[anj];exact c4,λi u c hu hc=> ?_⟩;have jI:=anr hc;rw[anl]at hc;cases hx:cs[i]? with
  |none=>rw[hx]at hc;cases hc
  |some x=>
   rw[hx]at hc;cases hc
   exact((c5 i u x hu hx).bo m).cut (anF.1 vc _ jI)
theorem qe(N:Nat)(G:Gh)(w:an8)(m:Nat):bI N G w (G.cut m) w:=
 ⟨anp _,λ_ _ h=>h,λ_ _ _=>rfl,λ_ _=>rfl,λ_ _=> .inl ⟨rfl,rfl⟩,gU rfl,λ_ _=>rfl,rfl,rfl,rfl,λ_ _ h=> .inl h⟩
section
variable {P:an6} {r:an5 Nat} {n N0:Nat} {G:Gh} {w:an8} {a:Act} {s:St} {o:Oper} {Q:Exit->St->Prop}
theorem cJ.mask(hs:cJ G w a s){live:an3 Nat}{m:Nat}(h:s.yW live m):cJ (G.cut m) w a (s.mask live m):=by
 obtain⟨J,h2,h3⟩:=h;refine⟨hs.size,λi=> ?_,Ln hs.inv J h3,hs.df⟩;show aD _ _ _ (bm (live.map λk=>(k,(bm s.t k).bo m)) i);rw[rV (λk=>(bm s.t k).bo m)];split
 ·rename_i hi
  exact((hs.tmp i).bo m).cut (anF.1 h2 i hi)
 ·exact .dead _
theorem Ju{c:Code}{ι:Type}(live:an3 Nat)(m:Nat)(st:ι->St)(I:ι->Prop)(μ:ι->Nat)(i0:ι)(hm:N0<=m)(bN:s.yW live m)(h0:s.mask live m=st i0)(hI:I i0)
 (round:∀i,I i->bw P r N0 c (iL (λs'=>s'.yW live m/\∃i',s'.mask live m=st i'/\I i'/\μ i'<μ i) Q) (st i)):bw P r N0 (.loop c) Q s:=by
 constructor
 intro G w a n hs _;refine RN (λ(i:ι) a' w'=>∃G',I i/\bI N0 G w G' w'/\N0<=G'.N/\cJ G' w' a' (st i)) μ i0 ⟨G.cut m,hI,qe _ _ _ _,hm,h0▸hs.mask bN⟩ ?_;rintro i a' w' ⟨G',hi,hE,hN,cv⟩;refine wpIn_mono ((round i hi).run G' w' a' n cv hN) λe a1 w1 hn=> ?_;obtain⟨G1,s1,iT,gh,e9,hq⟩:=hn;cases e with
 |normal=>
  obtain⟨aiZ,i',J,h2,h3⟩:=hq;exact⟨i',⟨G1.cut m,h2,(hE.trans iT).trans (qe _ _ _ _),hm,J▸e9.mask aiZ⟩,h3⟩
 |_=>exact⟨G1,s1,hE.trans iT,gh,e9,hq⟩
def mS(P:an6)(s:St):an3 ResultVar->(an3 AV->Prop)->Prop
 |[],C=>C []
 | .tmp t::l,C=>mS P s l λxs=>C (bm s.t t::xs)
 | .cell p t::l,C=>n8 P t s.h (bm s.t p) λx=>mS P s l λxs=>C (x::xs)
def jX:an3 AV->AV
 |[x]=>x
 |l=> .aZ l
def qy(P:an6)(fn:Func)(m:Nat)(K:AV->an3 ao->Prop)(s:St):Prop:=
 mS P s fn.results.toList λl=>m<=s.h.length/\((jX l).bo m).aC m=true/\(((s.h.take m).map (ao.bo m)).all (ao.aC m))=true/\K ((jX l).bo m) ((s.h.take m).map (ao.bo m))
def Ja(P:an6)(fn:Func)(m:Nat)(K:AV->an3 ao->Prop):Exit->St->Prop
 | .normal,s=>qy P fn m K s
 | .ret,s=>qy P fn m K s
 |_,_=>False
theorem ahX{C:an3 AV->Prop}(hs:cJ G w a s)(g:ResultVar->Sem an7)(hg1:∀t,g (.tmp t)=pure (a.tmps.getD t undef))(E0:∀p t,g (.cell p t)=(do loadVar t (<-asAddr (a.tmps.getD p undef)))):
 ∀(l:an3 ResultVar),mS P s l C->∃(vs:an3 an7)(xs:an3 AV),(l.mapM g).run P w= .ok vs w/\vs.length=xs.length/\(∀(i:Nat)(u:an7)(c:AV),vs[i]?=some u->xs[i]?=some c->aD G w u c)/\C xs:=by
 intro l
 induction l generalizing C with
 |nil=>exact λh=>⟨[],[],by simp,rfl,λi u c hu=>by simp at hu,h⟩
 |cons x l ih=>
  intro h;cases x with
  |tmp t=>
   obtain⟨vs,xs,J,h2,h3,h4⟩:=ih h;refine⟨a.tmps.getD t undef::vs,bm s.t t::xs,by simp only[List.mapM_cons,hg1,Sem.run_bind,Sem.run_pure,Result.andThen_ok,J],by simp [h2],λi u c hu hc=> ?_,h4⟩
   match i with
   |0=>simp only[List.getElem?_cons_zero,Option.some.injEq]at hu hc;subst hu;subst hc;exact hs.tmp t
   |i+1=>exact h3 i u c (by simpa using hu) (by simpa using hc)
  |cell p t=>
   obtain⟨u0,x0,r1,r2,r3⟩:=ZE (P:=P) hs.inv (hs.tmp p) h;obtain⟨vs,xs,J,h2,h3,h4⟩:=ih r3;have hv:=hs.tmp p;have e:∃ad,a.tmps.getD p undef= .pointer (some ad):=by
    have h':n8 P t s.h (bm s.t p) λx=>mS P s l λxs=>C (x::xs):=h;generalize a.tmps.getD p undef=v at hv r1;generalize bm s.t p=y at hv h';cases hv with
    |ptr=>exact⟨_,rfl⟩
    |bg=>exact⟨_,rfl⟩
    |_=>exact(show False from h').elim
   obtain⟨ad,e⟩:=e;rw[e]at r1;have r1':(loadVar t ad).run P w= .ok u0 w:=by simpa [Instr.loadAt,Instr.sureAddr]using r1
   have ha:(asAddr (a.tmps.getD p undef)).run P w= .ok ad w:=by rw[e];rfl
   refine⟨u0::vs,x0::xs,by simp only[List.mapM_cons,E0,Sem.run_bind,Sem.run_pure,Result.andThen_ok,J,ha,r1'],by simp [h2],λi u c hu hc=> ?_,h4⟩
   match i with
   |0=>simp only[List.getElem?_cons_zero,Option.some.injEq]at hu hc;subst hu;subst hc;exact r2
   |i+1=>exact h3 i u c (by simpa using hu) (by simpa using hc)
theorem afN:∀(vs:an3 an7)(xs:an3 AV),vs.length=xs.length->(∀(i:Nat)(u:an7)(c:AV),vs[i]?=some u->xs[i]?=some c->aD G w u c)->aD G w (if h:vs.toArray.size=1 then vs.toArray[0]else .tuple vs.toArray) (jX xs)
 |[v],[x],_,h=>h 0 v x rfl rfl
 |[],[],_,_=> .aZ _ _ rfl λi u c hu=>by simp at hu
 |v::u::vs,x::y::xs,hl,h=>by
  have:¬(v::u::vs).toArray.size=1:=by simp
  rw[dif_neg this];exact .aZ _ _ (by simpa using hl) λi p q hp hq=>h i p q (by simpa using hp) hq
 |[],_::_,hl,_=>by simp at hl
 |_::_,[],hl,_=>by simp at hl
 |[_],_::_::_,hl,_=>by simp at hl
 |_::_::_,[_],hl,_=>by simp at hl
theorem aka{fn:Func}{m:Nat}{K:AV->an3 ao->Prop}(hs:cJ G w a s)(h:qy P fn m K s):∃v G' r h',(results fn a.tmps).run P w= .ok v w/\bI N0 G w G' w/\m<=G'.N/\bJ G' w h'/\aD G' w v r/\K r h':=by
 obtain⟨g,hg⟩:∃g:ResultVar->Sem an7,results fn a.tmps=(do let vs <-fn.results.mapM g;pure (if h:vs.size=1 then vs[0]else .tuple vs))/\(∀t,g (.tmp t)=pure (a.tmps.getD t undef))/\(∀p t,g (.cell p t)=(do loadVar t (<-asAddr (a.tmps.getD p undef)))):=
  ⟨_,rfl,λ_=>rfl,λ_ _=>rfl⟩
 obtain⟨vs,xs,J,h2,h3,h4,h5,h6,h7⟩:=ahX hs g hg.2.1 hg.2.2 fn.results.toList h;have hr:(results fn a.tmps).run P w= .ok (if h:vs.toArray.size=1 then vs.toArray[0]else .tuple vs.toArray) w:=by
  rw[hg.1,Sem.run_bind,Array.mapM_eq_mapM_toList];have e:∀X:Sem (an3 an7),(Functor.map List.toArray X:Sem _)=X>>=λl=>pure l.toArray:=λ_=>rfl;rw[e,Sem.run_bind,J];rfl
 have hv:=afN vs xs h2 h3;exact⟨_,G.cut m,_,_,hr,qe _ _ _ _,anp _,Ln hs.inv h4 h6,(hv.bo m).cut h5,h7⟩
theorem uR{f:FuncId}{fn:Func}{c:Code}{args:an3 AV}{h:an3 ao}{K:AV->an3 ao->Prop}(m:Nat)(hf:P.funcs[f]?=some fn)(hb:fn.body=some c)(hn:(fn.name== "runtime.NumGoroutine")=false)(hm:h.length<=m)
 (hw:bw P none h.length c (Ja P fn m K) {n:=args.length+(fn.ntmps-args.length),t:=lS 0 args,h:=h}):cF P f args h K:=by
 refine⟨by unfold Ko;rw[hf];simp [hb];simpa using hn,λG w vs hi hl hr=> ?_⟩;refine callsIn_wide (n:=8).1 (callsIn_of_wp_marks (F:=Fence.wide) hf hb trivial ?_);have hs:cJ {G with M:=w.heap.size} w {tmps:=vs++Array.replicate (fn.ntmps-vs.size) undef,defers:=[]} {n:=args.length+(fn.ntmps-args.length),t:=lS 0 args,h:=h}:=by
  refine⟨by simp [hl],λi=> ?_,hi.zm G.Z _ (λ_ h=>h) (anp _),rz.nil _ _⟩;show aD _ _ _ (bm (lS 0 args) i);rw[PR];simp only[Nat.zero_le,if_true,Nat.sub_zero];cases hx:args[i]? with
  |none=>exact .dead _
  |some x=>
   have aI:i<vs.size:=by rw[hl];exact(ane.1 hx).1
   have:(vs++Array.replicate (fn.ntmps-vs.size) undef).getD i undef=vs[i]:=by
    simp [Array.getElem?_append_left aI,anB aI]
   simp only[this,Option.getD_some];exact(hr i _ x (anB aI) hx).zm G.Z _
 refine wpIn_mono (hw.run _ w _ 8 hs (by rw[hi.len];exact anp _)) λe a' w' hn=> ?_;obtain⟨G1,s1,hE,gh,e9,hq⟩:=hn;have key:qy P fn m K s1->LeavesInM Fence.wide 8 P fn a'.tmps (λe w'=>∃v G' r h',e= .returned v/\bI G.N G w G' w'/\G.N<=G'.N/\bJ G' w' h'/\aD G' w' v r/\K r h') a'.defers .returning w':=λhq=>by
  obtain⟨w2,G2,k1,k2,k3,k4⟩:=ajh hE gh hi.z hi.gl.2 e9;obtain⟨v,G',r,h',r1,r2,r3,r4,r5,r6⟩:=aka (N0:=h.length) k4 hq;exact k1 _ _ _ _ _ ⟨v,r1,v,G',r,h',rfl,by rw[<-hi.len];exact k2.trans r2,by rw[<-hi.len];exact anw hm r3,r4,r5,r6⟩
 cases e with
 |normal=>exact key hq
 |ret=>exact key hq
 |_=>exact hq.elim
end
end Go.Proofs.YtpeecnpmcbnahaaGreatDoor
namespace Go.Proofs.YtpeecnpmcbnahaaGreatDoor
open Go.RowKit
section
variable {P:an6} {r:an5 Nat} {N0:Nat} {s:St} {Q:Exit->St->Prop}
end
theorem cF.frame{P:an6}{f:FuncId}{args:an3 AV}{K:AV->Prop}(hc:cF P f args [] λr h=>h=[]/\K r)(ha:args.all (AV.aC 0)=true)(hK:∀r,K r->r.aC 0=true)(h:an3 ao):
 cF P f args h λr h'=>h'=h/\K r:=by
 refine⟨hc.1,λG w vs hi hl hr=> ?_⟩;have sW:bJ {G with N:=0,Z:=λb=>b<w.heap.size} w []:=⟨rfl,λb hb=>hb,hi.S,λn B hB=>by simp at hB,λm n b J=>by simp [bH]at J,hi.gl⟩;refine(hc.2 {G with N:=0,Z:=λb=>b<w.heap.size} w vs sW hl λi u c hu hx=> ?_).mono λe w' hp=> ?_
 ·have:=(hr i u c hu hx).cut (anF.1 ha c (anr hx));clear hc;generalize hG:({G with N:=0,Z:=λb=>b<w.heap.size}:Gh)=G0;have e:∀{v y},aD (G.cut 0) w v y->aD G0 w v y:=by
   intro v y hv;subst hG
   induction hv with
   |agg vs cs hl _ ih=>exact .agg vs cs hl ih
   |aZ vs cs hl _ ih=>exact .aZ vs cs hl ih
   |fn f vs cs hl _ ih=>exact .fn f vs cs hl ih
   |own n xs h hp hle hf=>exact absurd h (anH _)
   |ptr n off h=>exact absurd h (anH _)
   |row n off len cap k h hl hm=>exact absurd h (anH _)
   |mp n h=>exact absurd h (anH _)
   |cg n h=>exact absurd h (anH _)
   |vec n o len L k h=>exact absurd h (anH _)
   |dp n i j L k h=>exact absurd h (anH _)
   |hid h J=>exact .hid h J
   |d h=>exact .d h
   |bg xs i off b o u x hx hS hu=>exact .bg xs i off b o u x hx hS hu
   |full xs hp hf=>exact .full xs hp hf
   |dead u=>exact .dead u
  exact e this
 ·obtain⟨v,G',r,h',rfl,hE,hN,dM,hv,rfl,hk⟩:=hp;have am4:G'.N=0:=dM.len.symm;have fk:∀b o,G'.S b o->G.S b o\/w.heap.size<=b:=λb o hs=>(hE.new b o hs).imp id Nat.le_of_not_lt;have js:bI G.N G w {G with S:=G'.S} w':=
   ⟨hE.size,hE.S,hE.cell,λ_ _=>rfl,λ_ _=> .inl ⟨rfl,rfl⟩,gU rfl,λb hb=>hE.old b (hi.z b hb),hE.os,hE.tape,hE.output,λb o hs=>(fk b o hs).imp id λj0 hz=>by have:=hi.z b hz;omega⟩
  refine⟨v,{G with S:=G'.S},r,h,rfl,js,anp _,⟨hi.len,λb hb=>anD (hi.z b hb) hE.size,dM.S,λn B hB=> ?_,λm n b J h2=>hi.inj m n b J h2,hi.gl.keep js⟩,?_,rfl,hk⟩
  ·refine dP.keep (hi.lt hB) js (anp _) ⟨rfl,rfl,rfl⟩ (λb hb=> ?_) (hi.cV n B hB);have aI:=hi.gX (n:=n) (b:=b) ((dx hB).trans hb);refine⟨hE.old _ aI,λo jG hs=> ?_⟩;rcases fk _ o hs with hs|hs
   ·exact jG hs
   ·omega
  ·have hr:=hK r hk;clear hk js
   induction hv with
   |agg vs cs hl _ ih=>
    rw[AV.aC,nb,anF]at hr;exact .agg vs cs hl λi u c hu hc=>ih i u c hu hc (hr c (anr hc))
   |aZ vs cs hl _ ih=>
    rw[AV.aC,nb,anF]at hr;exact .aZ vs cs hl λi u c hu hc=>ih i u c hu hc (hr c (anr hc))
   |fn f vs cs hl _ ih=>
    rw[AV.aC,nb,anF]at hr;exact .fn f vs cs hl λi u c hu hc=>ih i u c hu hc (hr c (anr hc))
   |own n xs h hp hle hf=>simp [AV.aC,cf]at hr
   |ptr n off h=>simp [AV.aC,cf]at hr
   |row n off len cap k h hl hm=>simp [AV.aC,cf]at hr
   |mp n h=>simp [AV.aC,cf]at hr
   |cg n h=>simp [AV.aC,cf]at hr
   |vec n o len L k h=>simp [AV.aC,cf]at hr
   |dp n i j L k h=>simp [AV.aC,cf]at hr
   |hid h J=>exact .hid h J
   |d h=>exact .d h
   |bg xs i off b o u x hx hS hu=>exact .bg xs i off b o u x hx hS hu
   |full xs hp hf=>exact .full xs hp hf
   |dead u=>exact .dead u
def fP(P:an6)(f:FuncId)(args:an3 AV)(K:AV->Prop):Prop:=cF P f args [] λr h=>h=[]/\K r
theorem fP.use{P:an6}{f:FuncId}{args:an3 AV}{r:AV}{h:an3 ao}{C:AV->an3 ao->Prop}(hc:fP P f args (·=r))(ha:args.all (AV.aC 0)=true)(hr:r.aC 0=true)(hC:C r h):cF P f args h C:=
 (hc.frame ha (λ_ e=>e▸hr) h).mono λ_ _ ⟨e1,e2⟩=>by subst e1;subst e2;exact hC
def al1:an3 FuncId:=[47,48,151]
def adP:an3 FuncId:=[41,42,47,57,64,66,67,74,110,113,152,171]
def pF:Operand->Bool
 | .func g=>al1.any (·==g)
 |_=>false
def cm(o:Oper):Nat:=
 match o.op with
 | .move _| .assign _| .pick .. | .nilCheck _| .fieldAddr .. | .field .. | .indexAddr .. | .index .. | .build .. | .buildSlice .. | .slice .. | .extract .. | .makeFunc .. | .binOp .. | .unOp .. | .convert .. =>0
 | .load .. | .lookup .. =>1
 | .alloc _| .box .. =>2
 | .store .. | .makeMap .. | .mapUpdate .. =>3
 | .call c=>match c.callee with
   | .builtin .len| .builtin .max| .builtin .min=>0
   | .builtin .append=>5
   | .value f=>bif pF f then 6 else 4
   |_=>9
 |_=>9
def X2(P:an6)(g:FuncId)(args:an3 AV)(h:an3 ao)(C:AV->Prop):Prop:=∃r,C r/\∀e,cF P g args (h++e) λr' h'=>r'=r/\h'=h++e
def zu(P:an6)(o:Oper)(K:St->Prop)(s:St):Prop:=
 match o.op with
 | .call c=>match c.callee with
   | .value f=>match ev s f with
     | .fn g cT=>X2 P g (c.args.toList.map (ev s)++cT) s.h λr=>K (s.put o.dst r)
     | .hid q=>∃g as,q.app (c.args.toList.map (ev s))=some (g,as)/\X2 P g as s.h λr=>K (s.put o.dst r)
     |_=>False
   |_=>qB P o K s
 |_=>qB P o K s
def jN(o:Oper):Bool:=
 match o.op with
 | .indexAddr .. | .fieldAddr .. | .nilCheck .. | .load .. | .store .. =>true
 | .call c=>match c.callee with
   | .builtin .len=>true
   |_=>false
 |_=>false
def JZ(o:Oper):Bool:=match o.op with
 | .call c=>match c.callee with
   | .value (.tmp _)=>true
   | .value (.func g)=>adP.any (·==g)
   |_=>false
 |_=>false
def s9(o:Oper):Bool:=match o.op with
 | .call c=>match c.callee with
   | .builtin .append=>true
   |_=>false
 |_=>false
def nh(m:Bool)(o:Oper):Bool:=m&&(JZ o||s9 o)
def xI(m:Bool)(P:an6)(o:Oper)(K:St->Prop)(s:St):Prop:=
 zu P o K s\/(nh m o=true/\∃x J,K ((s.wh J).put o.dst x)/\∀C:AV->an3 ao->Prop,C x J->cD P o (ev s) s.h C)\/((jN o=true/\(m&&cm o==0)=false\/(m&&s9 o)=true)/\Jz P o K s)\/(cm o=6/\∃x e0,K ((s.wh (s.h++e0)).put o.dst x)/\∀C:AV->an3 ao->Prop,C x (s.h++e0)->cD P o (ev s) s.h C)
def jM(P:an6)(o:Oper)(ρ:Operand->AV)(h:an3 ao)(C:AV->an3 ao->Prop):Prop:=
 cD P o ρ h C\/((jN o=true\/s9 o=true)/\∃a x h' p,ij P o.op ρ h a=some (x,h',p)/\p/\C x h')
def uD(m:Bool)(P:an6)(ops:Array Oper):an3 Oper->(St->Prop)->St->Prop
 |[],K,s=>K s
 |o::rest,K,s=>iY ops o s (xI m P o (uD m P ops rest K) s) (uD m P ops rest K (s.put o.dst (.d (.v undef))))
abbrev Vq(P:an6)(o:Oper)(K:St->Prop)(s:St):Prop:=xI false P o K s
abbrev CO(P:an6)(ops:Array Oper)(l:an3 Oper)(K:St->Prop)(s:St):Prop:=uD false P ops l K s
section
variable {P:an6} {o:Oper} {ρ ρ':Operand->AV} {h:an3 ao} {C:AV->an3 ao->Prop}
theorem LQ(x:an5 Operand)(hx:∀y∈x.toArray,ρ y=ρ' y)(d:Nat)(F:Nat->Prop):jT ρ x d F=jT ρ' x d F:=by
 cases x with
 |none=>rfl
 |some y=>simp only[jT,hx y (by simp)]
theorem aj1(hρ:∀x∈o.op.operands,ρ x=ρ' x):cD P o ρ h C=cD P o ρ' h C:=by
 obtain⟨dst,op,type,pos,after,guard⟩:=o;have Uz:∀ps:Array (Nat×Operand),(∀x∈ps.map (·.2),ρ x=ρ' x)->(ps.toList.map λp=>(p.1,ρ p.2))=(ps.toList.map λp=>(p.1,ρ' p.2)):=λps hp=>
  anK λp hm=>by rw[hp p.2 (Array.mem_map.2 ⟨p,Array.mem_toList_iff.1 hm,rfl⟩)]
 have fD:∀l:Array Operand,(∀x∈l,ρ x=ρ' x)->l.toList.map ρ=l.toList.map ρ':=λl hl=>anK λx hm=>hl x (Array.mem_toList_iff.1 hm);cases op with
 |build t ps=>simp only[cD,Uz ps λx hx=>hρ x (by simpa [Op.operands]using hx)]
 |buildSlice t n ps=>simp only[cD,Uz ps λx hx=>hρ x (by simpa [Op.operands]using hx)]
 |makeFunc fn first captured=>
  cases fn with
  |func f=>simp only[cD,fD captured λx hx=>hρ x (by simp [Op.operands,hx]),fD first λx hx=>hρ x (by simp [Op.operands,hx])]
  |_=>rfl
 |slice t x lo hi mx=>
  have e1:ρ x=ρ' x:=hρ x (by simp [Op.operands]);have e2:=λd F=>LQ (ρ:=ρ) (ρ':=ρ') lo (λy hy=>hρ y (by simp at hy;simp [Op.operands,hy])) d F;have e3:=λd F=>LQ (ρ:=ρ) (ρ':=ρ') hi (λy hy=>hρ y (by simp at hy;simp [Op.operands,hy])) d F;have e4:=λd F=>LQ (ρ:=ρ) (ρ':=ρ') mx (λy hy=>hρ y (by simp at hy;simp [Op.operands,hy])) d F;cases lo<;>cases hi<;>cases mx<;>simp only[cD,tw,e1,e2,e3,e4]
 |call c=>
  have ha:c.args.toList.map ρ=c.args.toList.map ρ':=fD c.args λx hx=>hρ x (by simp [Op.operands,Call.operands,hx]);have hm:∀x,x∈c.args.toList->ρ x=ρ' x:=λx hx=>hρ x (by simp [Op.operands,Call.operands];right;exact Array.mem_toList_iff.1 hx);cases hc:c.callee with
  |value f=>
   have hf:ρ f=ρ' f:=hρ f (by simp [Op.operands,Call.operands,hc]);simp only[cD,hc,hf,ha]
  |invoke=>simp only[cD,hc]
  |builtin b=>
   cases b with
   |len=>
    simp only[cD,hc];split
    ·rename_i x _ heq _
     rw[hm x (by rw[heq];simp)]
    ·rfl
   |append=>
    simp only[cD,hc];split
    ·rename_i x y _ _ heq _
     rw[hm x (by rw[heq];simp),hm y (by rw[heq];simp)]
    ·rfl
   |max=>simp only[cD,hc,ha]
   |min=>simp only[cD,hc,ha]
   |_=>simp only[cD,hc]
 |makeMap t r=>cases r<;>rfl
 |lookup t a b ok=>simp only[cD,pD,hρ a (by simp [Op.operands]),hρ b (by simp [Op.operands])]
 |mapUpdate t a b c=>simp only[cD,pD,hρ a (by simp [Op.operands]),hρ b (by simp [Op.operands]),hρ c (by simp [Op.operands])]
 |pick c a b=>simp only[cD,hρ c (by simp [Op.operands]),hρ a (by simp [Op.operands]),hρ b (by simp [Op.operands])]
 |store t a b=>simp only[cD,hρ a (by simp [Op.operands]),hρ b (by simp [Op.operands])]
 |binOp op t a b u=>simp only[cD,hρ a (by simp [Op.operands]),hρ b (by simp [Op.operands])]
 |indexAddr t a b=>simp only[cD,hρ a (by simp [Op.operands]),hρ b (by simp [Op.operands])]
 |index t a b=>simp only[cD,hρ a (by simp [Op.operands]),hρ b (by simp [Op.operands])]
 |move a|assign a|box t a|load t a|nilCheck a|fieldAddr t a f|field t a f|extract a i|unOp op t a|convert t u a=>simp only[cD,hρ a (by simp [Op.operands])]
 |_=>rfl
theorem aiX(hv:jN o=true\/s9 o=true)(hρ:∀x∈o.op.operands,ρ x=ρ' x)(a:VA):ij P o.op ρ h a=ij P o.op ρ' h a:=by
 obtain⟨dst,op,type,pos,after,guard⟩:=o;cases op with
 |store t a b=>simp only[ij,hρ a (by simp [Op.operands]),hρ b (by simp [Op.operands])]
 |indexAddr t a b=>simp only[ij,hρ a (by simp [Op.operands]),hρ b (by simp [Op.operands])]
 |load t a|nilCheck a|fieldAddr t a f=>simp only[ij,hρ a (by simp [Op.operands])]
 |call c=>
  have hm:∀x,x∈c.args.toList->ρ x=ρ' x:=λx hx=>hρ x (by simp [Op.operands,Call.operands];right;exact Array.mem_toList_iff.1 hx);cases hc:c.callee with
  |builtin b=>
   cases b with
   |len=>
    simp only[ij,hc];split
    ·rename_i x _ heq _
     rw[hm x (by rw[heq];simp)]
    ·rfl
   |append=>
    simp only[ij,hc];split
    ·rename_i x y _ _ heq _
     rw[hm x (by rw[heq];simp),hm y (by rw[heq];simp)]
    ·rfl
   |_=>simp [jN,s9,hc]at hv
  |_=>simp [jN,s9,hc]at hv
 |_=>simp [jN,s9]at hv
theorem P6(hρ:∀x∈o.op.operands,ρ x=ρ' x):jM P o ρ h C=jM P o ρ' h C:=by
 unfold jM;rw[aj1 hρ];by_cases hv:jN o=true\/s9 o=true
 ·simp only[aiX hv hρ]
 ·simp only[hv,false_and]
end
def abg:ao->Bool
 | .cells _| .map _| .vec .. =>true
 |_=>false
def nt:an5 ao->an5 (Nat×Nat)
 |some (.vec _ k cs)=>some (k,cs.length)
 |_=>none
def iW(h h':an3 ao):Prop:=∀(m:Nat)(q:Nat×Nat),nt h[m]?=some q->nt h'[m]?=some q
def iA(h h':an3 ao):Prop:=∀m:Nat,nt h[m]?=nt h'[m]?
theorem iA.i{h h':an3 ao}(e:iA h h'):iW h h':=λm q hq=>by rw[<-e m];exact hq
theorem iA.j{h h':an3 ao}(e:iA h h'):iW h' h:=λm q hq=>by rw[e m];exact hq
theorem iW.refl(h:an3 ao):iW h h:=λ_ _ e=>e
theorem iW.trans{a b c:an3 ao}(x:iW a b)(y:iW b c):iW a c:=λm q e=>y m q (x m q e)
theorem iW.app(h e:an3 ao):iW h (h++e):=λm q hq=>by
 by_cases hl:m<h.length
 ·rw[ano hl];exact hq
 ·rw[anL (by omega)]at hq;cases hq
theorem iA.app{h:an3 ao}{B:ao}(hB:nt (some B)=none):iA h (h++[B]):=λm=>by
 by_cases hl:m<h.length
 ·rw[ano hl]
 ·rw[anu (by omega),anL (by omega:h.length<=m)];by_cases h0:m-h.length=0
  ·rw[h0];exact hB.symm
  ·rw[anL (by simp;omega)]
theorem iA.set{h:an3 ao}{n:Nat}{B B':ao}(hn:h[n]?=some B)(hB:nt (some B)=nt (some B')):iA h (h.set n B'):=λm=>by
 by_cases e:n=m
 ·subst e;rw[anI (ane.1 hn).1,hn];exact hB
 ·rw[anN e]
def jd(h h':an3 ao):Prop:=∀(n:Nat)(B:ao),h[n]?=some B->abg B=true->h'[n]?=some B
theorem jd.app(h e:an3 ao):jd h (h++e):=λn cs hn _=>by
 rw[ano (ane.1 hn).1];exact hn
theorem jd.refl(h:an3 ao):jd h h:=λ_ _ hn _=>hn
theorem ahm{P:an6}{ρ:Operand->AV}{h J:an3 ao}{T:TypeId}{m i:Operand}{ok:Bool}{x:AV}{p:Sd}(hx:pD P (.lookup T m i ok) ρ h=some (x,J,p)):J=h/\∀h',jd h h'->pD P (.lookup T m i ok) ρ h'=some (x,h',p):=by
 simp only[pD]at hx ⊢;split at hx
 ·next k e hT=>
  split at hx
  ·next z hz=>
   split at hx
   ·next b s' hm hi=>
    split at hx
    ·next kv hn=>
     cases hc:h1 P k with
     |false=>rw[hc]at hx;cases hx
     |true=>
      rw[hc]at hx;cases hx
      refine⟨rfl,λh' hh=> ?_⟩;rw[hh b _ hn rfl];simp only[cond_true]
    ·cases hx
   ·cases hx
  ·cases hx
 ·cases hx
theorem Wz{h:an3 ao}{n e k:Nat}{cs:an3 (an3 AV)}(hn:h[n]?=some (.vec e k cs)):nt h[n]?=some (k,cs.length):=by rw[hn];rfl
theorem Yu{h:an3 ao}{n k l:Nat}(hq:nt h[n]?=some (k,l)):∃e cs,h[n]?=some (.vec e k cs)/\cs.length=l:=by
 unfold nt at hq;split at hq
 ·next e k' cs e1=>cases hq;exact⟨e,cs,e1,rfl⟩
 ·cases hq
theorem agB{P:an6}{o:Oper}{ρ:Operand->AV}{h J:an3 ao}{a:VA}{x:AV}{p:Prop}(hv:jN o=true)(hk:cm o=0)(hx:ij P o.op ρ h a=some (x,J,p))(hp:p):J=h/\∀h',iW h h'->∃p',ij P o.op ρ h' a=some (x,h',p')/\p':=by
 obtain⟨dst,op,type,pos,after,guard⟩:=o;cases op with
 |indexAddr T y i=>
  simp only[ij]at hx ⊢;split at hx
  ·next n o len L k z e k' i' e1 e2 e3=>
   split at hx
   ·next e4 k2 cs hn=>
    obtain⟨hb,he⟩:=mC hx;cases he
    rw[ang,beq_iff_eq,beq_iff_eq]at hb;obtain⟨rfl,rfl⟩:=hb;refine⟨rfl,λh' hh=> ?_⟩;obtain⟨e5,cs5,q1,q2⟩:=Yu (hh n _ (Wz hn));simp only[q1,anY,Bool.and_self,cond_true];exact⟨_,rfl,by rw[q2];exact hp.1,hp.2⟩
   ·cases hx
  ·cases hx
 |fieldAddr T y f=>
  simp only[ij]at hx ⊢;split at hx
  ·next e1 e2=>cases hx;exact⟨rfl,λh' _=>⟨_,rfl,trivial⟩⟩
  ·cases hx
 |nilCheck y=>
  simp only[ij]at hx ⊢;split at hx
  ·next e1=>cases hx;exact⟨rfl,λh' _=>⟨_,rfl,trivial⟩⟩
  ·cases hx
 |call c=>
  cases hc:c.callee with
  |builtin b=>
   cases b with
   |len=>
    simp only[ij,hc]at hx ⊢;split at hx
    ·split at hx
     ·next n o len L k e1=>
      split at hx
      ·next e2 k2 cs hn=>
       obtain⟨hb,he⟩:=mC hx;cases he
       rw[ang,beq_iff_eq]at hb;obtain⟨iC,rfl⟩:=hb;refine⟨rfl,λh' hh=> ?_⟩;obtain⟨e5,cs5,q1,q2⟩:=Yu (hh n _ (Wz hn));simp only[q1,iC,anY,Bool.and_self,cond_true];exact⟨_,rfl,by rw[q2];exact hp⟩
      ·cases hx
     ·cases hx
    ·cases hx
   |_=>simp [jN,hc]at hv
  |_=>simp [jN,hc]at hv
 |load t y=>simp [cm]at hk
 |store t y z=>simp [cm]at hk
 |_=>simp [jN]at hv
theorem aco{P:an6}{o:Oper}{ρ:Operand->AV}{h J:an3 ao}{a:VA}{x:AV}{p:Prop}(hv:jN o=true)(hk:cm o=1)(hx:ij P o.op ρ h a=some (x,J,p))(hp:p):J=h/\∀h',jd h h'->∃p',ij P o.op ρ h' a=some (x,h',p')/\p':=by
 obtain⟨dst,op,type,pos,after,guard⟩:=o;cases op with
 |load t y=>
  simp only[ij]at hx ⊢;split at hx
  ·next n i j L k c e1=>
   split at hx
   ·next e2 k' cs z hn hz=>
    obtain⟨hb,he⟩:=mC hx;cases he
    refine⟨rfl,λh' hh=> ?_⟩;simp only[hh n _ hn rfl,hz,hb,cond_true];exact⟨_,rfl,hp⟩
   ·cases hx
  ·cases hx
 |indexAddr T y i=>simp [cm]at hk
 |fieldAddr T y f=>simp [cm]at hk
 |nilCheck y=>simp [cm]at hk
 |call c=>
  cases hc:c.callee with
  |builtin b=>cases b<;>simp [cm,hc]at hk
  |value f=>cases mJ:pF f<;>simp [cm,hc,mJ]at hk
  |invoke=>simp [cm,hc]at hk
 |store t y z=>simp [cm]at hk
 |_=>simp [jN]at hv
theorem aiI{P:an6}{o:Oper}{ρ:Operand->AV}{h J:an3 ao}{a:VA}{x:AV}{p:Prop}(hv:jN o=true)(hk:cm o=3)(hx:ij P o.op ρ h a=some (x,J,p))(hp:p):iA h J:=by
 obtain⟨dst,op,type,pos,after,guard⟩:=o;cases op with
 |store t y z=>
  simp only[ij]at hx;split at hx
  ·next n i j L k c cw e1=>
   split at hx
   ·next e k' cs q hn hz=>
    obtain⟨hb,he⟩:=mC hx;cases he
    simp only[ang,beq_iff_eq]at hb;refine iA.set hn ?_;simp only[nt,List.length_set,hp.2.2,hb.1.1.1.1]
   ·cases hx
  ·cases hx
 |load t y=>simp [cm]at hk
 |indexAddr T y i=>simp [cm]at hk
 |fieldAddr T y f=>simp [cm]at hk
 |nilCheck y=>simp [cm]at hk
 |call c=>
  cases hc:c.callee with
  |builtin b=>cases b<;>simp [cm,hc]at hk
  |value f=>cases mJ:pF f<;>simp [cm,hc,mJ]at hk
  |invoke=>simp [cm,hc]at hk
 |_=>simp [jN]at hv
def jA(m:Bool)(o:Oper):Nat:=bif nh m o then 7 else cm o
def dX(m:Bool)(P:an6)(o:Oper)(ρ:Operand->AV)(h:an3 ao)(x:AV)(J:an3 ao):Prop:=
 match jA m o with
 |0=>J=h/\∀h',(m=true\/iW h h')->∀C:AV->an3 ao->Prop,C x h'->jM P o ρ h' C
 |1=>J=h/\∀h',jd h h'->∀C:AV->an3 ao->Prop,C x h'->jM P o ρ h' C
 |2=>∃B,nt (some B)=none/\x= .ptr h.length 0/\J=h++[B]/\∀h'(C:AV->an3 ao->Prop),C (.ptr h'.length 0) (h'++[B])->jM P o ρ h' C
 |3=>iA h J/\∀C:AV->an3 ao->Prop,C x J->jM P o ρ h C
 |4=>J=h/\∀e(C:AV->an3 ao->Prop),C x (h++e)->jM P o ρ (h++e) C
 |5=>(jd h J/\jd J h/\iA h J)/\∀C:AV->an3 ao->Prop,C x J->jM P o ρ h C
 |6=>∃e0,J=h++e0/\∀C:AV->an3 ao->Prop,C x J->jM P o ρ h C
 |7=>∀C:AV->an3 ao->Prop,C x J->jM P o ρ h C
 |_=>False
section
variable {P:an6} {o:Oper} {ρ ρ':Operand->AV} {h:an3 ao} {C:AV->an3 ao->Prop}
theorem al0{p:AV}{K:an3 AV->Nat->Prop}(hp:sq h p K):∃cs off,K cs off/\∀h',jd h h'->∀K':an3 AV->Nat->Prop,K' cs off->sq h' p K':=by
 unfold sq at hp ⊢;split at hp
 ·rename_i n off
  split at hp
  ·rename_i cs gx
   refine⟨cs,off,hp,λh' hh K' hk=> ?_⟩;rw[hh n _ gx rfl];exact hk
  ·exact hp.elim
 ·rename_i xs i off
  split at hp
  ·rename_i cs gx
   refine⟨_,off,hp,λh' _ K' hk=> ?_⟩;exact hk
  ·exact hp.elim
 ·exact hp.elim
theorem abA{t:Nat}{p:AV}{K:AV->Prop}(hp:n8 P t h p K):∃x,K x/\∀h',jd h h'->∀K':AV->Prop,K' x->n8 P t h' p K':=by
 unfold n8 at hp ⊢;obtain⟨cs,off,J,h2⟩:=al0 hp;split at J
 ·rw[bK]at J;refine⟨_,J.2,λh' hh K' gM=>h2 h' hh _ ?_⟩;exact bK.2 ⟨J.1,gM⟩
 ·split at J
  ·rename_i c hc
   refine⟨c,J,λh' hh K' gM=>h2 h' hh _ ?_⟩;simp only[hc];exact gM
  ·exact J.elim
 ·exact J.elim
theorem tR{x:an5 Operand}{d:Nat}{F:Nat->Prop}(hx:jT ρ x d F):∃m,F m/\∀F':Nat->Prop,F' m->jT ρ x d F':=by
 cases x with
 |none=>exact⟨d,hx,λ_ h=>h⟩
 |some y=>
  simp only[jT]at hx;split at hx
  ·rename_i z hz
   exact⟨_,hx.2,λF' hF=>by simp only[jT,hz];exact⟨hx.1,hF⟩⟩
  ·exact hx.elim
theorem acm(hk:cm o=0)(hc:cD P o ρ h C):∃x,C x h/\∀h'(C':AV->an3 ao->Prop),C' x h'->cD P o ρ h' C':=by
 have tL:∀(F:(AV->Prop)->Prop),(∀K,F K->∃x,K x/\∀K',K' x->F K')->F (λx=>C x h)->(∀h' C',cD P o ρ h' C'=F (λx=>C' x h'))->∃x,C x h/\∀h'(C':AV->an3 ao->Prop),C' x h'->cD P o ρ h' C':=λF hF h0 he=>by
  obtain⟨x,J,h2⟩:=hF _ h0;exact⟨x,J,λh' C' dq=>by rw[he];exact h2 _ dq⟩
 obtain⟨dst,op,type,pos,after,guard⟩:=o;cases op with
 |move a=>exact⟨ρ a,hc,λ_ _ h=>h⟩
 |assign a=>exact⟨ρ a,hc,λ_ _ h=>h⟩
 |pick c a b=>
  simp only[cD]at hc;split at hc
  ·rename_i t ht
   cases t with
   |true=>exact⟨ρ a,hc.1 rfl,λh' C' dq=>by simp only[cD,ht];exact⟨λ_=>dq,λe=>by cases e⟩⟩
   |false=>exact⟨ρ b,hc.2 rfl,λh' C' dq=>by simp only[cD,ht];exact⟨λe=>(by cases e),λ_=>dq⟩⟩
  ·exact hc.elim
 |nilCheck a=>
  simp only[cD]at hc;split at hc
  ·rename_i m off e;exact⟨_,hc,λh' C' dq=>by simp only[cD,e];exact dq⟩
  ·rename_i xs i off e;exact⟨_,hc,λh' C' dq=>by simp only[cD,e];exact dq⟩
  ·rename_i f cs e;exact⟨_,hc,λh' C' dq=>by simp only[cD,e];exact dq⟩
  ·exact hc.elim
 |fieldAddr t a f=>
  simp only[cD]at hc;split at hc
  ·rename_i fo k g hf
   split at hc
   ·rename_i m off e;exact⟨_,hc,λh' C' dq=>by simp only[cD,hf,e];exact dq⟩
   ·rename_i xs i off e;exact⟨_,hc,λh' C' dq=>by simp only[cD,hf,e];exact dq⟩
   ·exact hc.elim
  ·exact hc.elim
 |field t a f=>
  refine tL (vS P t (ρ a) f) (λK hK=> ?_) hc (λ_ _=>rfl);unfold vS at hK ⊢;split at hK
  ·rw[bK]at hK;exact⟨_,hK.2,λK' eC=>bK.2 ⟨hK.1,eC⟩⟩
  ·split at hK
   ·rename_i c fI;exact⟨c,hK,λK' eC=>eC⟩
   ·exact hK.elim
  ·exact hK.elim
 |indexAddr t a b=>
  refine tL (sb P t (ρ a) (ρ b)) (λK hK=> ?_) hc (λ_ _=>rfl);unfold sb at hK ⊢;split at hK
  ·rename_i e k hT
   split at hK
   ·rename_i n off len cap k'
    split at hK
    ·rename_i z hz
     rw[bK]at hK;obtain⟨J,h2,h3,h4⟩:=hK;exact⟨_,h4,λK' eC=>bK.2 ⟨J,h2,h3,eC⟩⟩
    ·exact hK.elim
   ·split at hK
    ·rename_i xs z lK hz
     obtain⟨h0,hK⟩:=hK;split at hK
     ·rename_i c fI
      exact⟨_,hK.2,λK' eC=>⟨h0,hK.1,eC⟩⟩
     ·exact hK.elim
    ·exact hK.elim
  ·split at hK
   ·rename_i n e k b' off z hT hz
    obtain⟨J,h2,h3⟩:=hK;exact⟨_,h3,λK' eC=>⟨J,h2,eC⟩⟩
   ·rename_i n e k xs i' off z hT hz
    rw[bK]at hK;obtain⟨h0,J,h2,h3⟩:=hK;split at h3
    ·rename_i c fI
     split at h3
     ·rename_i d hd
      exact⟨_,h3,λK' eC=>bK.2 ⟨h0,J,h2,eC⟩⟩
     ·exact h3.elim
    ·exact h3.elim
   ·exact hK.elim
 |index t a b=>
  simp only[cD]at hc;split at hc
  ·rename_i bb z e1 e2
   rw[bK]at hc;obtain⟨J,h2,h3⟩:=hc;split at h3
   ·rename_i c fI
    exact⟨_,h3,λh' C' dq=>by simp only[cD,e1,e2];exact bK.2 ⟨J,h2,by simp only[fI];exact dq⟩⟩
   ·exact h3.elim
  ·exact hc.elim
 |build t ps=>
  refine tL (wL P t (ps.toList.map λp:Nat×Operand=>(p.1,ρ p.2))) (λK hK=> ?_) hc (λ_ _=>rfl);unfold wL at hK ⊢;split at hK
  ·split at hK
   ·rename_i cs gx
    rw[bK]at hK;exact⟨_,hK.2,λK' eC=>bK.2 ⟨hK.1,eC⟩⟩
   ·exact hK.elim
  ·exact hK.elim
 |buildSlice t n ps=>
  refine tL (w7 P t n (ps.toList.map λp:Nat×Operand=>(p.1,ρ p.2))) (λK hK=> ?_) hc (λ_ _=>rfl);unfold w7 at hK ⊢;split at hK
  ·split at hK
   ·split at hK
    ·rename_i cs gx
     split at hK
     ·rename_i ds ra
      rw[bK]at hK;exact⟨_,hK.2,λK' eC=>bK.2 ⟨hK.1,eC⟩⟩
     ·exact hK.elim
    ·exact hK.elim
   ·exact hK.elim
  ·exact hK.elim
 |slice t a lo hi mx=>
  refine tL (tw P t ρ (ρ a) lo hi mx) (λK hK=> ?_) hc (λ_ _=>rfl);unfold tw at hK ⊢;split at hK
  ·split at hK
   ·rw[bK]at hK;obtain⟨h0,hK⟩:=hK;obtain⟨m1,hK,j1⟩:=tR hK;obtain⟨J,hK⟩:=hK;obtain⟨m2,hK,j2⟩:=tR hK;obtain⟨h2,hK⟩:=hK;exact⟨_,hK,λK' eC=>bK.2 ⟨h0,j1 _ ⟨J,j2 _ ⟨h2,eC⟩⟩⟩⟩
   ·split at hK
    ·rw[bK]at hK;obtain⟨h0,hK⟩:=hK;obtain⟨m1,hK,j1⟩:=tR hK;rw[bK]at hK;obtain⟨J,hK⟩:=hK;obtain⟨m2,hK,j2⟩:=tR hK;rw[bK]at hK;obtain⟨h2,hK⟩:=hK;exact⟨_,hK,λK' eC=>by rw[bK];exact⟨h0,j1 _ (by rw[bK];exact⟨J,j2 _ (by rw[bK];exact⟨h2,eC⟩)⟩)⟩⟩
    ·exact hK.elim
   ·split at hK
    ·obtain⟨h0,hK⟩:=hK;obtain⟨m1,hK,j1⟩:=tR hK;obtain⟨J,hK⟩:=hK;obtain⟨m2,hK,j2⟩:=tR hK;obtain⟨h2,hK⟩:=hK;exact⟨_,hK,λK' eC=>⟨h0,j1 _ ⟨J,j2 _ ⟨h2,eC⟩⟩⟩⟩
    ·exact hK.elim
  ·split at hK
   ·split at hK
    ·obtain⟨h0,hK⟩:=hK;obtain⟨m1,hK,j1⟩:=tR hK;obtain⟨J,hK⟩:=hK;obtain⟨m2,hK,j2⟩:=tR hK;obtain⟨h2,hK⟩:=hK;exact⟨_,hK,λK' eC=>⟨h0,j1 _ ⟨J,j2 _ ⟨h2,eC⟩⟩⟩⟩
    ·exact hK.elim
   ·exact hK.elim
 |extract a i=>
  simp only[cD]at hc;split at hc
  ·rename_i cs e
   split at hc
   ·rename_i c fI;exact⟨c,hc,λh' C' dq=>by simp only[cD,e,fI];exact dq⟩
   ·exact hc.elim
  ·exact hc.elim
 |makeFunc fn first cT=>
  cases fn with
  |func f=>
   simp only[cD]at hc;split at hc
   ·rename_i e;exact⟨_,hc,λh' C' dq=>by simp only[cD,e];exact dq⟩
   ·exact hc.elim
  |_=>exact hc.elim
 |binOp op t a b u=>
  refine tL (wU P t op (ρ a) (ρ b)) (λK hK=> ?_) hc (λ_ _=>rfl);unfold wU at hK ⊢;split at hK
  ·split at hK
   ·rw[bK]at hK;exact⟨_,hK.2.2,λK' eC=>bK.2 ⟨hK.1,hK.2.1,eC⟩⟩
   ·split at hK
    ·exact⟨_,hK.2,λK' eC=>⟨hK.1,eC⟩⟩
    ·split at hK
     ·rw[bK]at hK;exact⟨_,hK.2,λK' eC=>bK.2 ⟨hK.1,eC⟩⟩
     ·exact hK.elim
  ·split at hK
   ·exact⟨_,hK,λK' eC=>eC⟩
   ·split at hK
    ·exact⟨_,hK.2,λK' eC=>⟨hK.1,eC⟩⟩
    ·exact hK.elim
  ·split at hK
   ·rw[bK]at hK;exact⟨_,hK.2,λK' eC=>bK.2 ⟨hK.1,eC⟩⟩
   ·exact hK.elim
  ·split at hK
   ·split at hK
    ·exact⟨_,hK,λK' eC=>eC⟩
    ·exact hK.elim
   ·exact hK.elim
  ·exact hK.elim
 |unOp op t a=>
  refine tL (vN op (ρ a)) (λK hK=> ?_) hc (λ_ _=>rfl);unfold vN at hK ⊢;split at hK
  ·split at hK
   ·exact⟨_,hK,λK' eC=>eC⟩
   ·exact hK.elim
  ·exact hK.elim
 |convert t u a=>
  refine tL (xn P t u (ρ a)) (λK hK=> ?_) hc (λ_ _=>rfl);unfold xn at hK ⊢;split at hK
  ·split at hK
   ·exact⟨_,hK,λK' eC=>eC⟩
   ·exact hK.elim
  ·rw[bK]at hK;exact⟨_,hK.2,λK' eC=>bK.2 ⟨hK.1,eC⟩⟩
  ·split at hK
   ·rw[bK]at hK;obtain⟨J,ns,h2,h3⟩:=hK;exact⟨_,h3,λK' eC=>bK.2 ⟨J,ns,h2,eC⟩⟩
   ·exact hK.elim
 |call c=>
  simp only[cm]at hk;cases fp:c.callee with
  |value f=>cases mJ:pF f<;>simp [fp,mJ]at hk
  |invoke=>simp [fp]at hk
  |builtin b=>
   cases b with
   |len=>
    simp only[cD,fp]at hc;split at hc
    ·rename_i x T e1 e2
     have key:∀F:Nat->Prop,rI P T (ρ x) F->∃m,F m/\∀F':Nat->Prop,F' m->rI P T (ρ x) F':=λF hF=>by
      unfold rI at hF ⊢;split at hF
      ·rw[bK]at hF;exact⟨_,hF.2,λF' k9=>bK.2 ⟨hF.1,k9⟩⟩
      ·rw[bK]at hF;exact⟨_,hF.2,λF' k9=>bK.2 ⟨hF.1,k9⟩⟩
      ·split at hF
       ·rw[bK]at hF;exact⟨_,hF.2,λF' k9=>bK.2 ⟨hF.1,k9⟩⟩
       ·exact hF.elim
     obtain⟨m,J,h2⟩:=key _ hc;exact⟨_,J,λh' C' dq=>by simp only[cD,fp,e1,e2];exact h2 _ dq⟩
    ·exact hc.elim
   |max=>
    simp only[cD,fp]at hc;split at hc
    ·rename_i e1
     exact⟨_,hc,λh' C' dq=>by simp only[cD,fp,e1];exact dq⟩
    ·exact hc.elim
   |min=>
    simp only[cD,fp]at hc;split at hc
    ·rename_i e1
     exact⟨_,hc,λh' C' dq=>by simp only[cD,fp,e1];exact dq⟩
    ·exact hc.elim
   |_=>simp [fp]at hk
 |_=>simp [cm]at hk
theorem ak4(hk:cm o=2)(hc:cD P o ρ h C):∃B,nt (some B)=none/\C (.ptr h.length 0) (h++[B])/\∀h'(C':AV->an3 ao->Prop),C' (.ptr h'.length 0) (h'++[B])->cD P o ρ h' C':=by
 obtain⟨dst,op,type,pos,after,guard⟩:=o;cases op with
 |alloc e=>
  simp only[cD]at hc;split at hc
  ·rename_i z hz;exact⟨_,rfl,hc,λh' C' dq=>by simp only[cD,hz];exact dq⟩
  ·exact hc.elim
 |box e x=>
  simp only[cD]at hc;rw[bK]at hc;exact⟨_,rfl,hc.2,λh' C' dq=>by simp only[cD];rw[bK];exact⟨hc.1,dq⟩⟩
 |call c=>
  simp only[cm]at hk;cases fp:c.callee with
  |value f=>cases mJ:pF f<;>simp [fp,mJ]at hk
  |invoke=>simp [fp]at hk
  |builtin b=>cases b<;>simp [fp]at hk
 |_=>simp [cm]at hk
theorem agW(hk:cm o=3)(hc:cD P o ρ h C):∃x J,C x J/\iA h J/\∀C':AV->an3 ao->Prop,C' x J->cD P o ρ h C':=by
 obtain⟨dst,op,type,pos,after,guard⟩:=o;cases op with
 |store t a b=>
  simp only[cD]at hc;have key:∀F:an3 ao->Prop,vJ P t h (ρ a) (ρ b) F->∃J,F J/\iA h J/\∀F':an3 ao->Prop,F' J->vJ P t h (ρ a) (ρ b) F':=λF hF=>by
   unfold vJ at hF ⊢;split at hF
   ·split at hF
    ·next hn=>
     split at hF
     ·rw[bK]at hF;exact⟨_,hF.2,iA.set hn rfl,λF' k9=>bK.2 ⟨hF.1,k9⟩⟩
     ·exact hF.elim
    ·exact hF.elim
   ·exact hF.elim
  obtain⟨J,k1,kv,k2⟩:=key _ hc;exact⟨_,J,k1,kv,λC' dq=>by simp only[cD];exact k2 _ dq⟩
 |makeMap t r=>
  simp only[cD]at hc;split at hc
  ·rename_i x h' p hx
   refine⟨x,h',hc.2,?_,λC' dq=>by simp only[cD,hx];exact⟨hc.1,dq⟩⟩;unfold pD at hx;cases r with
   |none=>
    simp only at hx;split at hx
    ·cases hx;exact iA.app rfl
    ·cases hx
   |some r=>cases hx
  ·exact hc.elim
 |mapUpdate t a b c=>
  simp only[cD]at hc;split at hc
  ·rename_i x h' p hx
   refine⟨x,h',hc.2,?_,λC' dq=>by simp only[cD,hx];exact⟨hc.1,dq⟩⟩;unfold pD at hx;simp only at hx;split at hx
   ·split at hx
    ·split at hx
     ·next hn=>
      obtain⟨hb,he⟩:=mC hx;cases he
      exact iA.set hn rfl
     ·cases hx
    ·cases hx
   ·cases hx
  ·exact hc.elim
 |call c=>
  simp only[cm]at hk;cases fp:c.callee with
  |value f=>cases mJ:pF f<;>simp [fp,mJ]at hk
  |invoke=>simp [fp]at hk
  |builtin b=>cases b<;>simp [fp]at hk
 |_=>simp [cm]at hk
theorem YQ{n:Nat}{e:TypeId}{k l e' k' l':Nat}(hn:h[n]?=some (.front e' k' l')):jd h (h.set n (.front e k l))/\jd (h.set n (.front e k l)) h:=by
 refine⟨λm cs hm hc=> ?_,λm cs hm hc=> ?_⟩
 ·have:n≠m:=λe=>by subst e;rw[hn]at hm;cases hm;cases hc
  rw[anN this];exact hm
 ·by_cases e:n=m
  ·subst e;rw[anI (ane.1 hn).1]at hm;cases hm;cases hc
  ·rw[anN e]at hm;exact hm
theorem Jg{e:TypeId}{k l:Nat}:jd h (h++[.front e k l])/\jd (h++[.front e k l]) h:=by
 refine⟨jd.app _ _,λm cs hm hc=> ?_⟩;by_cases hl:m<h.length
 ·rw[ano hl]at hm;exact hm
 ·rw[anu (by omega)]at hm;by_cases h0:m-h.length=0
  ·rw[h0]at hm;cases hm;cases hc
  ·rw[anL (by simp;omega)]at hm;cases hm
theorem adD(hk:cm o=5)(hc:cD P o ρ h C):∃x J,C x J/\(jd h J/\jd J h/\iA h J)/\∀C':AV->an3 ao->Prop,C' x J->cD P o ρ h C':=by
 obtain⟨dst,op,type,pos,after,guard⟩:=o;cases op with
 |call c=>
  simp only[cm]at hk;cases fp:c.callee with
  |value f=>cases mJ:pF f<;>simp [fp,mJ]at hk
  |invoke=>simp [fp]at hk
  |builtin b=>
   cases b with
   |append=>
    simp only[cD,fp]at hc;split at hc
    ·rename_i x y T U e1 e2
     rw[bK]at hc;have abz:∀(k:Nat)(y:AV)(F:an3 (an3 D)->Prop),vf h k y F->∃ys,F ys/\∀F':an3 (an3 D)->Prop,F' ys->vf h k y F':=λk y F hF=>by
       unfold vf at hF ⊢;split at hF
       ·split at hF
        ·split at hF
         ·rw[bK]at hF;exact⟨_,hF.2,λF' k9=>bK.2 ⟨hF.1,k9⟩⟩
         ·exact hF.elim
        ·exact hF.elim
       ·split at hF
        ·exact⟨_,hF.2,λF' k9=>⟨hF.1,k9⟩⟩
        ·exact hF.elim
     have key:∀F:AV->an3 ao->Prop,tU P T h (ρ x) (ρ y) F->∃v J,F v J/\(jd h J/\jd J h/\iA h J)/\∀F':AV->an3 ao->Prop,F' v J->tU P T h (ρ x) (ρ y) F':=λF hF=>by
      unfold tU at hF ⊢;split at hF
      ·split at hF
       ·rw[bK]at hF;obtain⟨h0,hF⟩:=hF;obtain⟨ys,hF,hs⟩:=abz _ _ _ hF;split at hF
        ·split at hF
         ·rename_i hn
          rw[bK]at hF;obtain⟨g1,g2,g3,g4,g5,g6⟩:=hF;exact⟨_,_,g6,⟨(YQ hn).1,(YQ hn).2,iA.set hn rfl⟩,λF' k9=>bK.2 ⟨h0,hs _ (bK.2 ⟨g1,g2,g3,g4,g5,k9⟩)⟩⟩
         ·exact hF.elim
        ·obtain⟨g4,g5,g6⟩:=hF;exact⟨_,_,g6,⟨Jg.1,Jg.2,iA.app rfl⟩,λF' k9=>bK.2 ⟨h0,hs _ ⟨g4,g5,k9⟩⟩⟩
        ·obtain⟨g3,g4,g5,g6⟩:=hF;exact⟨_,_,g6,⟨Jg.1,Jg.2,iA.app rfl⟩,λF' k9=>bK.2 ⟨h0,hs _ ⟨g3,g4,g5,k9⟩⟩⟩
        ·exact hF.elim
       ·exact hF.elim
      ·exact hF.elim
     obtain⟨v,J,k1,c1,k2⟩:=key _ hc.2;exact⟨v,J,k1,c1,λC' dq=>by simp only[cD,fp,e1,e2];rw[bK];exact⟨hc.1,k2 _ dq⟩⟩
    ·exact hc.elim
   |_=>simp [fp]at hk
 |_=>simp [cm]at hk
theorem YA{m:Bool}(kp:nh m o=false){s:St}{K:St->Prop}(hd:zu P o K s):∃x J,dX m P o (ev s) s.h x J/\K ((s.wh J).put o.dst x):=by
 have km:jA m o=cm o:=by unfold jA;rw[kp];rfl
 have plain:qB P o K s->cm o≠4->cm o≠6->∃x J,dX m P o (ev s) s.h x J/\K ((s.wh J).put o.dst x):=λha Wg CW=>by
  unfold qB at ha;by_cases h0:cm o=0
  ·obtain⟨x,J,h2⟩:=acm h0 ha;exact⟨x,s.h,by unfold dX;rw[km,h0];exact⟨rfl,λh' _ C' dq=> .inl (h2 h' C' dq)⟩,J⟩
  ·by_cases J:cm o=1
   ·obtain⟨dst,op,type,pos,after,guard⟩:=o;cases op with
    |load t a=>
     simp only[cD]at ha;obtain⟨x,k1,k2⟩:=abA ha;exact⟨x,s.h,by unfold dX;rw[km,J];exact⟨rfl,λh' hh C' dq=> .inl (by simp only[cD];exact k2 h' hh _ dq)⟩,k1⟩
    |lookup t a b ok=>
     simp only[cD]at ha;split at ha
     ·rename_i x h' p hx
      obtain⟨rfl,k2⟩:=ahm hx;exact⟨x,s.h,by unfold dX;rw[km,J];exact⟨rfl,λh' hh C' dq=> .inl (by simp only[cD,k2 h' hh];exact⟨ha.1,dq⟩)⟩,ha.2⟩
     ·exact ha.elim
    |call c=>
     simp only[cm]at J;cases fp:c.callee with
     |value f=>cases mJ:pF f<;>simp [fp,mJ]at J
     |invoke=>simp [fp]at J
     |builtin b=>cases b<;>simp [fp]at J
    |_=>simp [cm]at J
   ·by_cases h2:cm o=2
    ·obtain⟨B,kB,k1,k2⟩:=ak4 h2 ha;exact⟨_,_,by unfold dX;rw[km,h2];exact⟨B,kB,rfl,rfl,λh' C' dq=> .inl (k2 h' C' dq)⟩,k1⟩
    ·by_cases h3:cm o=3
     ·obtain⟨x,mA,k1,kv,k2⟩:=agW h3 ha;exact⟨x,mA,by unfold dX;rw[km,h3];exact⟨kv,λC' dq=> .inl (k2 C' dq)⟩,k1⟩
     ·by_cases h5:cm o=5
      ·obtain⟨x,mA,k1,c1,k2⟩:=adD h5 ha;exact⟨x,mA,by unfold dX;rw[km,h5];exact⟨c1,λC' dq=> .inl (k2 C' dq)⟩,k1⟩
      exfalso;obtain⟨dst,op,type,pos,after,guard⟩:=o;cases op with
      |call c=>
       simp only[cm]at h0 h3 Wg CW h5;simp only[cD]at ha;cases fp:c.callee with
       |value f=>cases mJ:pF f<;>simp [fp,mJ]at Wg CW
       |invoke=>simp only[fp]at ha
       |builtin b=>cases b<;>simp only[fp]at ha h0 h3 h5<;>first|exact ha|exact absurd rfl h0|exact absurd rfl h3|exact absurd rfl h5|exact h3 trivial|exact h0 trivial|exact h5 trivial
      |_=>first|exact absurd rfl h0|exact absurd rfl J|exact absurd rfl h2|exact absurd rfl h3|exact ha
 unfold zu at hd;split at hd
 ·rename_i c gV
  split at hd
  ·rename_i f fp
   have fin:∀x:AV,(∀e,∀C':AV->an3 ao->Prop,C' x (s.h++e)->cD P o (ev s) (s.h++e) C')->dX m P o (ev s) s.h x s.h:=λx hx=>by
    have hk:cm o=4\/cm o=6:=by
     unfold cm;simp only[gV,fp];cases pF f<;>simp
    unfold dX;rw[km];rcases hk with hk|hk
    ·rw[hk];exact⟨rfl,λe C' dq=> .inl (hx e C' dq)⟩
    ·rw[hk];refine⟨[],(anA _).symm,λC' dq=> .inl ?_⟩;have:=hx [] C' (by rw[anA];exact dq)
     rwa [anA]at this
   split at hd
   ·rename_i g cT hg
    obtain⟨x,hK,jP⟩:=hd;refine⟨x,s.h,fin x λe C' dq=> ?_,hK⟩;unfold cD;simp only[gV,fp,hg];exact(jP e).mono λr' h' ⟨e1,e2⟩=>by subst e1;subst e2;exact dq
   ·rename_i q hg
    obtain⟨g,as,eq,x,hK,jP⟩:=hd;refine⟨x,s.h,fin x λe C' dq=> ?_,hK⟩;unfold cD;simp only[gV,fp,hg];exact⟨g,as,eq,(jP e).mono λr' h' ⟨e1,e2⟩=>by subst e1;subst e2;exact dq⟩
   ·exact hd.elim
  ·rename_i fp
   exact plain hd (by
    unfold cm;simp only[gV];cases hc:c.callee with
    |value f=>exact absurd hc (fp f)
    |invoke=>simp
    |builtin b=>cases b<;>simp) (by
    unfold cm;simp only[gV];cases hc:c.callee with
    |value f=>exact absurd hc (fp f)
    |invoke=>simp
    |builtin b=>cases b<;>simp)
 ·rename_i gV
  exact plain hd (by
   unfold cm;split<;>first|(rename_i c hc;exact(gV c hc).elim)|simp) (by
   unfold cm;split<;>first|(rename_i c hc;exact(gV c hc).elim)|simp)
theorem Wk{m:Bool}{J:an3 ao}{x:AV}(h0:dX m P o ρ h x J):∀C:AV->an3 ao->Prop,C x J->jM P o ρ h C:=λC hC=>by
 unfold dX at h0;split at h0
 ·obtain⟨e,h0⟩:=h0;subst e;exact h0 _ (.inr (iW.refl _)) _ hC
 ·obtain⟨e,h0⟩:=h0;subst e;exact h0 _ (jd.refl _) _ hC
 ·obtain⟨B,_,rfl,rfl,h0⟩:=h0;exact h0 _ _ hC
 ·exact h0.2 _ hC
 ·obtain⟨e,h0⟩:=h0;subst e;have:=h0 [] C (by rw[anA];exact hC)
  rwa [anA]at this
 ·exact h0.2 _ hC
 ·obtain⟨e0,_,h0⟩:=h0;exact h0 _ hC
 ·exact h0 _ hC
 ·exact h0.elim
theorem HJ{m:Bool}{s:St}{K:St->Prop}(hd:xI m P o K s):∃x J,dX m P o (ev s) s.h x J/\K ((s.wh J).put o.dst x):=by
 cases kp:nh m o with
 |true=>
  have k7:jA m o=7:=by unfold jA;rw[kp];rfl
  rcases hd with hd|⟨_,x,J,hK,hc⟩|⟨hv,a,x,h',p,hx,hp,hK⟩|⟨_,x,e0,hK,hc⟩
  ·obtain⟨x,J,h2,hK⟩:=YA (m:=false) rfl hd;refine⟨x,J,?_,hK⟩;have:=Wk h2;unfold dX;rw[k7];exact this
  ·exact⟨x,J,by unfold dX;rw[k7];exact λC hC=> .inl (hc C hC),hK⟩
  ·exact⟨x,h',by unfold dX;rw[k7];exact λC hC=> .inr ⟨hv.imp (·.1) (λe=>(ang _ _▸e).2),a,x,h',p,hx,hp,hC⟩,hK⟩
  ·exact⟨x,_,by unfold dX;rw[k7];exact λC hC=> .inl (hc C hC),hK⟩
 |false=>
 have km:jA m o=cm o:=by unfold jA;rw[kp];rfl
 rcases hd with hd|⟨hb,_⟩|⟨hv,a,x,h',p,hx,hp,hK⟩|⟨hk,x,e0,hK,hc⟩
 ·exact YA kp hd
 ·rw[kp]at hb;cases hb
 ·obtain⟨hv,Vm⟩:jN o=true/\(m&&cm o==0)=false:=hv.resolve_right λe=>by
   rw[ang]at e;unfold nh at kp;rw[e.1,e.2]at kp;simp at kp
  have hk:cm o=0\/cm o=1\/cm o=3:=by
   unfold jN at hv;unfold cm;split at hv
   all_goals first|(next e=>simp only[e];simp)|skip
   ·next c e=>
    split at hv
    ·next e2=>simp only[e,e2];simp
    ·cases hv
   ·cases hv
  rcases hk with hk|hk|hk
  ·obtain⟨rfl,h2⟩:=agB hv hk hx hp;refine⟨x,_,?_,hK⟩;unfold dX;rw[km,hk];exact⟨rfl,λh' hh C hC=> .inr ⟨.inl hv,a,x,h',by obtain⟨p',q1,q2⟩:=h2 h' (hh.resolve_left λe=>by rw[e,hk]at Vm;cases Vm);exact⟨p',q1,q2,hC⟩⟩⟩
  ·obtain⟨rfl,h2⟩:=aco hv hk hx hp;refine⟨x,_,?_,hK⟩;unfold dX;rw[km,hk];exact⟨rfl,λh' hh C hC=> .inr ⟨.inl hv,a,x,h',by obtain⟨p',q1,q2⟩:=h2 h' hh;exact⟨p',q1,q2,hC⟩⟩⟩
  ·refine⟨x,h',?_,hK⟩;unfold dX;rw[km,hk];exact⟨aiI hv hk hx hp,λC hC=> .inr ⟨.inl hv,a,x,h',p,hx,hp,hC⟩⟩
 ·refine⟨x,_,?_,hK⟩;unfold dX;rw[km,hk];exact⟨e0,rfl,λC hC=> .inl (hc C hC)⟩
end
structure jn(s s':St):Prop where
 n:s.n=s'.n
 h:s.h=s'.h
 t:∀i,bm s.t i=bm s'.t i
theorem jn.refl(s:St):jn s s:=⟨rfl,rfl,λ_=>rfl⟩
theorem jn.symm{s s':St}(h:jn s s'):jn s' s:=⟨h.n.symm,h.h.symm,λi=>(h.t i).symm⟩
theorem jn.trans{a b c:St}(h:jn a b)(k:jn b c):jn a c:=⟨h.n.trans k.n,h.h.trans k.h,λi=>(h.t i).trans (k.t i)⟩
theorem sI(s:St)(d:an5 Nat)(x:AV)(i:Nat):bm (s.put d x).t i=if d=some i/\i<s.n then x else bm s.t i:=by
 cases d with
 |none=>simp [St.put]
 |some k=>
  by_cases hk:k<s.n
  ·rw[qQ hk,kX];by_cases hi:i=k
   ·subst hi;simp [hk]
   ·rw[if_neg hi,if_neg (by simp;intro e;exact absurd e.symm hi)]
  ·rw[DF hk];rw[if_neg (by rintro⟨e,aI⟩;cases e;exact hk aI)]
theorem qV(s:St)(d:an5 Nat)(x:AV):(s.put d x).n=s.n:=by
 cases d with
 |none=>rfl
 |some k=>
  by_cases hk:k<s.n
  ·rw[qQ hk]
  ·rw[DF hk]
theorem Fq(s:St)(d:an5 Nat)(x:AV):(s.put d x).h=s.h:=by
 cases d with
 |none=>rfl
 |some k=>
  by_cases hk:k<s.n
  ·rw[qQ hk]
  ·rw[DF hk]
theorem jn.put{s s':St}(h:jn s s')(J:an3 ao)(d:an5 Nat)(x:AV):jn ((s.wh J).put d x) ((s'.wh J).put d x):=
 ⟨by rw[qV,qV];exact h.n,by rw[Fq,Fq];rfl,λi=>by
  rw[sI,sI];show(if d=some i/\i<s.n then x else bm s.t i)=(if d=some i/\i<s'.n then x else bm s'.t i);rw[h.n,h.t]⟩
theorem aji(s:St)(J mA h2:an3 ao){d d':an5 Nat}(x x':AV)(cA:∀k,d=some k->d'≠some k):jn ((((s.wh J).put d x).wh h2).put d' x') ((((s.wh mA).put d' x').wh h2).put d x):=by
 refine⟨by simp only[qV];show((s.wh J).put d x).n=((s.wh mA).put d' x').n;simp only[qV];rfl,by simp only[Fq];rfl,λi=> ?_⟩;rw[sI,sI];show(if d'=some i/\i<((s.wh J).put d x).n then x' else bm ((s.wh J).put d x).t i)=(if d=some i/\i<((s.wh mA).put d' x').n then x else bm ((s.wh mA).put d' x').t i);rw[qV,qV,sI,sI];show(if d'=some i/\i<s.n then x' else(if d=some i/\i<s.n then x else bm s.t i))=(if d=some i/\i<s.n then x else(if d'=some i/\i<s.n then x' else bm s.t i));by_cases a:d=some i
 ·have:=cA i a;simp [a,this]
 ·simp [a]
section
variable {P:an6} {ops:Array Oper}
def mf(m:Bool)(P:an6)(ops:Array Oper)(o:Oper)(s:St)(x:AV)(J:an3 ao):Prop:=
 (iY ops o s True False/\dX m P o (ev s) s.h x J)\/(iY ops o s False True/\x= .d (.v undef)/\J=s.h)
theorem GG{o:Oper}{s:St}{yes no:Prop}(h:iY ops o s yes no):(iY ops o s True False/\yes)\/(iY ops o s False True/\no):=by
 unfold iY at h ⊢;split at h
 ·exact .inl ⟨trivial,h⟩
 ·rename_i j want hg
  split at h
  ·rename_i d hd
   split at h
   ·rename_i b hb
    by_cases xZ:b=want
    ·exact .inl ⟨⟨λ_=>trivial,λe=>by subst xZ;cases b<;>cases e⟩,h.1 xZ⟩
    ·have FI:b= !want:=by cases b<;>cases want<;>simp_all
     exact .inr ⟨⟨λe=>(xZ e).elim,λ_=>trivial⟩,h.2 FI⟩
   ·exact .inr ⟨trivial,h⟩
   ·exact h.elim
  ·exact h.elim
theorem vj{o:Oper}{s s':St}{yes no:Prop}(ht:∀d,d∈o.looksAt ops->bm s'.t d=bm s.t d)(h:iY ops o s yes no):iY ops o s' yes no:=by
 unfold iY at h ⊢;split at h
 ·exact h
 ·rename_i j want hg
  split at h
  ·rename_i d hd
   have:bm s'.t d=bm s.t d:=ht d (by unfold Oper.looksAt;rw[hg];simp [hd]);rw[this];exact h
  ·exact h.elim
theorem Ot{m:Bool}{o:Oper}{s s':St}{x:AV}{J:an3 ao}(ht:∀d,d∈o.looksAt ops->bm s'.t d=bm s.t d)(hh:s'.h=s.h)(h:mf m P ops o s x J):mf m P ops o s' x J:=by
 have de:∀y∈o.op.operands,ev s y=ev s' y:=λy hy=>by
  cases y with
  |tmp t=>exact(ht t (by unfold Oper.looksAt;refine anR.2 (.inl (List.mem_filterMap.2 ⟨.tmp t,Array.mem_toList_iff.2 hy,rfl⟩)))).symm
  |_=>rfl
 rcases h with⟨g,hc⟩|⟨g,e1,e2⟩
 ·refine .inl ⟨vj ht g,?_⟩;rw[hh];have uS:∀h C,jM P o (ev s) h C=jM P o (ev s') h C:=λh C=>P6 de;unfold dX at hc ⊢;split at hc
  ·exact⟨hc.1,λh' hh C hC=>uS h' C▸hc.2 h' hh C hC⟩
  ·exact⟨hc.1,λh' hh C hC=>uS _ C▸hc.2 h' hh C hC⟩
  ·obtain⟨B,kB,a,b,c⟩:=hc;exact⟨B,kB,a,b,λh' C hC=>uS h' C▸c h' C hC⟩
  ·exact⟨hc.1,λC hC=>uS _ C▸hc.2 C hC⟩
  ·exact⟨hc.1,λe C hC=>uS _ C▸hc.2 e C hC⟩
  ·exact⟨hc.1,λC hC=>uS _ C▸hc.2 C hC⟩
  ·obtain⟨e0,a,b⟩:=hc;exact⟨e0,a,λC hC=>uS _ C▸b C hC⟩
  ·exact λC hC=>uS _ C▸hc C hC
  ·exact hc.elim
 ·exact .inr ⟨vj ht g,e1,e2.trans hh.symm⟩
theorem ZZ{o:Oper}(h:cm o=7):False:=by
 unfold cm at h
 repeat' (first|(split at h)|cases h)
 all_goals (cases hg:pF _<;>rw[hg]at h<;>cases h)
theorem ad8{m:Bool}{o:Oper}{ρ:Operand->AV}{h J:an3 ao}{x:AV}(h7:nh m o=false)(h0:dX m P o ρ h x J):iW h J:=by
 unfold dX at h0;unfold jA at h0;rw[h7]at h0;simp only[cond_false]at h0;split at h0
 ·rw[h0.1];exact iW.refl _
 ·rw[h0.1];exact iW.refl _
 ·obtain⟨B,kB,_,e,_⟩:=h0;rw[e];exact(iA.app kB).i
 ·exact h0.1.i
 ·rw[h0.1];exact iW.refl _
 ·exact h0.1.2.2.i
 ·obtain⟨e0,e,_⟩:=h0;rw[e];exact iW.app _ _
 ·next e=>exact(ZZ e).elim
 ·exact h0.elim
theorem ahp{m:Bool}{o:Oper}{ρ:Operand->AV}{h J:an3 ao}{x:AV}(h7:nh m o=false)(hk:cm o≠6)(h0:dX m P o ρ h x J):iW J h:=by
 unfold dX at h0;unfold jA at h0;rw[h7]at h0;simp only[cond_false]at h0;split at h0
 ·rw[h0.1];exact iW.refl _
 ·rw[h0.1];exact iW.refl _
 ·obtain⟨B,kB,_,e,_⟩:=h0;rw[e];exact(iA.app kB).j
 ·exact h0.1.j
 ·rw[h0.1];exact iW.refl _
 ·exact h0.1.2.2.j
 ·next e=>exact(hk e).elim
 ·next e=>exact(ZZ e).elim
 ·exact h0.elim
def yp(m:Bool)(a b:Oper):Bool:=(m&&((nh m a&&(!nh m b&&cm b==0))||(nh m b&&(!nh m a&&cm a==0))))|| !nh m a&& !nh m b&&(cm a==0||(cm b==0&& !(cm a==6))||((cm a==1||cm a==4)&&(cm b==1||cm b==4||cm b==2||cm b==6))||(cm a==1&&cm b==5)||(cm a==5&&cm b==1))
theorem amX{m:Bool}{oi oj:Oper}{s:St}{xi xj:AV}{hi hj:an3 ao}(J5:oi.apart ops oj=true)(iI:yp m oi oj=true)(J:mf m P ops oi s xi hi)(h2:mf m P ops oj ((s.wh hi).put oi.dst xi) xj hj):
 ∃iX,mf m P ops oj s xj iX/\mf m P ops oi ((s.wh iX).put oj.dst xj) xi hj:=by
 obtain⟨a1,a2,a3⟩:=Oper.apart_spec J5;have tj:∀d,d∈oj.looksAt ops->bm s.t d=bm ((s.wh hi).put oi.dst xi).t d:=λd hd=>by
  rw[sI,if_neg (λe=>a1 d e.1 hd)];rfl
 have ti:∀(h':an3 ao) d,d∈oi.looksAt ops->bm ((s.wh h').put oj.dst xj).t d=bm s.t d:=λh' d hd=>by
  rw[sI,if_neg (λe=>a3 d e.1 hd)];rfl
 have e9:((s.wh hi).put oi.dst xi).h=hi:=by rw[Fq];rfl
 have pL:∀h',((s.wh h').put oj.dst xj).h=h':=λh'=>by rw[Fq];rfl
 have same:hi=s.h->mf m P ops oj s xj hj:=λe=>Ot tj (by rw[e9,e]) h2;have evi:∀h',∀y∈oi.op.operands,ev ((s.wh h').put oj.dst xj) y=ev s y:=λh' y hy=>by
  cases y with
  |tmp t=>exact ti h' t (by unfold Oper.looksAt;refine anR.2 (.inl (List.mem_filterMap.2 ⟨.tmp t,Array.mem_toList_iff.2 hy,rfl⟩)))
  |_=>rfl
 have evj:∀y∈oj.op.operands,ev ((s.wh hi).put oi.dst xi) y=ev s y:=λy hy=>by
  cases y with
  |tmp t=>exact(tj t (by unfold Oper.looksAt;refine anR.2 (.inl (List.mem_filterMap.2 ⟨.tmp t,Array.mem_toList_iff.2 hy,rfl⟩)))).symm
  |_=>rfl
 have ci:∀h' h C,jM P oi (ev ((s.wh h').put oj.dst xj)) h C=jM P oi (ev s) h C:=λh' h C=>P6 (evi h');have cj:∀h C,jM P oj (ev ((s.wh hi).put oi.dst xi)) h C=jM P oj (ev s) h C:=λh C=>P6 evj;unfold yp at iI;rw[Bool.or_eq_true]at iI;rcases J with⟨g1,o1⟩|⟨g1,e1,e2⟩
 ·rcases h2 with⟨g2,o2⟩|⟨g2,f1,f2⟩
  ·rcases iI with iI|iI
   ·
    rw[ang,Bool.or_eq_true,ang,ang,ang,ang,Bool.not_eq_true',Bool.not_eq_true',beq_iff_eq,beq_iff_eq]at iI;obtain⟨hm,iI⟩:=iI;have tM:∀h',iY ops oi ((s.wh h').put oj.dst xj) True False:=λh'=>vj (ti h') g1;have Gv:iY ops oj s True False:=vj tj g2;rcases iI with⟨CF,lj,kj⟩|⟨haj,li,ki⟩
    ·have nL:jA m oj=0:=by unfold jA;rw[lj];exact kj
     have lq:jA m oi=7:=by unfold jA;rw[CF];rfl
     unfold dX at o1 o2;rw[lq]at o1;rw[nL]at o2;simp only at o1 o2;obtain⟨e,o2⟩:=o2;rw[e9]at e;refine⟨s.h, .inl ⟨Gv,?_⟩, .inl ⟨tM s.h,?_⟩⟩
     ·unfold dX;rw[nL];exact⟨rfl,λh' _ C hC=>by rw[<-cj];exact o2 h' (.inl hm) C hC⟩
     ·unfold dX;rw[lq,pL];exact λC hC=>by rw[ci];exact o1 C (e▸hC)
    ·have lq:jA m oi=0:=by unfold jA;rw[li];exact ki
     have nL:jA m oj=7:=by unfold jA;rw[haj];rfl
     unfold dX at o1;rw[lq]at o1;simp only at o1;obtain⟨e,o1⟩:=o1;refine⟨hj,same e, .inl ⟨tM hj,?_⟩⟩;unfold dX;rw[lq];exact⟨(pL hj).symm,λh' _ C hC=>by rw[ci];exact o1 h' (.inl hm) C hC⟩
   rw[ang,ang,Bool.not_eq_true',Bool.not_eq_true']at iI;obtain⟨⟨li,lj⟩,iI⟩:=iI;have lq:jA m oi=cm oi:=by unfold jA;rw[li];rfl
   have nL:jA m oj=cm oj:=by unfold jA;rw[lj];rfl
   have tM:∀h',iY ops oi ((s.wh h').put oj.dst xj) True False:=λh'=>vj (ti h') g1;have Gv:iY ops oj s True False:=vj tj g2;by_cases k0:cm oi=0
   ·unfold dX at o1;rw[lq,k0]at o1;simp only at o1;obtain⟨e,o1⟩:=o1;refine⟨hj,same e, .inl ⟨tM hj,?_⟩⟩;unfold dX;rw[lq,k0];have hv:iW s.h hj:=by
     have:=ad8 lj o2;rw[e9,e]at this;exact this
    exact⟨(pL hj).symm,λh' hh C hC=>by rw[pL]at hh;rw[ci];exact o1 h' (hh.imp id λhh=>hv.trans hh) C hC⟩
   ·by_cases k1:cm oj=0
    ·unfold dX at o2;rw[nL,k1]at o2;simp only at o2;obtain⟨e,o2⟩:=o2;rw[e9]at e o2;have k6:cm oi≠6:=λk6=>by
      simp [k6,k1]at iI
     have hv:=ahp li k6 o1;refine⟨s.h, .inl ⟨Gv,?_⟩, .inl ⟨tM s.h,?_⟩⟩
     ·unfold dX;rw[nL,k1];exact⟨rfl,λh' hh C hC=>by rw[<-cj];exact o2 h' (hh.imp id λhh=>hv.trans hh) C hC⟩
     ·rw[e];unfold dX at o1 ⊢;rw[pL];simp only[ci];exact o1
    ·by_cases Yo:cm oi=1/\cm oj=5
     ·obtain⟨ka,kb⟩:=Yo;unfold dX at o1 o2;rw[lq,ka]at o1;rw[nL,kb]at o2;simp only at o1 o2;obtain⟨e,o1⟩:=o1;obtain⟨⟨c1,c2,_⟩,o2⟩:=o2;rw[e9,e]at c1 c2;refine⟨hj,same e, .inl ⟨tM hj,?_⟩⟩;unfold dX;rw[lq,ka];simp only;refine⟨(pL hj).symm,λh' hh C hC=> ?_⟩;rw[pL]at hh;rw[ci];exact o1 h' (λn cs hn hq=>hh n cs (c1 n cs hn hq) hq) C hC
     by_cases TB:cm oi=5/\cm oj=1
     ·obtain⟨ka,kb⟩:=TB;unfold dX at o1 o2;rw[lq,ka]at o1;rw[nL,kb]at o2;simp only at o1 o2;obtain⟨⟨c1,c2,c3⟩,o1⟩:=o1;obtain⟨e,o2⟩:=o2;rw[e9]at e o2;refine⟨s.h, .inl ⟨Gv,?_⟩, .inl ⟨tM s.h,?_⟩⟩
      ·unfold dX;rw[nL,kb];simp only;exact⟨trivial,λh' hh C hC=>by rw[<-cj];exact o2 h' (λn cs hn hq=>hh n cs (c2 n cs hn hq) hq) C hC⟩
      ·rw[e];unfold dX;rw[lq,ka];simp only;rw[pL];exact⟨⟨c1,c2,c3⟩,λC hC=>by rw[ci];exact o1 C hC⟩
     have hc:(cm oi=1\/cm oi=4)/\(cm oj=1\/cm oj=4\/cm oj=2\/cm oj=6):=by
      simp only[Bool.or_eq_true,ang,beq_iff_eq,k0,k1,false_or,false_and]at iI;rcases iI with(iI|iI)|iI
      ·refine⟨iI.1,?_⟩;rcases iI.2 with((h|h)|h)|h
       ·exact .inl h
       ·exact .inr (.inl h)
       ·exact .inr (.inr (.inl h))
       ·exact .inr (.inr (.inr h))
      ·exact absurd iI Yo
      ·exact absurd iI TB
     have q1:hi=s.h/\∀e(C:AV->an3 ao->Prop),C xi (s.h++e)->jM P oi (ev s) (s.h++e) C:=by
      unfold dX at o1;rcases hc.1 with k|k
      ·rw[lq,k]at o1;exact⟨o1.1,λe C hC=>o1.2 _ (jd.app _ _) C hC⟩
      ·rw[lq,k]at o1;exact o1
     have q2:∃e0,hj=s.h++e0:=by
      have sA:=o2;unfold dX at sA;rcases hc.2 with k|k|k|k
      ·rw[nL,k]at sA;exact⟨[],by rw[sA.1,e9,q1.1,anA]⟩
      ·rw[nL,k]at sA;exact⟨[],by rw[sA.1,e9,q1.1,anA]⟩
      ·rw[nL,k]at sA;obtain⟨B,_,_,b,_⟩:=sA;exact⟨[B],by rw[b,e9,q1.1]⟩
      ·rw[nL,k]at sA;obtain⟨e0,b,_⟩:=sA;exact⟨e0,by rw[b,e9,q1.1]⟩
     obtain⟨e0,Cf⟩:=q2;refine⟨hj,same q1.1, .inl ⟨tM hj,?_⟩⟩;have:∀e(C:AV->an3 ao->Prop),C xi (hj++e)->jM P oi (ev ((s.wh hj).put oj.dst xj)) (hj++e) C:=λe C hC=>by
      rw[ci,Cf,anv];rw[Cf,anv]at hC;exact q1.2 _ C hC
     unfold dX;rw[pL];rcases hc.1 with k|k
     ·rw[lq,k];simp only;refine⟨trivial,λh' hh C hC=> ?_⟩;rw[ci];unfold dX at o1;rw[lq,k]at o1;exact o1.2 h' (λn cs hn hq=>hh n cs (by rw[Cf];exact jd.app _ _ n cs hn hq) hq) C hC
     ·rw[lq,k];exact⟨rfl,this⟩
  ·
   subst f1;rw[e9]at f2;refine⟨s.h, .inr ⟨vj tj g2,rfl,rfl⟩,?_⟩;rw[f2];exact Ot (ti s.h) (by rw[pL]) (.inl ⟨g1,o1⟩)
 ·
  subst e1;refine⟨hj,same e2, .inr ⟨vj (ti hj) g1,rfl,(pL hj).symm⟩⟩
def rp(K:St->Prop):Prop:=∀s s',jn s s'->K s->K s'
def kI(m:Bool)(P:an6)(ops:Array Oper)(K:St->Prop):Nat->Array Bool->St->Prop
 |0,listed,s=>Region.ready .any ops listed=[]/\K s
 |fuel+1,listed,s=>
  (Region.ready .any ops listed=[]->K s)/\
  ∀i∈Region.ready .any ops listed,∀o,ops[i]?=some o->∃x J,mf m P ops o s x J/\kI m P ops K fuel (listed.setIfInBounds i true) ((s.wh J).put o.dst x)
theorem Vx{m:Bool}{K:St->Prop}(hK:rp K):∀(fuel:Nat)(listed:Array Bool)(s s':St),jn s s'->kI m P ops K fuel listed s->kI m P ops K fuel listed s'
 |0,_,s,s',hs,h=>⟨h.1,hK s s' hs h.2⟩
 |fuel+1,_,s,s',hs,h=>⟨λh0=>hK s s' hs (h.1 h0),λi hi o ho=>by
  obtain⟨x,J,h2,h3⟩:=h.2 i hi o ho;exact⟨x,J,Ot (λd _=>(hs.t d).symm) hs.h.symm h2,Vx hK fuel _ _ _ (hs.put J o.dst x) h3⟩⟩
def oH(M:Array Nat)(ops:Array Oper):Bool:=
 (List.range ops.size).all λj=>(List.range ops.size).all λi=> !(M.getD j 0).testBit i||match ops[j]? with
  |some o=>o.after.any λe=>Region.binds .any e&&decide (e.on<j)&&(e.on==i||(M.getD e.on 0).testBit i)
  |none=>false
def Dn(ops:Array Oper)(listed:Array Bool):Prop:=∀(j:Nat)(o:Oper),ops[j]?=some o->listed.getD j false=true->∀e∈o.after,Region.binds .any e=true->listed.getD e.on false=true
theorem aeV{M:Array Nat}(hM:oH M ops=true){listed:Array Bool}(hD:Dn ops listed):∀(j i:Nat)(o:Oper),i<ops.size->ops[j]?=some o->(∀e∈o.after,Region.binds .any e=true->listed.getD e.on false=true)->(M.getD j 0).testBit i=true->listed.getD i false=true:=by
 intro j
 induction j using Nat.strongRecOn with
 |_ j ih=>
  intro i o hi ho hp hb;unfold oH at hM;simp only[anF,List.mem_range]at hM;have J:=hM j (ant.1 ho).1 i hi;rw[hb,ho]at J;simp only[Bool.not_true,Bool.false_or]at J;rw[Array.any_eq_true']at J;obtain⟨e,he,h2⟩:=J;simp only[ang,decide_eq_true_eq,Bool.or_eq_true,beq_iff_eq]at h2;obtain⟨⟨Ai,aI⟩,h3⟩:=h2;have hl:=hp e he Ai;rcases h3 with h3|h3
  ·rw[<-h3];exact hl
  ·have Ji:e.on<ops.size:=Nat.lt_trans aI (ant.1 ho).1;exact ih e.on aI i ops[e.on] hi (anB Ji) (hD e.on _ (anB Ji) hl) h3
theorem Dn.set{listed:Array Bool}(hD:Dn ops listed){i:Nat}(hr:i∈Region.ready .any ops listed):Dn ops (listed.setIfInBounds i true):=by
 intro j o ho hj e he hb;refine getD_set_true ?_;by_cases rj:i=j
 ·subst rj;obtain⟨_,o',nq,fu⟩:=mem_ready.1 hr;rw[ho]at nq;cases nq;exact fu e he hb
 ·rw[getD_set_ne false rj]at hj;exact hD j o ho hj e he hb
theorem IZ{m:Bool}{K:St->Prop}(hK:rp K){M:Array Nat}(hM:oH M ops=true){i:Nat}{oi:Oper}{x:AV}{J:an3 ao}(hi:ops[i]?=some oi):
 ∀(fuel:Nat)(listed:Array Bool)(s:St),Dn ops listed->
  (∀j oj,ops[j]?=some oj->j≠i->listed.getD j true=false->(M.getD j 0).testBit i=false->oi.apart ops oj=true/\yp m oi oj=true)->
  i∈Region.ready .any ops listed->mf m P ops oi s x J->kI m P ops K fuel (listed.setIfInBounds i true) ((s.wh J).put oi.dst x)->kI m P ops K (fuel+1) listed s:=by
 intro fuel
 induction fuel generalizing x J with
 |zero=>
  intro listed s _ _ hr hy H;refine⟨λh=>(by rw[h]at hr;cases hr),λj hj o ho=> ?_⟩;by_cases vg:j=i
  ·subst vg;rw[hi]at ho;cases ho;exact⟨x,J,hy,H⟩
  ·have:=ready_mono hj vg;rw[H.1]at this;cases this
 |succ fuel ih=>
  intro listed s hD Ws hr hy H;refine⟨λh=>(by rw[h]at hr;cases hr),λj hj oj By=> ?_⟩;by_cases vg:j=i
  ·subst vg;rw[hi]at By;cases By;exact⟨x,J,hy,H⟩
  ·obtain⟨xj,hj1,NQ,H2⟩:=H.2 j (ready_mono hj vg) oj By;obtain⟨Vr,oj',Yi,fu⟩:=mem_ready.1 hj;rw[By]at Yi;cases Yi;have ajS:=(ant.1 hi).1;have o9:listed.getD i false=false:=by
    have h0:=(mem_ready.1 hr).1;rcases Nat.lt_or_ge i listed.size with h'|h'
    ·simpa [h']using h0
    ·simp [Array.getElem?_eq_none h']at h0
   have j5:(M.getD j 0).testBit i=false:=by
    cases hb:(M.getD j 0).testBit i with
    |false=>rfl
    |true=>rw[aeV hM hD j i oj ajS By fu hb]at o9;cases o9
   obtain⟨J5,iI⟩:=Ws j oj By vg Vr j5;obtain⟨iX,s1,s2⟩:=amX J5 iI hy NQ;obtain⟨_,a2,_⟩:=Oper.apart_spec J5;refine⟨xj,iX,s1,ih (listed.setIfInBounds j true) _ (hD.set hj) (λk ok hk LL VL sS=> ?_) (ready_mono hr (Ne.symm vg)) s2 ?_⟩
   ·refine Ws k ok hk LL ?_ sS;by_cases K1:j=k
    ·subst K1;exact Vr
    ·rw[getD_set_ne true K1]at VL;exact VL
   ·rw[Array.setIfInBounds_comm _ _ vg];exact Vx hK _ _ _ _ (aji s J iX hj1 x xj (λk hk=>a2 k hk)) H2
def Wq(M:Array Nat)(ops:Array Oper)(k:Nat):Bool:=
 match ops[k]? with
 |none=>false
 |some oi=>(List.range ops.size).all λj=>decide (j<=k)||(M.getD j 0).testBit k||match ops[j]? with
  |some oj=>oi.apart ops oj&&yp false oi oj
  |none=>true
def DS(M:Array Nat)(ops:Array Oper):Nat->Nat->Array Bool->Bool
 |0,_,listed=>(Region.ready .any ops listed).isEmpty
 |fuel+1,k,listed=>(Region.ready .any ops listed).contains k&&Wq M ops k&&DS M ops fuel (k+1) (listed.setIfInBounds k true)
def qk(ops:Array Oper):Bool:=oH (Region.before ops) ops&&DS (Region.before ops) ops ops.size 0 (Array.replicate ops.size false)
theorem Ua{K K':St->Prop}(hK:rp K')(C2:∀s,K s->K' s){M:Array Nat}(hM:oH M ops=true):∀(l:an3 Oper)(k:Nat)(listed:Array Bool)(s:St),(∀j,l[j]?=ops[k+j]?)->(∀j,j<k->listed.getD j true=true)->Dn ops listed->
 DS M ops l.length k listed=true->CO P ops l K s->kI false P ops K' l.length listed s
 |[],_,_,_,_,_,_,hB,h=>⟨by simpa [DS]using hB,C2 _ h⟩
 |o::l,k,listed,s,hl,j7,hD,hB,h=>by
  have h0:ops[k]?=some o:=by simpa using (hl 0).symm
  simp only[anh,DS,ang]at hB;obtain⟨⟨hr,hf⟩,dC⟩:=hB;have px:k∈Region.ready .any ops listed:=by simpa using hr
  have pI:∀j,l[j]?=ops[k+1+j]?:=λj=>by have:=hl (j+1);simpa [Nat.add_assoc,Nat.add_comm 1 j]using this
  have ahh:∀j,j<k+1->(listed.setIfInBounds k true).getD j true=true:=λj hj=>by
   by_cases e:k=j
   ·subst e;rcases Nat.lt_or_ge k listed.size with h'|h'
    ·simp [h']
    ·have:(listed.setIfInBounds k true)[k]?=none:=Array.getElem?_eq_none (by simpa using h');rw[Array.getD_eq_getD_getElem?,this];rfl
   ·rw[getD_set_ne true e];exact j7 j (by omega)
  obtain⟨x,J,hy,As⟩:∃x J,mf false P ops o s x J/\CO P ops l K ((s.wh J).put o.dst x):=by
   rcases GG h with⟨g,hd⟩|⟨g,hd⟩
   ·obtain⟨x,J,h2,h3⟩:=HJ hd;exact⟨x,J, .inl ⟨g,h2⟩,h3⟩
   ·exact⟨_,s.h, .inr ⟨g,rfl,rfl⟩,hd⟩
  refine IZ hK hM h0 l.length listed s hD (λj oj hj cA o9 sS=> ?_) px hy (Ua hK C2 hM l (k+1) _ _ pI ahh (hD.set px) dC As);unfold Wq at hf;rw[h0]at hf;simp only[anF,List.mem_range]at hf;have:=hf j (ant.1 hj).1;rw[sS,hj]at this;simp only[Bool.or_false,Bool.or_eq_true,ang,decide_eq_true_eq]at this;rcases this with this|this
  ·exfalso;have:=j7 j (by omega);rw[this]at o9;cases o9
  ·exact this
def V5(ops:Array Oper):Nat->Array Bool->an3 Nat
 |0,_=>[]
 |f+1,listed=>match (Region.ready .any ops listed).find? (λk=>match ops[k]? with|some o=> !(cm o==6)&& !JZ o|none=>false)with
  |some k=>k::V5 ops f (listed.setIfInBounds k true)
  |none=>match Region.ready .any ops listed with
   |k::_=>k::V5 ops f (listed.setIfInBounds k true)
   |[]=>[]
def E6(m:Bool)(M:Array Nat)(ops:Array Oper):an3 Nat->Array Bool->Bool
 |[],listed=>(Region.ready .any ops listed).isEmpty
 |k::l,listed=>(Region.ready .any ops listed).contains k&&(match ops[k]? with
  |none=>false
  |some oi=>(List.range ops.size).all λj=>j==k||listed.getD j true||(M.getD j 0).testBit k||match ops[j]? with
   |some oj=>oi.apart ops oj&&yp m oi oj
   |none=>true)&&E6 m M ops l (listed.setIfInBounds k true)
def EL(m:Bool)(ops:Array Oper)(p:an3 Nat):Bool:=oH (Region.before ops) ops&&E6 m (Region.before ops) ops p (Array.replicate ops.size false)
def sx(ops:Array Oper):an3 Nat->an3 Oper
 |[]=>[]
 |k::l=>match ops[k]? with
  |some o=>o::sx ops l
  |none=>sx ops l
theorem TN{m:Bool}{K K':St->Prop}(hK:rp K')(C2:∀s,K s->K' s){M:Array Nat}(hM:oH M ops=true):∀(l:an3 Nat)(listed:Array Bool)(s:St),Dn ops listed->
 E6 m M ops l listed=true->uD m P ops (sx ops l) K s->kI m P ops K' l.length listed s
 |[],_,_,_,hB,h=>⟨by simpa [E6]using hB,C2 _ h⟩
 |k::l,listed,s,hD,hB,h=>by
  simp only[E6,ang]at hB;obtain⟨⟨hr,hf⟩,dC⟩:=hB;have px:k∈Region.ready .any ops listed:=by simpa using hr
  obtain⟨_,o,h0,_⟩:=mem_ready.1 px;rw[h0]at hf;simp only[anF,List.mem_range]at hf;simp only[sx,h0]at h;obtain⟨x,J,hy,As⟩:∃x J,mf m P ops o s x J/\uD m P ops (sx ops l) K ((s.wh J).put o.dst x):=by
   rcases GG h with⟨g,hd⟩|⟨g,hd⟩
   ·obtain⟨x,J,h2,h3⟩:=HJ hd;exact⟨x,J, .inl ⟨g,h2⟩,h3⟩
   ·exact⟨_,s.h, .inr ⟨g,rfl,rfl⟩,hd⟩
  refine IZ hK hM h0 l.length listed s hD (λj oj hj cA o9 sS=> ?_) px hy (TN hK C2 hM l _ _ (hD.set px) dC As);have:=hf j (ant.1 hj).1;rw[sS,o9,hj]at this;simp only[Bool.or_false,Bool.or_eq_true,ang,beq_iff_eq]at this;rcases this with this|this
  ·exact absurd this cA
  ·exact this
end
section
variable {P:an6} {r:an5 Nat} {n N0:Nat} {G:Gh} {w:an8} {a:Act} {s:St} {o:Oper} {Q:Exit->St->Prop}
theorem cJ.drew(hs:cJ G w a s):bI G.N G w G {w with drawn:=w.drawn+1}/\cJ G {w with drawn:=w.drawn+1} a s:=by
 have hE:bI G.N G w G {w with drawn:=w.drawn+1}:=⟨anp _,λ_ _ h=>h,λ_ _ _=>rfl,λ_ _=>rfl,λ_ _=> .inl ⟨rfl,rfl⟩,gU rfl,λ_ _=>rfl,rfl,rfl,rfl,λ_ _ h=> .inl h⟩;have hi:bJ G {w with drawn:=w.drawn+1} s.h:=⟨hs.inv.len,hs.inv.z,hs.inv.S,λn B hB=>dP.keep (hs.inv.lt hB) hE (anp _) ⟨rfl,rfl,rfl⟩ (λ_ _=>⟨rfl,λ_ h=>h⟩) (hs.inv.cV n B hB),hs.inv.inj,hs.inv.gl.keep hE⟩;exact⟨hE,hs.move hE (anp _) hi⟩
theorem agl{m:Bool}{x:AV}{J:an3 ao}(h:dX m P o (ev s) s.h x J):jM P o (ev s) s.h (λx' h'=>(s.wh h').put o.dst x'=(s.wh J).put o.dst x):=Wk h _ rfl
theorem Da{m:Bool}{ops:Array Oper}{K:St->Prop}{Q':Exit->Act->an8->Prop}(hQ:∀a' w',iS N0 G w K a' w'->Q' .normal a' w'):∀(fuel:Nat)(listed:Array Bool)(G1:Gh)(w1:an8)(a:Act)(s:St),
 bI N0 G w G1 w1->N0<=G1.N->cJ G1 w1 a s->kI m P ops K fuel listed s->wpAnyIn (WF r) n P .any ops Q' fuel listed a w1
 |0,_,G1,w1,a,s,hE,hN,hs,h=>⟨h.1,hQ _ _ ⟨G1,s,hE,hN,hs,h.2⟩⟩
 |fuel+1,listed,G1,w1,a,s,hE,hN,hs,h=>by
  refine⟨λh0=>hQ _ _ ⟨G1,s,hE,hN,hs,h.1 h0⟩,λi hi=> ?_⟩;obtain⟨_,o,ho,_⟩:=mem_ready.1 hi;obtain⟨x,J,hy,As⟩:=h.2 i hi o ho;unfold wpOpIn;rw[ho];simp only;rcases hy with⟨g,hc⟩|⟨g,rfl,rfl⟩
  ·have hg:=Nr hs g;split at hg
   ·rename_i hw
    rw[if_pos hw];refine Oper.wpIn_mono (λa' w' hn=> ?_) ((agl hc).elim (λk=>aaz (K:=λs'=>s'=(s.wh J).put o.dst x) (r:=r) (n:=n) (N0:=N0) (Q:=Q') hs hN k) fun⟨_,va,x',h',p,k1,k2,k3⟩=>XI (K:=λs'=>s'=(s.wh J).put o.dst x) (r:=r) (n:=n) (N0:=N0) (Q:=Q') hs hN ⟨va,x',h',p,k1,k2,k3⟩);obtain⟨G2,s2,e2,n2,vz,rfl⟩:=hn;exact Da hQ fuel _ G2 w' a' _ (hE.trans e2) n2 vz As
   ·exact hg.elim
  ·have hg:=Nr hs g;split at hg
   ·exact hg.elim
   ·rename_i hw
    rw[if_neg hw];exact⟨λ_ _=>trivial,Da hQ fuel _ G1 w1 _ _ hE hN (hs.put (.d (.v undef)) o.dst) As⟩
theorem HL{id:Nat}{l:an3 Oper}(hm:P.follows .mixedOrders=true)(hl:qk l.toArray=true)(h:CO P l.toArray l (Q .normal) s):bw P r N0 (.region id l.toArray true) Q s:=by
 constructor
 intro G w a n hs hN;unfold qk at hl;rw[ang]at hl;obtain⟨d1,d2⟩:=hs.drew;refine wpIn_region_any hm ?_;have hC:rp (λs=>∃s',jn s' s/\Q .normal s'):=λs s' e ⟨s0,e0,h0⟩=>⟨s0,e0.trans e,h0⟩;have:=Ua (K:=Q .normal) hC (λs h=>⟨s,jn.refl s,h⟩) hl.1 l 0 (Array.replicate l.toArray.size false) s (by simp) (λj hj=>absurd hj (anH _)) (λj o ho hj=>by
  exfalso;rw[Array.getD_eq_getD_getElem?]at hj;rw[Array.getElem?_replicate]at hj;split at hj<;>simp at hj) (by simpa using hl.2) h
 refine Da (G:=G) (w:=w) (N0:=N0) (K:=λs=>∃s',jn s' s/\Q .normal s') (λa' w' hn=> ?_) l.toArray.size _ G _ a s (d1.less hN) hN d2 (by simpa using this);obtain⟨G',s',x1,x2,x3,s0,e0,x4⟩:=hn;refine⟨G',s0,x1,x2,⟨x3.size.trans e0.n.symm,λi=>by rw[e0.t i];exact x3.tmp i,by rw[e0.h];exact x3.inv,x3.df⟩,x4⟩
theorem Th{m:Bool}{id:Nat}{ops:Array Oper}(p:an3 Nat)(hm:P.follows .mixedOrders=true)(hz:p.length=ops.size)(hl:EL m ops p=true)(h:uD m P ops (sx ops p) (Q .normal) s):bw P r N0 (.region id ops true) Q s:=by
 constructor
 intro G w a n hs hN;unfold EL at hl;rw[ang]at hl;obtain⟨d1,d2⟩:=hs.drew;refine wpIn_region_any hm ?_;have hC:rp (λs=>∃s',jn s' s/\Q .normal s'):=λs s' e ⟨s0,e0,h0⟩=>⟨s0,e0.trans e,h0⟩;have:=TN (K:=Q .normal) hC (λs h=>⟨s,jn.refl s,h⟩) hl.1 p (Array.replicate ops.size false) s (λj o ho hj=>by
  exfalso;rw[Array.getD_eq_getD_getElem?]at hj;rw[Array.getElem?_replicate]at hj;split at hj<;>simp at hj) hl.2 h
 rw[hz]at this;refine Da (G:=G) (w:=w) (N0:=N0) (K:=λs=>∃s',jn s' s/\Q .normal s') (λa' w' hn=> ?_) ops.size _ G _ a s (d1.less hN) hN d2 this;obtain⟨G',s',x1,x2,x3,s0,e0,x4⟩:=hn;refine⟨G',s0,x1,x2,⟨x3.size.trans e0.n.symm,λi=>by rw[e0.t i];exact x3.tmp i,by rw[e0.h];exact x3.inv,x3.df⟩,x4⟩
end
def am2(want:Bool):AV->Bool
 | .d (.v (.bool b))=>b==want
 |_=>false
def gNo(want:Bool):AV->Bool
 | .d (.v (.bool b))=>b== !want
 | .d (.v (.tuple _))=>true
 |_=>false
def aeh(t:an3 (Nat×AV)):an5 Nat->AV
 |some d=>bm t d
 |none=> .dead
def uc(ops:Array Oper)(j:Nat)(t:an3 (Nat×AV)):AV:=aeh t ((ops[j]?).bind (·.dst))
section
variable {P:an6} {ops:Array Oper} {dst:an5 Nat} {op:Op} {ty:TypeId} {pos:String} {after:Array Edge} {j:Nat} {w:Bool} {s:St} {rest:an3 Oper} {K:St->Prop} {y n:Prop}
theorem Kl:iY ops ⟨dst,op,ty,pos,after,some (j,w)⟩ s y n=(match uc ops j s.t with
 | .d (.v (.bool b))=>(b=w->y)/\(b= !w->n)
 | .d (.v (.tuple _))=>n
 |_=>False):=by
 show(match (ops[j]?).bind (·.dst)with
  |some d=>match bm s.t d with
   | .d (.v (.bool b))=>(b=w->y)/\(b= !w->n)
   | .d (.v (.tuple _))=>n
   |_=>False
  |none=>False)=_
 unfold uc;cases (ops[j]?).bind (·.dst)<;>rfl
end
section
variable {P:an6} {r:an5 Nat} {n N0:Nat} {G:Gh} {w:an8} {a:Act} {s:St} {o:Oper} {Q:Exit->St->Prop}
theorem bC{K:St->Prop}(h:K s):iL K Q .normal s:=h
theorem kZ{K:St->Prop}{i:Nat}(h:Q (.exit i) s):iL K Q (.exit i) s:=h
theorem cZ{K:St->Prop}(h:Q .ret s):iL K Q .ret s:=h
theorem iM{id:Nat}(h:Q .normal s):qz id Q .normal s:=h
theorem fe{id:Nat}(h:Q .ret s):qz id Q .ret s:=h
theorem qm{id i:Nat}(e:(i==id)=true)(h:Q .normal s):qz id Q (.exit i) s:=by simpa only[qz,e,cond_true]using h
theorem ajD{id i:Nat}(e:(i==id)=false)(h:Q (.exit i) s):qz id Q (.exit i) s:=by simpa only[qz,e,cond_false]using h
theorem lM{c:Operand}{x y:Code}(hc:ev s c= .d (.v (.bool true)))(h:bw P r N0 x Q s):bw P r N0 (.cond c x y) Q s:=QA hc (λ_=>h) λh=>Bool.noConfusion h
theorem lA{c:Operand}{x y:Code}(hc:ev s c= .d (.v (.bool false)))(h:bw P r N0 y Q s):bw P r N0 (.cond c x y) Q s:=QA hc (λh=>Bool.noConfusion h) λ_=>h
theorem eE{c:Operand}{x y:Code}{t:Bool}(hc:ev s c= .d (.v (.bool t)))(e:t=true)(h:bw P r N0 x Q s):bw P r N0 (.cond c x y) Q s:=lM (by rw[hc,e]) h
theorem ee{c:Operand}{x y:Code}{t:Bool}(hc:ev s c= .d (.v (.bool t)))(e:t=false)(h:bw P r N0 y Q s):bw P r N0 (.cond c x y) Q s:=lA (by rw[hc,e]) h
theorem Li{c:Code}(k:Nat)(e:TypeId)(sz:Nat)(xs:an3 (an3 D))(hx:bm s.t k= .full xs\/(bm s.t k= .d (.v (.slice none 0 0))/\xs=[]))
 (h:bw P r N0 c Q ⟨s.n,(k, .own s.h.length xs)::s.t,s.h++[.front e sz xs.length]⟩):bw P r N0 c Q s:=by
 constructor
 intro G w a n hs hN;have hp:dg G.S w (a.tmps.getD k undef) (.sl xs)/\∃A,a.tmps.getD k undef= .slice A xs.length xs.length:=by
  have hv:=hs.tmp k;revert hv;generalize a.tmps.getD k undef=u;intro hv;rcases hx with hx|⟨hx,rfl⟩
  ·rw[hx]at hv;cases hv with|full _ hp hf=>exact⟨hp,hf⟩
  ·rw[hx]at hv;rw[hv.val];exact⟨D7,none,rfl⟩
 obtain⟨a1,a2,a3,a4⟩:=Ny hs.inv hp.1 hp.2 e sz;have cv:cJ (G.ia (a.tmps.getD k undef) xs.length) w a ⟨s.n,(k, .own s.h.length xs)::s.t,s.h++[.front e sz xs.length]⟩:=by
  refine⟨hs.size,λi=> ?_,a3,hs.df.keep a1⟩;show aD _ _ _ (bm ((k, .own s.h.length xs)::s.t) i);rw[kX];split
  ·next e=>exact e▸a4
  ·exact(hs.tmp i).keep a1 a2
 exact wpIn_mono (h.run _ w a n cv (anw hN a2)) λ_ _ _ hn=>hn.trans (a1.less hN)
end
theorem Wh{G:Gh}{w:an8}{h:an3 ao}{b:Nat}{cs cw:an3 AV}(hi:bJ G w h)(hb:h[b]?=some (.cells cs))(hl:cw.length=cs.length)
 (hc:∀(vs:Array an7)(T:TypeId),w.heap[G.aO b]?=some (.cells vs T (0,0))->∀(i:Nat)(u:an7)(c:AV),vs[i]?=some u->cw[i]?=some c->aD G w u c):bJ G w (h.set b (ao.cells cw)):=by
 have ho:∀n,bH (h.set b (ao.cells cw)) G n=bH h G n:=λn=>by
  have aI:=(ane.1 hb).1;unfold bH;by_cases e:b=n
  ·subst e;rw[anI aI,hb];rfl
  ·rw[anN e]
 refine⟨by rw[List.length_set];exact hi.len,hi.z,hi.S,λn B hB=> ?_,λm n x hm hn=>hi.inj m n x (by rw[<-ho];exact hm) (by rw[<-ho];exact hn),hi.gl⟩;have aI:=(ane.1 hb).1;by_cases e:b=n
 ·subst e;rw[anI aI]at hB;cases hB
  obtain⟨J,h2,vs,T,h3,h4,_⟩:=hi.cV _ _ hb;exact⟨J,h2,vs,T,h3,h4.trans hl.symm,hc vs T h3⟩
 ·rw[anN e]at hB;exact hi.cV n B hB
theorem amd{P:an6}{r:an5 Nat}{N0:Nat}{s:St}{Q:Exit->St->Prop}{c:Code}(b i:Nat)(e:TypeId)(sz:Nat)(xs:an3 (an3 D)){cs:an3 AV}(hb:s.h[b]?=some (.cells cs))(hx:cs[i]?=some (.full xs)\/(cs[i]?=some (.d (.v (.slice none 0 0)))/\xs=[]))
 (h:bw P r N0 c Q ⟨s.n,s.t,(s.h++[ao.front e sz xs.length]).set b (ao.cells (cs.set i (AV.own s.h.length xs)))⟩):bw P r N0 c Q s:=by
 constructor
 intro G w a n hs hN;obtain⟨J,h2,vs,T,h3,h4,h5⟩:=hs.inv.cV _ _ hb;have hi:i<cs.length:=by rcases hx with hx|⟨hx,_⟩<;>exact(ane.1 hx).1
 have hv:vs[i]?=some vs[i]:=anB (by omega);have hp:dg G.S w vs[i] (.sl xs)/\∃A,vs[i]= .slice A xs.length xs.length:=by
  rcases hx with hx|⟨hx,rfl⟩
  ·have:=h5 i _ _ hv hx;generalize vs[i]=u at this;cases this with|full _ hp hf=>exact⟨hp,hf⟩
  ·have:=h5 i _ _ hv hx;rw[this.val];exact⟨D7,none,rfl⟩
 obtain⟨a1,a2,a3,a4⟩:=Ny hs.inv hp.1 hp.2 e sz;have aI:=(ane.1 hb).1;have cv:cJ (G.ia vs[i] xs.length) w a ⟨s.n,s.t,(s.h++[ao.front e sz xs.length]).set b (ao.cells (cs.set i (AV.own s.h.length xs)))⟩:=by
  refine⟨hs.size,λj=>(hs.tmp j).keep a1 a2,Wh a3 (by rw[ano aI];exact hb) (by rw[List.length_set]) λfG T' EA j u c hu hc=> ?_,hs.df.keep a1⟩;have e1:(G.ia vs[i] xs.length).aO b=G.aO b:=by
   have:b≠G.N:=by have:=hs.inv.len;omega
   simp [Gh.ia]
  rw[e1,h3]at EA;cases EA
  by_cases e2:i=j
  ·subst e2;rw[anI hi]at hc;cases hc
   rw[hv]at hu;cases hu
   exact a4
  ·rw[anN e2]at hc;exact(h5 j u c hu hc).keep a1 a2
 exact wpIn_mono (h.run _ w a n cv (anw hN a2)) λ_ _ _ hn=>hn.trans (a1.less hN)
def AV.Le(x y:AV):Prop:=∀(G:Gh)(w:an8)(u:an7),aD G w u x->aD G w u y
theorem AV.Le.refl(x:AV):AV.Le x x:=λ_ _ _ h=>h
theorem AV.Le.full(xs:an3 (an3 D)):AV.Le (.full xs) (.d (.sl xs)):=λ_ _ _ h=>by
 cases h with|full _ hp _=>exact .d hp
theorem AV.Le.nil:AV.Le (.d (.v (.slice none 0 0))) (.d (.sl [])):=λ_ _ _ h=>by
 rw[h.val];exact .d D7
theorem AV.Le.agg{cs ds:an3 AV}(hl:cs.length=ds.length)(h:∀(i:Nat)(c d:AV),cs[i]?=some c->ds[i]?=some d->AV.Le c d):AV.Le (.agg cs) (.agg ds):=λG w u hu=>by
 cases hu with
 |agg vs _ pI hv=>
  refine .agg vs ds (pI.trans hl) λi u d hui hd=> ?_;have aI:i<cs.length:=by rw[hl];exact(ane.1 hd).1
  exact h i _ d (ani aI) hd G w u (hv i u _ hui (ani aI))
set_option linter.unusedSimpArgs false
set_option linter.unusedVariables false
def rn:an3 Nat->Nat->Nat->Nat
 |[],base,i=>base+i
 |j::_,_,0=>j
 |_::l,base,i+1=>rn l base i
theorem yw:∀(l:an3 Nat)(base i:Nat)(j:Nat),l[i]?=some j->rn l base i=j
 |[],_,i,j,h=>by simp at h
 |a::l,base,0,j,h=>by simpa [rn]using h
 |a::l,base,i+1,j,h=>by rw[rn];exact yw l base i j (by simpa using h)
theorem IU:∀(l:an3 Nat)(base i:Nat),l.length<=i->rn l base i=base+(i-l.length)
 |[],base,i,_=>by simp [rn]
 |a::l,base,0,h=>by simp at h
 |a::l,base,i+1,h=>by rw[rn,IU l base i (by simpa using h)];simp
mutual
def AV.aG(σ:Nat->Nat):AV->AV
 | .ptr n off=> .ptr (σ n) off
 | .own n xs=> .own (σ n) xs
 | .row n off len cap k=> .row (σ n) off len cap k
 | .mp n=> .mp (σ n)
 | .cg n=> .cg (σ n)
 | .vec n o len L k=> .vec (σ n) o len L k
 | .dp n i j L k=> .dp (σ n) i j L k
 | .agg cs=> .agg (AV.fR σ cs)
 | .aZ cs=> .aZ (AV.fR σ cs)
 | .fn f cs=> .fn f (AV.fR σ cs)
 | .d x=> .d x
 | .bg xs i off=> .bg xs i off
 | .full xs=> .full xs
 | .hid c=> .hid c
 | .dead=> .dead
def AV.fR(σ:Nat->Nat):an3 AV->an3 AV
 |[]=>[]
 |x::l=>x.aG σ::AV.fR σ l
end
theorem gz(σ:Nat->Nat):∀l,AV.fR σ l=l.map (AV.aG σ)
 |[]=>by simp [AV.fR]
 |x::l=>by simp [AV.fR,gz σ l]
def ao.aG(σ:Nat->Nat):ao->ao
 | .cells cs=> .cells (AV.fR σ cs)
 | .lp ls p as bd cs=> .lp ls p as bd (AV.fR σ cs)
 | .it sn cs=> .it sn (AV.fR σ cs)
 | .eG T cs=> .eG T (AV.fR σ cs)
 | .vec e k cs=> .vec e k (cs.map (AV.fR σ))
 | .front e k len=> .front e k len
 | .ig e b=> .ig e b
 | .map kv=> .map kv
 | .iy kv=> .iy kv
 | .gone=> .gone
def gQ:an3 Nat->an3 ao->an3 ao->an3 ao
 |[],Bs,h=>h++Bs
 |_::_,[],h=>h
 |i::l,B::Bs,h=>gQ l Bs (h.set i B)
structure qP(σ:Nat->Nat)(G G2:Gh):Prop where
 lt:∀n,n<G.N->σ n<G2.N
 aO:∀n,n<G.N->G2.aO (σ n)=G.aO n
 sg:∀n,n<G.N->G2.sg (σ n)=G.sg n
 fl:∀n,n<G.N->G2.fl (σ n)=G.fl n
 ow:∀n,n<G.N->G2.ow (σ n)=G.ow n
 S:∀b o,G2.S b o↔G.S b o
theorem dg.tX{S S':Nat->Nat->Prop}{w:an8}(hS:∀b o,S b o->S' b o){u:an7}{x:D}(h:dg S w u x):dg S' w u x:=h.keep hS (λ_ _ _=>rfl)
theorem aD.aG{σ:Nat->Nat}{G G2:Gh}{w:an8}(hR:qP σ G G2){u:an7}{x:AV}(h:aD G w u x):aD G2 w u (x.aG σ):=by
 have hS:∀b o,G.S b o->G2.S b o:=λb o h=>(hR.S b o).2 h;have fD:∀(vs:Array an7)(cs:an3 AV),(∀(i:Nat)(u:an7)(c:AV),vs[i]?=some u->cs[i]?=some c->aD G2 w u (c.aG σ))->∀(i:Nat)(u:an7)(c:AV),vs[i]?=some u->(AV.fR σ cs)[i]?=some c->aD G2 w u c:=by
  intro vs cs ih i u c hu hc;rw[gz,anl]at hc;cases hx:cs[i]? with
  |none=>rw[hx]at hc;cases hc
  |some x=>rw[hx]at hc;cases hc;exact ih i u x hu hx
 induction h with
 |agg vs cs hl _ ih=>rw[AV.aG];exact .agg vs _ (by rw[gz,anj];exact hl) (fD vs cs ih)
 |aZ vs cs hl _ ih=>rw[AV.aG];exact .aZ vs _ (by rw[gz,anj];exact hl) (fD vs cs ih)
 |fn f vs cs hl _ ih=>rw[AV.aG];exact .fn f vs _ (by rw[gz,anj];exact hl) (fD vs cs ih)
 |d h=>rw[AV.aG];exact .d (h.tX hS)
 |full xs hp hf=>rw[AV.aG];exact .full xs (hp.tX hS) hf
 |ptr n off h=>rw[AV.aG,<-hR.aO n h];exact .ptr _ off (hR.lt n h)
 |row n off len cap k h hl hm=>rw[AV.aG,<-hR.aO n h];exact .row _ off len cap k (hR.lt n h) hl hm
 |mp n h=>rw[AV.aG,<-hR.aO n h];exact .mp _ (hR.lt n h)
 |cg n h=>rw[AV.aG,<-hR.aO n h];exact .cg _ (hR.lt n h)
 |own n xs h hp hle hf=>rw[AV.aG];exact .own _ xs (hR.lt n h) (hp.tX hS) (by rw[hR.fl n h];exact hle) (by rw[hR.fl n h,hR.sg n h];exact hf)
 |vec n o len L k h hs hL hf=>rw[AV.aG];exact .vec _ o len L k (hR.lt n h) hs (by rw[hR.fl n h];exact hL) (by rw[hR.fl n h,hR.sg n h];exact hf)
 |dp n i j L k h hs hL hf=>rw[AV.aG];exact .dp _ i j L k (hR.lt n h) hs (by rw[hR.fl n h];exact hL) (by rw[hR.fl n h,hR.sg n h];exact hf)
 |bg xs i off b o u x hx qW hu=>rw[AV.aG];exact .bg xs i off b o u x hx (λj hj=>⟨hS _ _ (qW j hj).1,(qW j hj).2⟩) (λj d hd=>(hu j d hd).tX hS)
 |hid h J=>rw[AV.aG];exact .hid (h.keep hS (λ_ _ _=>rfl)) J
 |dead u=>rw[AV.aG];exact .dead u
theorem aD.rZ{σ:Nat->Nat}{G G2:Gh}{w:an8}(hR:qP σ G G2){u:an7}{y:AV}(h:aD G2 w u y):∀x:AV,x.aG σ=y->x.aC G.N=true->aD G w u x:=by
 have hS:∀b o,G2.S b o->G.S b o:=λb o h=>(hR.S b o).1 h;have lt:∀n,(!cf G.N n)=true->n<G.N:=λn h=>by rw[Bool.not_eq_true',<-Bool.not_eq_true,c6]at h;omega
 have fD:∀(vs:Array an7)(cs xs:an3 AV),(∀(i:Nat)(u:an7)(c:AV),vs[i]?=some u->cs[i]?=some c->∀x:AV,x.aG σ=c->x.aC G.N=true->aD G w u x)->AV.fR σ xs=cs->AV.kh G.N xs=true->∀(i:Nat)(u:an7)(c:AV),vs[i]?=some u->xs[i]?=some c->aD G w u c:=by
  intro vs cs xs ih e hb i u c hu hc;subst e;rw[nb,anF]at hb;exact ih i u (c.aG σ) hu (by rw[gz,anl,hc];rfl) c rfl (hb c (anr hc))
 induction h with
 |agg vs cs hl _ ih=>
  intro x e hb;cases x<;>simp only[AV.aG,AV.agg.injEq,reduceCtorEq]at e
  next xs=>
   rw[AV.aC]at hb;exact .agg vs xs (by rw[hl,<-e,gz,anj]) (fD vs cs xs ih e hb)
 |aZ vs cs hl _ ih=>
  intro x e hb;cases x<;>simp only[AV.aG,AV.aZ.injEq,reduceCtorEq]at e
  next xs=>
   rw[AV.aC]at hb;exact .aZ vs xs (by rw[hl,<-e,gz,anj]) (fD vs cs xs ih e hb)
 |fn f vs cs hl _ ih=>
  intro x e hb;cases x<;>simp only[AV.aG,AV.fn.injEq,reduceCtorEq]at e
  next g xs=>
   obtain⟨rfl,e⟩:=e;rw[AV.aC]at hb;exact .fn _ vs xs (by rw[hl,<-e,gz,anj]) (fD vs cs xs ih e hb)
 |d h=>
  intro x e hb;cases x<;>simp only[AV.aG,AV.d.injEq,reduceCtorEq]at e
  next y=>subst e;exact .d (h.tX hS)
 |full xs hp hf=>
  intro x e hb;cases x<;>simp only[AV.aG,AV.full.injEq,reduceCtorEq]at e
  next y=>subst e;exact .full y (hp.tX hS) hf
 |ptr n off h=>
  intro x e hb;cases x<;>simp only[AV.aG,AV.ptr.injEq,reduceCtorEq]at e
  next m o=>
   obtain⟨e1,rfl⟩:=e;rw[AV.aC]at hb;have hm:=lt _ hb;rw[<-e1,hR.aO _ hm];exact .ptr _ _ hm
 |row n off len cap k h hl fZ=>
  intro x e hb;cases x<;>simp only[AV.aG,AV.row.injEq,reduceCtorEq]at e
  next m o l c q=>
   obtain⟨e1,rfl,rfl,rfl,rfl⟩:=e;rw[AV.aC]at hb;have hm:=lt _ hb;rw[<-e1,hR.aO _ hm];exact .row _ _ _ _ _ hm hl fZ
 |mp n h=>
  intro x e hb;cases x<;>simp only[AV.aG,AV.mp.injEq,reduceCtorEq]at e
  next m=>
   rw[AV.aC]at hb;have hm:=lt _ hb;rw[<-e,hR.aO _ hm];exact .mp _ hm
 |cg n h=>
  intro x e hb;cases x<;>simp only[AV.aG,AV.cg.injEq,reduceCtorEq]at e
  next m=>
   rw[AV.aC]at hb;have hm:=lt _ hb;rw[<-e,hR.aO _ hm];exact .cg _ hm
 |own n xs h hp hle hf=>
  intro x e hb;cases x<;>simp only[AV.aG,AV.own.injEq,reduceCtorEq]at e
  next m l=>
   obtain⟨e1,rfl⟩:=e;rw[AV.aC]at hb;have hm:=lt _ hb;rw[<-e1]at hle hf;exact .own _ _ hm (hp.tX hS) (by rw[<-hR.fl _ hm];exact hle) (by rw[<-hR.fl _ hm,<-hR.sg _ hm];exact hf)
 |vec n o len L k h hs hL hf=>
  intro x e hb;cases x<;>simp only[AV.aG,AV.vec.injEq,reduceCtorEq]at e
  next m a1 a2 a3 a4=>
   obtain⟨e1,rfl,rfl,rfl,rfl⟩:=e;rw[AV.aC]at hb;have hm:=lt _ hb;rw[<-e1]at hL hf;exact .vec _ _ _ _ _ hm hs (by rw[<-hR.fl _ hm];exact hL) (by rw[<-hR.fl _ hm,<-hR.sg _ hm];exact hf)
 |dp n i j L k h hs hL hf=>
  intro x e hb;cases x<;>simp only[AV.aG,AV.dp.injEq,reduceCtorEq]at e
  next m a1 a2 a3 a4=>
   obtain⟨e1,rfl,rfl,rfl,rfl⟩:=e;rw[AV.aC]at hb;have hm:=lt _ hb;rw[<-e1]at hL hf;exact .dp _ _ _ _ _ hm hs (by rw[<-hR.fl _ hm];exact hL) (by rw[<-hR.fl _ hm,<-hR.sg _ hm];exact hf)
 |bg xs i off b o u y hx qW hu=>
  intro x e hb;cases x<;>simp only[AV.aG,AV.bg.injEq,reduceCtorEq]at e
  next a1 a2 a3=>
   obtain⟨rfl,rfl,rfl⟩:=e;exact .bg _ _ _ b o u y hx (λj hj=>⟨hS _ _ (qW j hj).1,(qW j hj).2⟩) (λj d hd=>(hu j d hd).tX hS)
 |hid h J=>
  intro x e hb;cases x<;>simp only[AV.aG,AV.hid.injEq,reduceCtorEq]at e
  next c=>subst e;exact .hid (h.keep hS (λ_ _ _=>rfl)) J
 |dead u=>
  intro x e hb;cases x<;>simp only[AV.aG,reduceCtorEq]at e
  exact .dead u
theorem Lz{σ:Nat->Nat}{G G2:Gh}(hR:qP σ G G2){n:Nat}(hn:n<G.N)(B:ao):(B.aG σ).dL G2 (σ n)=B.dL G n:=by
 cases B<;>simp only[ao.aG,ao.dL,hR.aO n hn,hR.ow n hn]
theorem dP.aG{σ:Nat->Nat}{G G2:Gh}{w:an8}(hR:qP σ G G2){n:Nat}(hn:n<G.N){B:ao}(hz:∀b,B.dL G n=some b->¬G2.Z b)(h:dP G w n B):dP G2 w (σ n) (B.aG σ):=by
 have hS:∀b o,¬G.S b o->¬G2.S b o:=λb o h h2=>h ((hR.S b o).1 h2);cases B with
 |gone=>trivial
 |cells cs=>
  obtain⟨J,h2,vs,T,h3,h4,h5⟩:=h;rw[ao.aG];refine⟨by rw[hR.aO n hn];exact hz _ rfl,by rw[hR.aO n hn];exact λo=>hS _ _ (h2 o),vs,T,by rw[hR.aO n hn];exact h3,by rw[gz,anj];exact h4,λi u c hu hc=> ?_⟩;rw[gz,anl]at hc;cases hx:cs[i]? with
  |none=>rw[hx]at hc;cases hc
  |some x=>rw[hx]at hc;cases hc;exact(h5 i u x hu hx).aG hR
 |lp ls p as bd cs=>
  obtain⟨J,h2,fn,vs,T,h3,h4,h5⟩:=h;rw[ao.aG];refine⟨by rw[hR.aO n hn];exact hz _ rfl,by rw[hR.aO n hn];exact λo=>hS _ _ (h2 o),fn,vs,T,by rw[hR.aO n hn];exact h3,by rw[gz,anj];exact h4,λi u c hu hc=> ?_⟩;rw[gz,anl]at hc;cases hx:cs[i]? with
  |none=>rw[hx]at hc;cases hc
  |some x=>rw[hx]at hc;cases hc;exact(h5 i u x hu hx).aG hR
 |it sn cs=>
  obtain⟨J,h2,fn,vs,T,h3,h4,h5⟩:=h;rw[ao.aG];refine⟨by rw[hR.aO n hn];exact hz _ rfl,by rw[hR.aO n hn];exact λo=>hS _ _ (h2 o),fn,vs,T,by rw[hR.aO n hn];exact h3,by rw[gz,anj];exact h4,λi u c hu hc=> ?_⟩;rw[gz,anl]at hc;cases hx:cs[i]? with
  |none=>rw[hx]at hc;cases hc
  |some x=>rw[hx]at hc;cases hc;exact(h5 i u x hu hx).aG hR
 |eG T0 cs=>
  obtain⟨J,h2,fn,vs,T,h3,h4,h5⟩:=h;rw[ao.aG];refine⟨by rw[hR.aO n hn];exact hz _ rfl,by rw[hR.aO n hn];exact λo=>hS _ _ (h2 o),fn,vs,T,by rw[hR.aO n hn];exact h3,by rw[gz,anj,hR.aO n hn];exact h4,λi u c hu hc=> ?_⟩;rw[gz,anl]at hc;cases hx:cs[i]? with
  |none=>rw[hx]at hc;cases hc
  |some x=>rw[hx]at hc;cases hc;exact(h5 i u x hu hx).aG hR
 |map kv=>
  obtain⟨J,h2,es,c,h3,h4⟩:=h;exact⟨by rw[hR.aO n hn];exact hz _ rfl,by rw[hR.aO n hn];exact λo=>hS _ _ (h2 o),es,c,by rw[hR.aO n hn];exact h3,h4.keep (λb o h=>(hR.S b o).2 h) (λ_ _ _=>rfl)⟩
 |iy kv=>
  obtain⟨J,h2,es,c,h3,h4⟩:=h;exact⟨by rw[hR.aO n hn];exact hz _ rfl,by rw[hR.aO n hn];exact λo=>hS _ _ (h2 o),es,c,by rw[hR.aO n hn];exact h3,h4.keep (λb o h=>(hR.S b o).2 h) (λ_ _ _=>rfl)⟩
 |ig e b=>
  obtain⟨J,hm,h2⟩:=h;refine⟨(hR.fl n hn).trans J,hm,?_⟩;rcases h2 with⟨h2,h0,A,h3⟩|⟨g,cap,cur,h2,h3,h4,h5,h6,h7,h8,h9,bE⟩
  ·exact .inl ⟨(hR.ow n hn).trans h2,h0,A,(hR.sg n hn).trans h3⟩
  ·exact .inr ⟨g,cap,cur,(hR.ow n hn).trans h2,(hR.sg n hn).trans h3,hz g h2,h5,h6,h7,h8,λo=>hS _ _ (h9 o),bE⟩
 |front e k len=>
  obtain⟨J,hm,h2⟩:=h;refine⟨(hR.fl n hn).trans J,hm,?_⟩;rcases h2 with⟨h2,A,h3⟩|⟨g,cap,cur,h2,h3,h4,h5,h6,h7,h8,h9⟩
  ·exact .inl ⟨(hR.ow n hn).trans h2,A,(hR.sg n hn).trans h3⟩
  ·exact .inr ⟨g,cap,cur,(hR.ow n hn).trans h2,(hR.sg n hn).trans h3,hz g h2,h5,h6,h7,h8,λo ho=>hS _ _ (h9 o ho)⟩
 |vec e k cs=>
  obtain⟨J,hm,hk,h2⟩:=h;rw[ao.aG];refine⟨by rw[anj];exact(hR.fl n hn).trans J,by rw[anj];exact hm,λc hc=> ?_,?_⟩
  ·obtain⟨x,hx,rfl⟩:=List.mem_map.1 hc;rw[gz,anj];exact hk x hx
  ·rcases h2 with⟨h2,e2,A,h3⟩|⟨g,cap,cur,h2,h3,h4,h5,h6,h7,h8,h9,bE⟩
   ·exact .inl ⟨(hR.ow n hn).trans h2,by rw[e2];rfl,A,(hR.sg n hn).trans h3⟩
   ·refine .inr ⟨g,cap,cur,(hR.ow n hn).trans h2,by rw[anj];exact(hR.sg n hn).trans h3,hz g h2,h5,by rw[anj];exact h6,h7,h8,λo=>hS _ _ (h9 o),λi j c x u hc hx hu=> ?_⟩;rw[anl]at hc;cases hy:cs[i]? with
    |none=>rw[hy]at hc;cases hc
    |some y=>
     rw[hy]at hc;cases hc
     rw[gz,anl]at hx;cases hw:y[j]? with
     |none=>rw[hw]at hx;cases hx
     |some z=>rw[hw]at hx;cases hx;exact(bE i j y z u hy hw hu).aG hR
theorem dP.rZ{σ:Nat->Nat}{G G2:Gh}{w:an8}(hR:qP σ G G2){n:Nat}(hn:n<G.N){B:ao}(hb:B.aC G.N=true)(hz:∀b,B.dL G n=some b->¬G.Z b)(h:dP G2 w (σ n) (B.aG σ)):dP G w n B:=by
 have hS:∀b o,¬G2.S b o->¬G.S b o:=λb o h h2=>h ((hR.S b o).2 h2);cases B with
 |gone=>trivial
 |cells cs=>
  rw[ao.aG]at h;obtain⟨J,h2,vs,T,h3,h4,h5⟩:=h;rw[hR.aO n hn]at h2 h3;rw[gz,anj]at h4;simp only[ao.aC,anF]at hb;exact⟨hz _ rfl,λo=>hS _ _ (h2 o),vs,T,h3,h4,λi u c hu hc=>aD.rZ hR (h5 i u (c.aG σ) hu (by rw[gz,anl,hc];rfl)) c rfl (hb c (anr hc))⟩
 |lp ls p as bd cs=>
  rw[ao.aG]at h;obtain⟨J,h2,fn,vs,T,h3,h4,h5⟩:=h;rw[hR.aO n hn]at h2 h3;rw[gz,anj]at h4;simp only[ao.aC,anF]at hb;exact⟨hz _ rfl,λo=>hS _ _ (h2 o),fn,vs,T,h3,h4,λi u c hu hc=>aD.rZ hR (h5 i u (c.aG σ) hu (by rw[gz,anl,hc];rfl)) c rfl (hb c (anr hc))⟩
 |it sn cs=>
  rw[ao.aG]at h;obtain⟨J,h2,fn,vs,T,h3,h4,h5⟩:=h;rw[hR.aO n hn]at h2 h3;rw[gz,anj]at h4;simp only[ao.aC,anF]at hb;exact⟨hz _ rfl,λo=>hS _ _ (h2 o),fn,vs,T,h3,h4,λi u c hu hc=>aD.rZ hR (h5 i u (c.aG σ) hu (by rw[gz,anl,hc];rfl)) c rfl (hb c (anr hc))⟩
 |eG T0 cs=>
  rw[ao.aG]at h;obtain⟨J,h2,fn,vs,T,h3,h4,h5⟩:=h;rw[hR.aO n hn]at h2 h3 h4;rw[gz,anj]at h4;simp only[ao.aC,anF]at hb;exact⟨hz _ rfl,λo=>hS _ _ (h2 o),fn,vs,T,h3,h4,λi u c hu hc=>aD.rZ hR (h5 i u (c.aG σ) hu (by rw[gz,anl,hc];rfl)) c rfl (hb c (anr hc))⟩
 |map kv=>
  obtain⟨J,h2,es,c,h3,h4⟩:=h;rw[hR.aO n hn]at h2 h3;exact⟨hz _ rfl,λo=>hS _ _ (h2 o),es,c,h3,h4.keep (λb o h=>(hR.S b o).1 h) (λ_ _ _=>rfl)⟩
 |iy kv=>
  obtain⟨J,h2,es,c,h3,h4⟩:=h;rw[hR.aO n hn]at h2 h3;exact⟨hz _ rfl,λo=>hS _ _ (h2 o),es,c,h3,h4.keep (λb o h=>(hR.S b o).1 h) (λ_ _ _=>rfl)⟩
 |ig e b=>
  obtain⟨J,hm,h2⟩:=h;rw[hR.fl n hn]at J;rw[hR.ow n hn,hR.sg n hn]at h2;refine⟨J,hm,?_⟩;rcases h2 with⟨h2,h0,A,h3⟩|⟨g,cap,cur,h2,h3,h4,h5,h6,h7,h8,h9,bE⟩
  ·exact .inl ⟨h2,h0,A,h3⟩
  ·exact .inr ⟨g,cap,cur,h2,h3,hz g h2,h5,h6,h7,h8,λo=>hS _ _ (h9 o),bE⟩
 |front e k len=>
  obtain⟨J,hm,h2⟩:=h;rw[hR.fl n hn]at J;rw[hR.ow n hn,hR.sg n hn]at h2;refine⟨J,hm,?_⟩;rcases h2 with⟨h2,A,h3⟩|⟨g,cap,cur,h2,h3,h4,h5,h6,h7,h8,h9⟩
  ·exact .inl ⟨h2,A,h3⟩
  ·exact .inr ⟨g,cap,cur,h2,h3,hz g h2,h5,h6,h7,h8,λo ho=>hS _ _ (h9 o ho)⟩
 |vec e k cs=>
  rw[ao.aG]at h;obtain⟨J,hm,hk,h2⟩:=h;rw[hR.fl n hn,anj]at J;rw[anj]at hm;rw[hR.ow n hn,hR.sg n hn,anj]at h2;simp only[ao.aC,anF]at hb;refine⟨J,hm,λc hc=> ?_,?_⟩
  ·have:=hk _ (List.mem_map.2 ⟨c,hc,rfl⟩)
   rwa [gz,anj]at this
  ·rcases h2 with⟨h2,e2,A,h3⟩|⟨g,cap,cur,h2,h3,h4,h5,h6,h7,h8,h9,bE⟩
   ·exact .inl ⟨h2,List.map_eq_nil_iff.1 e2,A,h3⟩
   ·refine .inr ⟨g,cap,cur,h2,h3,hz g h2,h5,h6,h7,h8,λo=>hS _ _ (h9 o),λi j c x u hc hx hu=> ?_⟩;exact aD.rZ hR (bE i j (AV.fR σ c) (x.aG σ) u (by rw[anl,hc];rfl) (by rw[gz,anl,hx];rfl) hu) x rfl (hb c (anr hc) x (anr hx))
theorem Z8:∀(l:an3 Nat)(Bs h:an3 ao),l.length<=Bs.length->(gQ l Bs h).length=h.length+(Bs.length-l.length)
 |[],Bs,h,_=>by simp [gQ]
 |j::l,[],h,hl=>by simp at hl
 |j::l,B::Bs,h,hl=>by rw[gQ,Z8 l Bs _ (by simpa using hl),List.length_set];simp
theorem MH:∀(l:an3 Nat)(Bs h:an3 ao)(n:Nat),l.length<=Bs.length->n<h.length->n ∉ l->(gQ l Bs h)[n]?=h[n]?
 |[],Bs,h,n,_,hn,_=>by rw[gQ,ano hn]
 |j::l,[],h,n,hl,_,_=>by simp at hl
 |j::l,B::Bs,h,n,hl,hn,hm=>by
  simp only[anJ,not_or]at hm;rw[gQ,MH l Bs _ n (by simpa using hl) (by rw[List.length_set];exact hn) hm.2,anN (Ne.symm hm.1)]
theorem Tj:∀(l:an3 Nat)(Bs h:an3 ao)(i:Nat),l.length<=Bs.length->l.Nodup->(∀j∈l,j<h.length)->i<Bs.length->(gQ l Bs h)[rn l h.length i]?=Bs[i]?
 |[],Bs,h,i,_,_,_,hi=>by rw[gQ,rn,anu (anU _ _),Nat.add_sub_cancel_left]
 |j::l,[],h,i,hl,_,_,_=>by simp at hl
 |j::l,B::Bs,h,0,hl,hd,aI,_=>by
  rw[List.nodup_cons]at hd;rw[gQ,rn,MH l Bs _ j (by simpa using hl) (by rw[List.length_set];exact aI j (by simp)) hd.1,anI (aI j (by simp))];rfl
 |j::l,B::Bs,h,i+1,hl,hd,aI,hi=>by
  rw[List.nodup_cons]at hd;have:=Tj l Bs (h.set j B) i (by simpa using hl) hd.2 (λx hx=>by rw[List.length_set];exact aI x (by simp [hx])) (by simpa using hi);rw[List.length_set]at this;rw[gQ,rn,this];simp
def wM(l:an3 Nat)(base n:Nat):an5 Nat:=if n∈l then some (l.idxOf n)else if base<=n then some (l.length+(n-base))else none
theorem NX{l:an3 Nat}{base:Nat}(hd:l.Nodup)(aI:∀j∈l,j<base)(i:Nat):wM l base (rn l base i)=some i:=by
 unfold wM;by_cases hi:i<l.length
 ·have e:l[i]?=some l[i]:=ani hi;rw[yw l base i _ e,if_pos (List.getElem_mem _),List.Nodup.idxOf_getElem hd i hi]
 ·rw[IU l base i (by omega),if_neg (λh=>by have:=aI _ h;omega),if_pos (anU _ _)]
  congr 1;omega
theorem O4{l:an3 Nat}{base n i:Nat}(h:wM l base n=some i):rn l base i=n:=by
 unfold wM at h;split at h
 ·rename_i hm
  cases h
  have aI:=List.idxOf_lt_length_of_mem hm;refine yw l base _ n ?_;rw[ani aI,List.getElem_idxOf]
 ·split at h
  ·cases h
   rw[IU _ _ _ (by omega)];omega
  ·cases h
theorem ajt{l:an3 Nat}{base n:Nat}(h:wM l base n=none):n<base/\n ∉ l:=by
 unfold wM at h;split at h
 ·cases h
 ·split at h
  ·cases h
  ·rename_i J h2;exact⟨by omega,J⟩
def sr{α:Type}(o:an5 Nat)(f:Nat->α)(d:α):α:=match o with|some i=>f i|none=>d
theorem aaQ{H:an3 ao}{l:an3 Nat}{h:an3 ao}
 (hd:l.Nodup) (aI:∀j∈l,j<h.length) (hH:∀(i j:Nat),l[i]?=some j->h[j]?=(H[i]?).map (ao.aG (rn l h.length))) (hk:l.length=H.length)
 (hb:H.all (ao.aC H.length)=true) {G:Gh} {w:an8} (hi:bJ G w h):
 ∃G0:Gh,G0.N=H.length/\bJ G0 w H/\qP (rn l h.length) G0 G/\∀(G1:Gh)(w':an8)(H':an3 ao),bI H.length G0 w G1 w'->H.length<=G1.N->bJ G1 w' H'->
  ∃G2:Gh,bI G.N G w G2 w'/\G.N<=G2.N/\bJ G2 w' (gQ l (H'.map (ao.aG (rn l h.length))) h)/\qP (rn l h.length) G1 G2:=by
 obtain⟨σ,hσ⟩:∃σ,σ=rn l h.length:=⟨_,rfl⟩;rw[<-hσ]at hH ⊢;have Gp:h.length=G.N:=hi.len;obtain⟨own,eo⟩:∃own:Nat->Prop,own=λb=>∃j∈l,bH h G j=some b:=⟨_,rfl⟩;obtain⟨G0,kW⟩:∃G0:Gh,G0={N:=H.length,Z:=λb=>b<w.heap.size/\¬own b,S:=G.S,aO:=λi=>G.aO (σ i),sg:=λi=>G.sg (σ i),ow:=λi=>G.ow (σ i),fl:=λi=>G.fl (σ i),M:=G.M}:=⟨_,rfl⟩;have Hx:∀i,i<H.length->∃j,l[i]?=some j/\σ i=j/\j∈l:=λi dM=>by
  have jC:i<l.length:=by rw[hk];exact dM
  exact⟨l[i],ani jC,by rw[hσ];exact yw l _ i _ (ani jC),List.getElem_mem _⟩
 have nJ:qP σ G0 G:=by
  subst kW;refine⟨λn hn=> ?_,λ_ _=>rfl,λ_ _=>rfl,λ_ _=>rfl,λ_ _=>rfl,λ_ _=>Iff.rfl⟩;obtain⟨j,_,e,hj⟩:=Hx n hn;rw[e,<-Gp];exact aI j hj
 have cq:G0.N=H.length:=by rw[kW]
 have Yy:∀(i:Nat)(B:ao),H[i]?=some B->h[σ i]?=some (B.aG σ):=λi B hB=>by
  obtain⟨j,e1,e2,_⟩:=Hx i (ane.1 hB).1;rw[e2,hH i j e1,hB];rfl
 have NR:∀(i:Nat)(B:ao)(b:Nat),H[i]?=some B->B.dL G0 i=some b->bH h G (σ i)=some b:=λi B b hB fK=>by
  rw[dx (Yy i B hB),Lz nJ (by rw[cq];exact(ane.1 hB).1) B];exact fK
 have wH:∀(i:Nat)(B:ao)(b:Nat),H[i]?=some B->B.dL G0 i=some b->¬G0.Z b:=λi B b hB fK hz=>by
  rw[kW]at hz;refine hz.2 ?_;rw[eo];obtain⟨j,_,e2,hj⟩:=Hx i (ane.1 hB).1;exact⟨j,hj,by rw[<-e2];exact NR i B b hB fK⟩
 have agf:∀i i',σ i=σ i'->i=i':=λi i' e=>by
  have J:=NX hd aI i;have h2:=NX hd aI i';rw[hσ]at e;rw[e,h2]at J;exact(anx J).symm
 have sW:bJ G0 w H:=by
  refine⟨cq.symm,λb hz=> ?_,λb o hs=> ?_,λi B hB=> ?_,λm n b J h2=> ?_,by rw[kW];exact hi.gl⟩
  ·rw[kW]at hz;exact hz.1
  ·rw[kW]at hs;exact hi.S b o hs
  ·have hiN:i<G0.N:=by rw[cq];exact(ane.1 hB).1
   rw[anF]at hb;exact dP.rZ nJ hiN (by rw[cq];exact hb B (anr hB)) (λb fK=>wH i B b hB fK) (hi.cV (σ i) _ (Yy i B hB))
  ·obtain⟨B1,vh,iC⟩:=ng J;obtain⟨B2,MZ,jY⟩:=ng h2;exact agf m n (hi.inj _ _ b (NR m B1 b vh iC) (NR n B2 b MZ jY))
 refine⟨G0,cq,sW,nJ,λG1 w' H' hE gh jS=> ?_⟩;have B4:H'.length=G1.N:=jS.len;obtain⟨ps,DR⟩:∃ps,ps=wM l h.length:=⟨_,rfl⟩;obtain⟨G2,iq⟩:∃G2:Gh,G2={N:=G.N+(G1.N-H.length),Z:=G.Z,S:=G1.S,aO:=λn=>sr (ps n) G1.aO (G.aO n),sg:=λn=>sr (ps n) G1.sg (G.sg n),ow:=λn=>sr (ps n) G1.ow (G.ow n),fl:=λn=>sr (ps n) G1.fl (G.fl n),M:=G.M}:=⟨_,rfl⟩;have GU:∀i,ps (σ i)=some i:=λi=>by rw[DR,hσ];exact NX hd aI i
 have Hi:∀i,H.length<=i->σ i=G.N+(i-H.length):=λi j0=>by rw[hσ,IU l _ i (by omega),Gp,hk]
 have aem:∀i,i<H.length->σ i<G.N:=λi Ji=>by
  obtain⟨j,_,e,hj⟩:=Hx i Ji;rw[e,<-Gp];exact aI j hj
 have Qs:qP σ G1 G2:=by
  subst iq;refine⟨λn hn=> ?_,λn _=>by simp only[GU];rfl,λn _=>by simp only[GU];rfl,λn _=>by simp only[GU];rfl,λn _=>by simp only[GU];rfl,λ_ _=>Iff.rfl⟩;show σ n<G.N+(G1.N-H.length);by_cases eN:n<H.length
  ·have:=aem n eN;omega
  ·rw[Hi n (by omega)];omega
 have hZ1:∀b,G0.Z b->G1.Z b:=hE.Z.1.1;have M1:∀b,G.Z b->G0.Z b:=λb hz=>by
  rw[kW];refine⟨hi.z b hz,λho=> ?_⟩;rw[eo]at ho;obtain⟨j,_,ho⟩:=ho;obtain⟨B,hB,fK⟩:=ng ho;exact(hi.cV j B hB).lf fK hz
 have js:bI G.N G w G2 w':=by
  refine⟨hE.size,λb o hs=> ?_,λb o hs=> ?_,λn hn=> ?_,λn hn=> ?_,gU (by rw[iq]) (by rw[iq]),λb hz=>hE.old b (M1 b hz),hE.os,hE.tape,hE.output,λb o hs=> ?_⟩
  ·rw[iq];exact hE.S b o (by rw[kW];exact hs)
  ·exact hE.cell b o (by rw[kW];exact hs)
  ·rw[iq];show sr (ps n) G1.aO (G.aO n)=G.aO n;cases hp:ps n with
   |none=>rfl
   |some i=>
    have e:σ i=n:=by rw[hσ];rw[DR]at hp;exact O4 hp
    have dM:i<H.length:=Nat.lt_of_not_le λj0=>by rw[Hi i j0]at e;omega
    show G1.aO i=G.aO n;rw[hE.aO i dM,kW,<-e]
  ·rw[iq];show(sr (ps n) G1.fl (G.fl n)=G.fl n/\sr (ps n) G1.sg (G.sg n)=G.sg n)\/G.fl n<sr (ps n) G1.fl (G.fl n);cases hp:ps n with
   |none=>exact .inl ⟨rfl,rfl⟩
   |some i=>
    have e:σ i=n:=by rw[hσ];rw[DR]at hp;exact O4 hp
    have dM:i<H.length:=Nat.lt_of_not_le λj0=>by rw[Hi i j0]at e;omega
    have:=hE.fr i dM;rw[kW]at this;simp only[e]at this;exact this
  ·rw[iq]at hs;rcases hE.new b o hs with J|J
   ·rw[kW]at J;exact .inl J
   ·exact .inr λhz=>J (M1 b hz)
 have hlen:(gQ l (H'.map (ao.aG σ)) h).length=G2.N:=by
  rw[Z8 _ _ _ (by rw[anj,hk,B4];omega),anj,B4,hk,Gp,iq]
 have ac4:∀i,i<G1.N->(gQ l (H'.map (ao.aG σ)) h)[σ i]?=(H'[i]?).map (ao.aG σ):=λi dM=>by
  rw[<-anl,hσ];exact Tj l _ h i (by rw[anj,hk,B4];omega) hd aI (by rw[anj,B4];exact dM)
 have JB:∀(n:Nat)(B:ao),(gQ l (H'.map (ao.aG σ)) h)[n]?=some B->(∃i B',i<G1.N/\n=σ i/\H'[i]?=some B'/\B=B'.aG σ)\/(ps n=none/\n ∉ l/\h[n]?=some B):=λn B hB=>by
  have Tq:n<G2.N:=by rw[<-hlen];exact(ane.1 hB).1
  cases hp:ps n with
  |none=>
   rw[DR]at hp;obtain⟨J,h2⟩:=ajt hp;exact .inr ⟨rfl,h2,by rw[<-MH l (H'.map (ao.aG σ)) h n (by rw[anj,hk,B4];omega) J h2];exact hB⟩
  |some i=>
   have e:σ i=n:=by rw[hσ];rw[DR]at hp;exact O4 hp
   have dM:i<G1.N:=Nat.lt_of_not_le λj0=>by
    rw[Hi i (by omega)]at e;rw[iq]at Tq;have:n<G.N+(G1.N-H.length):=Tq;omega
   rw[<-e,ac4 i dM]at hB;cases hx:H'[i]? with
   |none=>rw[hx]at hB;cases hB
   |some B'=>rw[hx]at hB;cases hB;exact .inl ⟨i,B',dM,e.symm,hx,rfl⟩
 have hold:∀(n b:Nat),n ∉ l->bH h G n=some b->G0.Z b:=λn b hn fK=>by
  rw[kW];refine⟨hi.gX fK,λho=> ?_⟩;rw[eo]at ho;obtain⟨j,hj,ho⟩:=ho;exact hn ((hi.inj n j b fK ho)▸hj)
 have BF:∀(n b:Nat),bH (gQ l (H'.map (ao.aG σ)) h) G2 n=some b->(∃i,n=σ i/\bH H' G1 i=some b/\¬G0.Z b)\/(n ∉ l/\bH h G n=some b/\G0.Z b):=λn b fK=>by
  obtain⟨B,hB,iC⟩:=ng fK;rcases JB n B hB with⟨i,B',dM,rfl,dC,rfl⟩|⟨hp,hn,dC⟩
  ·rw[Lz Qs dM]at iC;exact .inl ⟨i,rfl,(dx dC).trans iC,λhz=>(jS.cV i B' dC).lf iC (hZ1 _ hz)⟩
  ·have e:B.dL G2 n=B.dL G n:=by
    subst iq;cases B<;>simp only[ao.dL,hp,sr]
   have:=(dx dC).trans (e▸iC);exact .inr ⟨hn,this,hold n b hn this⟩
 refine⟨G2,js,by rw[iq];exact anU _ _,⟨hlen,λb hz=> ?_,λb o hs=> ?_,λn B hB=> ?_,λm n b J h2=> ?_,hi.gl.keep js⟩,Qs⟩
 ·rw[iq]at hz;exact anD (hi.z b hz) hE.size
 ·rw[iq]at hs;exact jS.S b o hs
 ·rcases JB n B hB with⟨i,B',dM,rfl,dC,rfl⟩|⟨hp,hn,dC⟩
  ·refine dP.aG Qs dM (λb fK hz=> ?_) (jS.cV i B' dC);have:=(jS.cV i B' dC).lf fK;rw[iq]at hz;exact this (hZ1 b (M1 b hz))
  ·have nV:n<G.N:=by rw[<-hi.len];exact(ane.1 dC).1
   refine dP.keep nV js (by rw[iq];exact anU _ _) (by rw[iq];simp only[hp];exact⟨rfl,rfl,rfl⟩) (λb fK=> ?_) (hi.cV n B dC);have hz:=hold n b hn ((dx dC).trans fK);refine⟨hE.old b hz,λo jG hs=> ?_⟩;rw[iq]at hs;rcases hE.new b o hs with J|J
   ·rw[kW]at J;exact jG J
   ·exact J hz
 ·rcases BF m b J with⟨i,rfl,a1,a2⟩|⟨a0,a1,a2⟩<;>rcases BF n b h2 with⟨j,rfl,b1,b2⟩|⟨b0,b1,b2⟩
  ·rw[jS.inj i j b a1 b1]
  ·exact absurd b2 a2
  ·exact absurd a2 b2
  ·exact hi.inj m n b a1 b1
theorem cF.Yx{P:an6}{f:FuncId}{args:an3 AV}{H:an3 ao}{K:AV->an3 ao->Prop}(hc:cF P f args H K){l:an3 Nat}{h:an3 ao}
 (hd:l.Nodup) (aI:∀j∈l,j<h.length) (hH:∀(i j:Nat),l[i]?=some j->h[j]?=(H[i]?).map (ao.aG (rn l h.length))) (hk:l.length=H.length)
 (ha:args.all (AV.aC H.length)=true) (hb:H.all (ao.aC H.length)=true):
 cF P f (args.map (AV.aG (rn l h.length))) h λr' h'=>∃r H',K r H'/\r'=r.aG (rn l h.length)/\h'=gQ l (H'.map (ao.aG (rn l h.length))) h:=by
 refine⟨hc.1,λG w vs hi wx hvr=> ?_⟩;obtain⟨G0,cq,sW,nJ,Ri⟩:=aaQ hd aI hH hk hb hi;refine(hc.2 G0 w vs sW (by rw[wx,anj]) λi u c hu hx=> ?_).mono λe w' hp=> ?_
 ·rw[anF]at ha;exact aD.rZ nJ (hvr i u (c.aG (rn l h.length)) hu (by rw[anl,hx];rfl)) c rfl (by rw[cq];exact ha c (anr hx))
 ·obtain⟨v,G1,r,H',rfl,hE,gh,jS,hv,hK⟩:=hp;rw[cq]at gh hE;obtain⟨G2,e1,e2,e3,e4⟩:=Ri G1 w' H' hE gh jS;exact⟨v,G2,r.aG _,_,rfl,e1,e2,e3,hv.aG e4,r,H',hK,rfl,rfl⟩
mutual
theorem xb{σ τ:Nat->Nat}{k:Nat}(h:∀i,i<k->σ i=τ i):∀x:AV,x.aC k=true->x.aG σ=x.aG τ
 | .ptr n off,hb=>by rw[AV.aC]at hb;rw[AV.aG,AV.aG,h n (by rw[Bool.not_eq_true',<-Bool.not_eq_true,c6]at hb;omega)]
 | .own n xs,hb=>by rw[AV.aC]at hb;rw[AV.aG,AV.aG,h n (by rw[Bool.not_eq_true',<-Bool.not_eq_true,c6]at hb;omega)]
 | .row n off len cap q,hb=>by rw[AV.aC]at hb;rw[AV.aG,AV.aG,h n (by rw[Bool.not_eq_true',<-Bool.not_eq_true,c6]at hb;omega)]
 | .mp n,hb=>by rw[AV.aC]at hb;rw[AV.aG,AV.aG,h n (by rw[Bool.not_eq_true',<-Bool.not_eq_true,c6]at hb;omega)]
 | .cg n,hb=>by rw[AV.aC]at hb;rw[AV.aG,AV.aG,h n (by rw[Bool.not_eq_true',<-Bool.not_eq_true,c6]at hb;omega)]
 | .vec n o len L q,hb=>by rw[AV.aC]at hb;rw[AV.aG,AV.aG,h n (by rw[Bool.not_eq_true',<-Bool.not_eq_true,c6]at hb;omega)]
 | .dp n i j L q,hb=>by rw[AV.aC]at hb;rw[AV.aG,AV.aG,h n (by rw[Bool.not_eq_true',<-Bool.not_eq_true,c6]at hb;omega)]
 | .agg cs,hb=>by rw[AV.aC]at hb;rw[AV.aG,AV.aG,rF h cs hb]
 | .aZ cs,hb=>by rw[AV.aC]at hb;rw[AV.aG,AV.aG,rF h cs hb]
 | .fn f cs,hb=>by rw[AV.aC]at hb;rw[AV.aG,AV.aG,rF h cs hb]
 | .d x,_=>by rw[AV.aG,AV.aG]
 | .bg xs i off,_=>by rw[AV.aG,AV.aG]
 | .full xs,_=>by rw[AV.aG,AV.aG]
 | .hid c,_=>by rw[AV.aG,AV.aG]
 | .dead,_=>by rw[AV.aG,AV.aG]
theorem rF{σ τ:Nat->Nat}{k:Nat}(h:∀i,i<k->σ i=τ i):∀l:an3 AV,AV.kh k l=true->AV.fR σ l=AV.fR τ l
 |[],_=>by rw[AV.fR,AV.fR]
 |x::l,hb=>by
  rw[AV.kh,ang]at hb;rw[AV.fR,AV.fR,xb h x hb.1,rF h l hb.2]
end
theorem Rw{σ τ:Nat->Nat}{k:Nat}(h:∀i,i<k->σ i=τ i)(B:ao)(hb:B.aC k=true):B.aG σ=B.aG τ:=by
 cases B with
 |cells cs=>rw[ao.aG,ao.aG,rF h cs (by rw[nb];exact hb)]
 |lp ls p as bd cs=>rw[ao.aG,ao.aG,rF h cs (by rw[nb];exact hb)]
 |it sn cs=>rw[ao.aG,ao.aG,rF h cs (by rw[nb];exact hb)]
 |eG T0 cs=>rw[ao.aG,ao.aG,rF h cs (by rw[nb];exact hb)]
 |vec e q cs=>
  rw[ao.aG,ao.aG]
  congr 1
  refine anK λc hc=>rF h c ?_;simp only[ao.aC,anF]at hb;rw[nb,anF];exact hb c hc
 |_=>rfl
theorem UF:∀(l:an3 Nat)(b c i:Nat),i<l.length->rn l b i=rn l c i
 |[],b,c,i,h=>by simp at h
 |a::l,b,c,0,_=>by rw[rn,rn]
 |a::l,b,c,i+1,h=>by rw[rn,rn];exact UF l b c i (by simpa using h)
def pg:an3 Nat->Bool
 |[]=>true
 |a::l=> !l.any (·==a)&&pg l
theorem YC:∀{l:an3 Nat},pg l=true->l.Nodup
 |[],_=>List.nodup_nil
 |a::l,h=>by
  rw[pg,ang,Bool.not_eq_true',<-Bool.not_eq_true]at h;rw[List.nodup_cons];exact⟨λhm=>h.1 (List.any_eq_true.2 ⟨a,hm,by simp⟩),YC h.2⟩
theorem R1:∀(l:an3 Nat)(h Bs:an3 ao),l.map (λj=>h[j]?)=Bs.map some->gQ l Bs h=h
 |[],h,Bs,e=>by
  cases Bs with
  |nil=>rw[gQ,anA]
  |cons=>simp at e
 |j::l,h,Bs,e=>by
  cases Bs with
  |nil=>simp at e
  |cons B Bs=>
   rw[anE,anE]at e;injection e with e1 e2;have hs:h.set j B=h:=by
     refine List.ext_getElem? λm=> ?_;by_cases em:j=m
     ·subst em;rw[anI (ane.1 e1).1,e1]
     ·rw[anN em]
   rw[gQ,hs];exact R1 l h Bs e2
section
variable {P:an6} {f:FuncId} {eJ:an3 AV} {H:an3 ao} {l:an3 Nat} {h:an3 ao}
theorem VU{l:an3 Nat}{h H:an3 ao}{σ:Nat->Nat}(hb:l.map (λj=>h[j]?)=H.map λB=>some (B.aG σ)):l.length=H.length/\(∀j∈l,j<h.length)/\∀(i j:Nat),l[i]?=some j->h[j]?=(H[i]?).map (ao.aG σ):=by
 have J:l.length=H.length:=by simpa using congrArg List.length hb
 have key:∀(i j:Nat),l[i]?=some j->∃B,H[i]?=some B/\h[j]?=some (B.aG σ):=λi j e=>by
  have aI:i<H.length:=by rw[<-J];exact(ane.1 e).1
  have:=congrArg (·[i]?) hb;simp only[anl,e,ani aI,Option.map_some,Option.some.injEq]at this;exact⟨_,ani aI,this⟩
 refine⟨J,λj hj=> ?_,λi j e=> ?_⟩
 ·obtain⟨i,hi⟩:=List.mem_iff_getElem?.1 hj;obtain⟨B,_,h2⟩:=key i j hi;exact(ane.1 h2).1
 ·obtain⟨B,h2,h3⟩:=key i j e;rw[h2,h3];rfl
theorem cF.np{r:AV}{H':an3 ao}(hc:cF P f eJ H λr1 J=>r1=r/\J=H')(hd:pg l=true)(hb:l.map (λj=>h[j]?)=H.map λB=>some (B.aG (rn l h.length)))(hl:(eJ.all (AV.aC H.length)&&H.all (ao.aC H.length))=true):
 cF P f (eJ.map (AV.aG (rn l h.length))) h λr1 J=>r1=r.aG (rn l h.length)/\J=gQ l (H'.map (ao.aG (rn l h.length))) h:=by
 rw[ang]at hl;obtain⟨J,h2,h3⟩:=VU hb;exact(hc.Yx (YC hd) h2 h3 J hl.1 hl.2).mono λr1 J ⟨r2,H2,⟨e1,e2⟩,e3,e4⟩=>by subst e1;subst e2;exact⟨e3,e4⟩
theorem cF.rq{r:AV}(hc:cF P f eJ H λr1 J=>r1=r/\J=H)(hd:pg l=true)(hb:l.map (λj=>h[j]?)=H.map λB=>some (B.aG (rn l 0)))(hl:(eJ.all (AV.aC H.length)&&H.all (ao.aC H.length)&&r.aC H.length)=true)(e:an3 ao):
 cF P f (eJ.map (AV.aG (rn l 0))) (h++e) λr1 J=>r1=r.aG (rn l 0)/\J=h++e:=by
 rw[ang,ang]at hl;obtain⟨⟨l1,l2⟩,l3⟩:=hl;obtain⟨J,h2,_⟩:=VU hb;have LH:∀i,i<H.length->rn l (h++e).length i=rn l 0 i:=λi hi=>UF l _ _ i (by rw[J];exact hi);have iC:H.map (λB=>some (B.aG (rn l (h++e).length)))=H.map λB=>some (B.aG (rn l 0)):=by
   refine anK λB hB=> ?_;rw[anF]at l2;rw[Rw LH B (l2 B hB)]
 have jY:l.map (λj=>(h++e)[j]?)=H.map λB=>some (B.aG (rn l (h++e).length)):=by
  rw[iC,<-hb];refine anK λj hj=> ?_;rw[ano (h2 j hj)]
 have:=hc.np hd jY (by rw[l1,l2];rfl);have ha:eJ.map (AV.aG (rn l (h++e).length))=eJ.map (AV.aG (rn l 0)):=by
  refine anK λx hx=> ?_;rw[anF]at l1;exact xb LH x (l1 x hx)
 rw[ha,xb LH r l3]at this;refine this.mono λr1 J ⟨e1,e2⟩=>⟨e1,?_⟩;rw[e2];refine R1 l _ _ ?_;rw[jY,List.map_map];rfl
end
end Go.Proofs.YtpeecnpmcbnahaaGreatDoor
