/-
  Part 2 of the proof: AbsLeave, AbsLoop, AbsZero, AbsIter, AbsCode, AbsWalk, GrowF, AbsDraw, AbsFrame.
-/
import Derived.Test.YtfdhojiehjfghaaGreatDoorPs1
import Derived.Lib.AppendZeros
import Derived.Maps.RangeRun
namespace Go.Proofs.YtfdhojiehjfghaaGreatDoor
open Go.RowKit
theorem aE.zm{G:Gh}{w:anI}{u:anH}{x:AV}(Z:Nat->Prop)(M:Nat)(h:aE G w u x):aE {G with Z:=Z,M:=M} w u x:=by
 induction h with
 |agg vs cs hl _ ih=>exact .agg vs cs hl ih
 |aQ vs cs hl _ ih=>exact .aQ vs cs hl ih
 |fn f vs cs hl _ ih=>exact .fn f vs cs hl ih
 |own n xs h hp hle hf=>exact .own n xs h hp hle hf
 |ptr n off h=>exact .ptr (G:={G with Z:=Z,M:=M}) n off h
 |row n off len cap k h hl hm=>exact .row (G:={G with Z:=Z,M:=M}) n off len cap k h hl hm
 |mp n h=>exact .mp (G:={G with Z:=Z,M:=M}) n h
 |cF n h=>exact .cF (G:={G with Z:=Z,M:=M}) n h
 |vec n o len L k h hs hL hf=>exact .vec (G:={G with Z:=Z,M:=M}) n o len L k h hs hL hf
 |db n i j L k h hs hL hf=>exact .db (G:={G with Z:=Z,M:=M}) n i j L k h hs hL hf
 |hid h h1=>exact .hid h h1
 |d h=>exact .d h
 |ba xs i off b o u x hx hS hu=>exact .ba xs i off b o u x hx hS hu
 |full xs hp hf=>exact .full xs hp hf
 |dead u=>exact .dead u
theorem dB.zm{G:Gh}{w:anI}{n:Nat}{B:ao}(Z:Nat->Prop)(M:Nat)(hz:∀b,Z b->G.Z b)(h:dB G w n B):dB {G with Z:=Z,M:=M} w n B:=by
 cases B with
 |gone=>trivial
 |cells cs=>
  obtain⟨h1,h2,vs,T,h3,h4,h5⟩:=h;exact⟨λk=>h1 (hz _ k),h2,vs,T,h3,h4,λi u c hu hc=>(h5 i u c hu hc).zm Z M⟩
 |lp ls p as bd cs=>
  obtain⟨h1,h2,fn,vs,T,h3,h4,h5⟩:=h;exact⟨λk=>h1 (hz _ k),h2,fn,vs,T,h3,h4,λi u c hu hc=>(h5 i u c hu hc).zm Z M⟩
 |it sn cs=>
  obtain⟨h1,h2,fn,vs,T,h3,h4,h5⟩:=h;exact⟨λk=>h1 (hz _ k),h2,fn,vs,T,h3,h4,λi u c hu hc=>(h5 i u c hu hc).zm Z M⟩
 |dM T0 cs=>
  obtain⟨h1,h2,fn,vs,T,h3,h4,h5⟩:=h;exact⟨λk=>h1 (hz _ k),h2,fn,vs,T,h3,h4,λi u c hu hc=>(h5 i u c hu hc).zm Z M⟩
 |map kv=>
  obtain⟨h1,h2,es,c,h3,h4⟩:=h;exact⟨λk=>h1 (hz _ k),h2,es,c,h3,h4⟩
 |iI kv=>
  obtain⟨h1,h2,es,c,h3,h4⟩:=h;exact⟨λk=>h1 (hz _ k),h2,es,c,h3,h4⟩
 |front e k len=>
  obtain⟨h1,hm,h2⟩:=h;refine⟨h1,hm,?_⟩;rcases h2 with h2|⟨g,cap,cur,h2,h3,h4,h5⟩
  ·exact .inl h2
  ·exact .inr ⟨g,cap,cur,h2,h3,λk=>h4 (hz _ k),h5⟩
 |byt e b2=>
  obtain⟨h1,hm,h2⟩:=h;refine⟨h1,hm,?_⟩;rcases h2 with h2|⟨g,cap,cur,h2,h3,h4,h5⟩
  ·exact .inl h2
  ·exact .inr ⟨g,cap,cur,h2,h3,λk=>h4 (hz _ k),h5⟩
 |vec e k cs=>
  obtain⟨h1,hm,hk,h2⟩:=h;refine⟨h1,hm,hk,?_⟩;rcases h2 with h2|⟨g,cap,cur,h2,h3,h4,h5,h6,h7,h8,h9,bk⟩
  ·exact .inl h2
  ·exact .inr ⟨g,cap,cur,h2,h3,λk=>h4 (hz _ k),h5,h6,h7,h8,h9,λi j c x u hc hx hu=>(bk i j c x u hc hx hu).zm Z M⟩
theorem J3{h:anD ao}{G:Gh}{n:Nat}(Z:Nat->Prop)(M:Nat):bz h {G with Z:=Z,M:=M} n=bz h G n:=by
 unfold bz;cases h[n]? with
 |none=>rfl
 |some B=>cases B<;>rfl
theorem bC.zm{G:Gh}{w:anI}{h:anD ao}(hi:bC G w h)(Z:Nat->Prop)(M:Nat)(hz:∀b,Z b->G.Z b)(hM:M<=w.heap.size):bC {G with Z:=Z,M:=M} w h:=
 ⟨hi.len,λb hb=>hi.z b (hz b hb),hi.S,λn B hB=>(hi.cT n B hB).zm Z M hz,λm n b h1 h2=>hi.inj m n b (by rw[<-J3 Z M];exact h1) (by rw[<-J3 Z M];exact h2),⟨hi.gl.1,hM⟩⟩
def qA(l:anD Nat)(w:anI):anI:=l.foldl (λw D=>w.putObj D (.deferred none)) w
theorem Yh:∀(l:anD Nat)(w:anI),(∀D∈l,w.heap[D]?=some (.deferred (some [])))->l.Nodup->
 (qA l w).heap.size=w.heap.size/\(∀b,b ∉ l->(qA l w).heap[b]?=w.heap[b]?)/\(∀b o,(qA l w).cell? ⟨b,o,none⟩=w.cell? ⟨b,o,none⟩)/\(qA l w).os=w.os/\(qA l w).tape=w.tape/\(qA l w).output=w.output
 |[],w,_,_=>⟨rfl,λ_ _=>rfl,λ_ _=>rfl,rfl,rfl,rfl⟩
 |D::l,w,hd,hn=>by
  rw[List.nodup_cons]at hn;have hD:=hd D amT;have aJ:=(am2.1 hD).1;obtain⟨h1,h2,h3,h4,h5,h6⟩:=Yh l (w.putObj D (.deferred none)) (λE hE=>by
    have ck:E≠D:=λe=>hn.1 (e▸hE);rw[World.putObj_heap_other ck];exact hd E (amW _ hE)) hn.2
  refine⟨h1.trans (by simp),λb hb=> ?_,λb o=> ?_,h4,h5,h6⟩
  ·exact(h2 b λh=>hb (amW _ h)).trans (World.putObj_heap_other λe=>hb (e▸amT))
  ·refine(h3 b o).trans ?_;by_cases e:b=D
   ·subst e;unfold World.cell?;simp only[World.putObj_heap_same aJ,hD]
   ·exact World.cell?_of_block (World.putObj_heap_other e)
theorem UM{F:Fence}{n:Nat}{P:anG}{fn:Func}{tmps:Array anH}{R:Ending->anI->Prop}:∀(l:anD Nat)(w:anI),(∀D∈l,w.heap[D]?=some (.deferred (some [])))->l.Nodup->
 LeavesIn F n P fn tmps R [] .returning (qA l w)->LeavesInM F n P fn tmps R (l.map λD=>{target:= .collected D,args:= #[]}) .returning w
 |[],w,_,_,h=>h
 |D::l,w,hd,hn,h=>by
  rw[List.nodup_cons]at hn;exact⟨by simp, .inl ⟨D,_,rfl,run_takeDeferred (hd D amT),UM l _ (λE hE=>by
    have ck:E≠D:=λe=>hn.1 (e▸hE);rw[World.putObj_heap_other ck];exact hd E (amW _ hE)) hn.2 h⟩⟩
theorem ab2{N0:Nat}{G G1:Gh}{w w':anI}{a':Act}{s1:St}(hE:bx N0 {G with M:=w.heap.size} w G1 w')(hN:N0<=G1.N)(hz:∀b,G.Z b->b<w.heap.size)(hMw:G.M<=w.heap.size)(hs:cx G1 w' a' s1):
 ∃(w2:anI)(G2:Gh),(∀(F:Fence)(n:Nat)(P:anG)(fn:Func)(R:Ending->anI->Prop),(∃v,(results fn a'.tmps).run P w2= .ok v w2/\R (.returned v) w2)->LeavesInM F n P fn a'.tmps R a'.defers .returning w')/\
  bx N0 G w G2 w2/\G2.N=G1.N/\cx G2 w2 {a' with defers:=[]} s1:=by
 obtain⟨l,l1,l2,l3⟩:=hs.df;have hd:∀D∈l,w'.heap[D]?=some (.deferred (some [])):=λD hD=>(l3 D hD).2.2;obtain⟨h1,h2,h3,h4,h5,h6⟩:=Yh l w' hd l1;have hM:G1.M=w.heap.size:=hE.Z.2;have jg:∀b,G.Z b->b ∉ l:=λb hb hl=>by
  have:=(l3 b hl).1;have:=hz b hb;omega
 obtain⟨G2,gP⟩:∃G2:Gh,G2={G1 with Z:=G.Z,M:=G.M}:=⟨_,rfl⟩;have tA:∀b,G.Z b->G1.Z b:=hE.Z.1.1;have jY:bC G2 w' s1.h:=by rw[gP];exact hs.inv.zm _ _ tA (am5 hMw hE.size)
 have iA:bx N0 G w G2 w':=by
  rw[gP];exact⟨hE.size,hE.S,hE.cell,hE.aI,hE.fr,gV rfl,hE.old,hE.os,hE.tape,hE.output,hE.new⟩
 have iP:bx G2.N G2 w' G2 (qA l w'):=⟨by rw[h1];exact amY _,λ_ _ h=>h,λb o _=>h3 b o,λ_ _=>rfl,λ_ _=> .inl ⟨rfl,rfl⟩,gV rfl,λb hb=>h2 b (jg b (by rw[gP]at hb;exact hb)),h4,h5,h6,λ_ _ h=> .inl h⟩;have Kt:bC G2 (qA l w') s1.h:=⟨jY.len,λb hb=>by rw[h1];exact jY.z b hb,λb o hb=>by rw[h1];exact jY.S b o hb,λn B hB=>dB.keep (jY.lt hB) iP (amY _) ⟨rfl,rfl,rfl⟩ (λb hb=>⟨h2 b λhl=>(hs.inv.cT n B hB).kW (by rw[gP]at hb;cases B<;>exact hb) (l3 b hl).2.1,λ_ h=>h⟩) (jY.cT n B hB),jY.inj,jY.gl.keep iP⟩;refine⟨qA l w',G2,λF n P fn R h=> ?_,iA.trans (iP.less (by rw[gP];exact hN)),by rw[gP],⟨hs.size,λi=>aE.keep iP (amY _) (by rw[gP];exact(hs.tmp i).zm _ _),Kt,rB.nil _ _⟩⟩;rw[l2];exact UM l w' hd l1 h
section
variable {G:Gh} {w:anI} {h:anD ao}
theorem ajL(hi:bC G w h)(fn:FuncId)(tm:Array anH)(D p:Nat)(as bd:Code)(cs:anD AV)(hl:tm.size=cs.length)(hr:∀(i:Nat)(u:anH)(c:AV),tm[i]?=some u->cs[i]?=some c->aE G w u c):bx G.N G w (G.cv w.heap.size) (w.alloc (.loop {state:= .ready,pending:=none,fn:=fn,tmps:=tm,params:= #[p],assign:=as,body:=bd,defers:=D}))/\bC (G.cv w.heap.size) (w.alloc (.loop {state:= .ready,pending:=none,fn:=fn,tmps:=tm,params:= #[p],assign:=as,body:=bd,defers:=D})) (h++[.lp .ready p as bd cs])/\aE (G.cv w.heap.size) (w.alloc (.loop {state:= .ready,pending:=none,fn:=fn,tmps:=tm,params:= #[p],assign:=as,body:=bd,defers:=D})) (.func (.yield w.heap.size) #[] #[]) (.cF h.length):=by
 have hE:=rD G w hi.z hi.S (.loop {state:= .ready,pending:=none,fn:=fn,tmps:=tm,params:= #[p],assign:=as,body:=bd,defers:=D});have hN:G.N<=(G.cv w.heap.size).N:=Nat.le_succ _;have fy:(G.cv w.heap.size).aI h.length=w.heap.size:=by simp [Gh.cv,hi.len]
 have kN:∀n(B:ao),n<G.N->B.dw (G.cv w.heap.size) n=B.dw G n:=λn B hn=>by
  cases B<;>simp [ao.dw,Gh.cv,Nat.ne_of_lt hn]
 have fk:∀n,n<G.N->bz (h++[.lp .ready p as bd cs]) (G.cv w.heap.size) n=bz h G n:=λn hn=>by
  have aJ:n<h.length:=by rw[hi.len];exact hn
  unfold bz;rw[amX aJ,amR aJ];exact kN n _ hn
 have rL:bz (h++[.lp .ready p as bd cs]) (G.cv w.heap.size) h.length=some w.heap.size:=by
  rw[di (B:= .lp .ready p as bd cs) (by simp)];exact congrArg some fy
 refine⟨hE,⟨by simp [Gh.cv,hi.len],λb hb=>anb (hi.z b hb) hE.size,λb o hs=>anb (hi.S b o hs) hE.size,λn B hB=> ?_,λm n b hm hn=> ?_,hi.gl.keep hE⟩,?_⟩
 ·by_cases hn:n<h.length
  ·rw[amX hn]at hB;have dL:n<G.N:=hi.len▸hn;exact dB.keep dL hE hN ⟨rfl,rfl,rfl⟩ (λb hb=>⟨Below.heap_alloc w _ _ (hi.gr (n:=n) ((di hB).trans hb)),λo h=>h⟩) (hi.cT n B hB)
  ·have kD:n=h.length:=by
    have:=(amN.1 hB).1;simp at this;omega
   subst kD;simp at hB;subst hB;exact⟨by rw[fy];exact λhz=>ans _ (hi.z _ hz),λo hs=>by rw[fy]at hs;exact ans _ (hi.S _ _ hs),fn,tm,D,by rw[fy];exact World.alloc_heap_new w _,hl,λi u c hu hc=>(hr i u c hu hc).keep hE hN⟩
 ·have key:∀n b,bz (h++[.lp .ready p as bd cs]) (G.cv w.heap.size) n=some b->(n<G.N/\bz h G n=some b)\/(n=h.length/\b=w.heap.size):=λn b hn=>by
   by_cases aJ:n<G.N
   ·exact .inl ⟨aJ,by rw[<-fk n aJ];exact hn⟩
   ·by_cases e:n=h.length
    ·subst e;rw[rL]at hn;cases hn;exact .inr ⟨rfl,rfl⟩
    ·rw[ue (ank (by simp;have:=hi.len;omega))]at hn;cases hn
  rcases key m b hm with⟨_,iL⟩|⟨rfl,rfl⟩<;>rcases key n _ hn with⟨_,dL⟩|⟨rfl,hb⟩
  ·exact hi.inj m n b iL dL
  ·have:=hi.gr iL;omega
  ·have:=hi.gr dL;omega
  ·rfl
 ·have:=aE.cF (G:=G.cv w.heap.size) (w:=w.alloc (.loop {state:= .ready,pending:=none,fn:=fn,tmps:=tm,params:= #[p],assign:=as,body:=bd,defers:=D})) h.length (by simp [Gh.cv,hi.len])
  rwa [fy]at this
theorem Qt{k:Nat}{B B':ao}{ob xE:Obj}(hi:bC G w h)(hk:h[k]?=some B)(uD:B.dw G k=some (G.aI k))(hS:∀o,¬G.S (G.aI k) o)(lS:w.heap[G.aI k]?=some ob)(hn:B'= .gone\/B'.dw G k=some (G.aI k))
 (hB:∀w',(∀b o,G.S b o->w'.cell? ⟨b,o,none⟩=w.cell? ⟨b,o,none⟩)->w'.heap[G.aI k]?=some xE->bx G.N G w G w'->dB G w' k B'):bx G.N G w G (w.putObj (G.aI k) xE)/\bC G (w.putObj (G.aI k) xE) (h.set k B'):=by
 have aJ:=(am2.1 lS).1;have hZ:¬G.Z (G.aI k):=(hi.cT k B hk).kW uD;have im:∀b,b≠G.aI k->(w.putObj (G.aI k) xE).heap[b]?=w.heap[b]?:=λb hb=>World.putObj_heap_other hb;have ie:∀b o,G.S b o->(w.putObj (G.aI k) xE).cell? ⟨b,o,none⟩=w.cell? ⟨b,o,none⟩:=λb o hs=>World.cell?_of_block (im b (λe=>hS o (e▸hs)));have hE:bx G.N G w G (w.putObj (G.aI k) xE):=⟨by simp,λ_ _ h=>h,ie,λ_ _=>rfl,λ_ _=> .inl ⟨rfl,rfl⟩,gV rfl,λb hb=>im b (λe=>hZ (e▸hb)),rfl,rfl,rfl,λ_ _ h=> .inl h⟩;refine⟨hE,?_⟩;have hkl:=(amN.1 hk).1;have lP:(h.set k B')[k]?=some B':=by rw[anh hkl]
 have dW:∀m,m≠k->(h.set k B')[m]?=h[m]?:=λm hm=>by rw[anm (Ne.symm hm)]
 have k8:bz h G k=some (G.aI k):=(di hk).trans uD;have dP:∀m b,bz (h.set k B') G m=some b->bz h G m=some b:=λm b hb=>by
  by_cases e:m=k
  ·subst e;rw[di lP]at hb;rcases hn with rfl|hn
   ·cases hb
   ·rw[hn]at hb;cases hb;exact k8
  ·unfold bz at hb ⊢;rw[dW m e]at hb;exact hb
 refine⟨by rw[List.length_set];exact hi.len,λb hb=>anb (hi.z b hb) hE.size,λb o hs=>anb (hi.S b o hs) hE.size,λm C hC=> ?_,λm m' b h1 h2=>hi.inj m m' b (dP m b h1) (dP m' b h2),hi.gl.keep hE⟩;by_cases e:m=k
 ·subst e;rw[lP]at hC;cases hC
  exact hB _ ie (World.putObj_heap_same aJ) hE
 ·rw[dW m e]at hC;have ck:∀b,bz h G m=some b->b≠G.aI k:=λb hb eb=>e (hi.inj m k b hb (by rw[eb];exact k8));exact dB.keep (hi.lt hC) hE (amY _) ⟨rfl,rfl,rfl⟩ (λb hb=>⟨im b (ck _ ((di hC).trans hb)),λo h=>h⟩) (hi.cT m C hC)
theorem HS{k:Nat}{ls:LS}{p:Nat}{as bd:Code}{cs:anD AV}(hi:bC G w h)(hk:h[k]?=some (.lp ls p as bd cs)):
 (∀o,¬G.S (G.aI k) o)/\∃(fn:FuncId)(tm:Array anH)(D:Nat),w.heap[G.aI k]?=some (.loop {state:=ls.st,pending:=ls.pd,fn:=fn,tmps:=tm,params:= #[p],assign:=as,body:=bd,defers:=D})/\tm.size=cs.length/\(∀(i:Nat)(u:anH)(c:AV),tm[i]?=some u->cs[i]?=some c->aE G w u c)/\
   ∀(zH:LS),bx G.N G w G (w.putObj (G.aI k) (.loop {state:=zH.st,pending:=zH.pd,fn:=fn,tmps:=tm,params:= #[p],assign:=as,body:=bd,defers:=D}))/\bC G (w.putObj (G.aI k) (.loop {state:=zH.st,pending:=zH.pd,fn:=fn,tmps:=tm,params:= #[p],assign:=as,body:=bd,defers:=D})) (h.set k (.lp zH p as bd cs)):=by
 obtain⟨h1,h2,fn,tm,D,h3,h4,h5⟩:=hi.cT k _ hk;refine⟨h2,fn,tm,D,h3,h4,h5,λzH=>Qt hi hk rfl h2 h3 (.inr rfl) λw' hc dS hE=>⟨h1,h2,fn,tm,D,dS,h4,λi u c hu ff=>(h5 i u c hu ff).keep hE (amY _)⟩⟩
theorem akN{k:Nat}{ls:LS}{p:Nat}{as bd:Code}{cs:anD AV}(hi:bC G w h)(hk:h[k]?=some (.lp ls p as bd cs))(ob:Obj):bx G.N G w G (w.putObj (G.aI k) ob)/\bC G (w.putObj (G.aI k) ob) (h.set k .gone):=by
 obtain⟨h1,h2,fn,tm,D,h3,h4,h5⟩:=hi.cT k _ hk;exact Qt hi hk rfl h2 h3 (.inl rfl) λ_ _ _ _=>trivial
theorem aib(hi:bC G w h):bx G.N G w {G with Z:=λb=>G.Z b\/b=w.heap.size} (w.alloc (.deferred (some [])))/\bC {G with Z:=λb=>G.Z b\/b=w.heap.size} (w.alloc (.deferred (some []))) h:=by
 have hE:bx G.N G w {G with Z:=λb=>G.Z b\/b=w.heap.size} (w.alloc (.deferred (some []))):=
  ⟨by simp,λ_ _ h=>h,λb _ h=>World.cell?_alloc_lt _ _ _ (hi.S _ _ h),λ_ _=>rfl,λ_ _=> .inl ⟨rfl,rfl⟩,⟨⟨λ_ h=> .inl h,λb h=>h.imp id λe=>Nat.le_of_eq e.symm⟩,rfl⟩,λb hb=>Below.heap_alloc w _ b (hi.z b hb),rfl,rfl,rfl,λ_ _ h=> .inl h⟩
 refine⟨hE,hi.len,λb hb=> ?_,λb o hs=>anb (hi.S b o hs) hE.size,λn B hB=> ?_,λm n b h1 h2=>hi.inj m n b (by rw[<-J3 (λb=>G.Z b\/b=w.heap.size) G.M];exact h1) (by rw[<-J3 (λb=>G.Z b\/b=w.heap.size) G.M];exact h2),hi.gl.keep hE⟩
 ·rcases hb with hb|rfl
  ·exact anb (hi.z b hb) hE.size
  ·simp
 ·exact dB.keep (hi.lt hB) hE (amY _) ⟨rfl,rfl,rfl⟩ (λb hb=>⟨Below.heap_alloc w _ _ (hi.gr (n:=n) ((di hB).trans hb)),λo h=>h⟩) (hi.cT n B hB)
end
end Go.Proofs.YtfdhojiehjfghaaGreatDoor
namespace Go.Proofs.YtfdhojiehjfghaaGreatDoor
open Go.RowKit Go.Lib
def AV.isNil:AV->Bool
 | .d (.v (.slice none 0 0))=>true
 |_=>false
theorem ZC{x:AV}(h:x.isNil=true):x= .d (.v (.slice none 0 0)):=by
 unfold AV.isNil at h;split at h
 ·rfl
 ·cases h
def Oz(P:anG)(op:Op)(ρ:Operand->AV)(h:anD ao):anF (AV×anD ao):=
 match op with
 | .slice T x lo hi none=>match dQ P T,tB ρ 0 lo,tB ρ 0 hi with
   |some _,some 0,some 0=>bif (ρ x).isNil then some (.d (.v (.slice none 0 0)),h)else none
   |_,_,_=>none
 | .call c=>match c.callee with
   | .builtin .cap=>match c.args.toList,c.argTypes.toList with
     |[x],[T]=>bif (ρ x).isNil&&(dQ P T).isSome then some (.d (.v (.int .i64 0)),h)else none
     |_,_=>none
   | .builtin .append=>match c.args.toList,c.argTypes.toList with
     |[x,y],[T,U]=>match dQ P T,sf P U,ρ y with
      |some (e,k),some _, .d (.v (.int _ (.ofNat m)))=>match iE P e,sM P e with
       |some z,some cr=>bif (ρ x).isNil&&bS 1 m&&bS 1 k&&z.cells.toList.length==k&&bS m maxLen&&bS (m*cr) 140737488355328 then some (.vec h.length 0 m m k,h++[.vec e k (List.replicate m (z.cells.toList.map λu=> .d (.v u)))])else none
       |_,_=>none
      |_,_,_=>none
     |_,_=>none
   |_=>none
 |_=>none
section
variable {P:anG} {r:anF Nat} {n N0:Nat} {G:Gh} {w:anI} {a:Act} {s:St} {o:Oper} {K:St->Prop} {Q:Exit->Act->anI->Prop}
theorem afP{x:Operand}{T:TypeId}(c:Call)(hc:c.callee= .builtin .cap)(h1:c.args.toList=[x])(h2:c.argTypes.toList=[T])(ho:o.op= .call c):
 (execOp a.eval o).run P w=((Builtin.cap_ #[T] o.type #[a.eval x]).run P w).andThen λv w'=> .ok (.value v) w':=by
 have e1:c.args= #[x]:=by rw[<-Array.toList_inj];exact h1
 have e2:c.argTypes= #[T]:=by rw[<-Array.toList_inj];exact h2
 unfold execOp;simp only[ho,resolve,hc,e1,e2,invoke,builtin,Sem.run_bind,Sem.run_pure,Result.andThen_ok,List.map_toArray,anc,List.map_nil]
theorem W9(hs:cx G w a s){x:anF Operand}(h:tB (ev s) 0 x=some 0):A0 a x 0 0:=by
 cases x with
 |none=>rfl
 |some y=>exact Lq (d:=0) hs h (Int.le_refl _)
theorem acv{x:AV}{h':anD ao}(hs:cx G w a s)(bW:N0<=G.N)(hx:Oz P o.op (ev s) s.h=some (x,h'))(hK:K ((s.wh h').put o.dst x)):o.wpIn (WF r) n P a w (iC N0 G w K) Q:=by
 have cS:=hs.ev;have nil:∀{y:Operand},(ev s y).isNil=true->a.eval y= .slice none 0 0:=fun{y} h=>by
  have:=cS y;rw[ZC h]at this;exact this.val
 unfold Oz at hx;split at hx
 next T y lo hi ho=>
  split at hx
  ·next ek e1 e2 e3=>
   obtain⟨hb,he⟩:=mi hx;cases he
   obtain⟨eX,fq⟩:=jw e1;refine eJ (by rw[ho];simp) hs bW (v:= .slice none 0 0) ?_ (.d (.v _)) hK;have l4:=BM (P:=P) (yZ:=true) (W9 hs e2) (W9 hs e3) (amY _) (amY 0) w;unfold execOp;simp [ho,nil hb,Instr.sliceAt,Instr.slice,run_underlying eX,l4,lJ fq]
  ·cases hx
 next c ho=>
  split at hx
  ·next hc=>
   split at hx
   ·next y T e1 e2=>
    obtain⟨hb,he⟩:=mi hx;cases he
    rw[amP]at hb;cases hT:dQ P T with
    |none=>rw[hT]at hb;cases hb.2
    |some ek=>
     obtain⟨eX,fq⟩:=jw hT;refine eJ (by rw[ho];simp) hs bW (v:= .int .i64 0) ?_ (.d (.v _)) hK;rw[afP c hc e1 e2 ho,nil hb.1];simp [Builtin.cap_,run_underlying eX,goInt]
   ·cases hx
  ·next hc=>
   split at hx
   ·next y z T U e1 e2=>
    split at hx
    ·next e k kn kq m f1 f2 f3=>
     split at hx
     ·next zz cr g1 g2=>
      obtain⟨hb,he⟩:=mi hx;cases he
      simp only[amP,dy,beq_iff_eq]at hb;obtain⟨⟨⟨⟨⟨kI,l4⟩,Ia⟩,qf⟩,K8⟩,Nt⟩:=hb;clear hx;obtain⟨eX,fq⟩:=jw f1;obtain⟨i,kx,jx⟩:∃i,P.info? e=some i/\i.size=k:=by
       unfold fz at fq;cases hq:P.info? e with
       |none=>rw[hq]at fq;cases fq
       |some i=>rw[hq]at fq;exact⟨i,rfl,am6 fq⟩
      have hz:i.zero=some zz:=by unfold iE at g1;rw[kx]at g1;exact g1
      have hbt:i.bytes=cr:=by unfold sM at g2;rw[kx]at g2;exact am6 g2
      subst jx;subst hbt;have hy:=cS z;rw[f3]at hy;have ey:a.eval z= .int kq (m:Nat):=hy.val;have de:=run_append_nil_zeros (P:=P) w T U o.type e i zz kq kn eX (FY f2) kx hz m (by omega) (by omega) (by have:=K8;simp [maxLen]at this;omega) (by omega);have jg:zz.cells.size=i.size:=by rw[<-anl];exact qf
      have gd:(List.replicate m (zz.cells.toList.map λu=>AV.d (.v u))).length=m:=ano;obtain⟨cap,jR⟩:∃cap,cap=grownCap w m 0 e:=⟨_,rfl⟩;have ko:m<=cap:=by rw[jR];exact grownCap_ge _ _ _ _
      have hle:cap<=maxLen:=by rw[jR];exact grownCap_le_maxLen _ _ _ _ K8
      rw[<-jR]at de;obtain⟨cur,jL⟩:∃cur,cur=Builtin.zeroCells zz.cells m++Builtin.zeroCells zz.cells (cap-m):=⟨_,rfl⟩;rw[<-jL]at de;have fZ:cur.size=cap*i.size:=by
        rw[jL,Array.size_append,size_zeroCells,size_zeroCells,jg,<-Nat.add_mul]
        congr 1
        omega
      obtain⟨G',q1,q2,q3,q4⟩:=Nk (e:=e) (k:=i.size) (cap:=cap) (cs:=List.replicate m (zz.cells.toList.map λu=>AV.d (.v u))) (cur:=cur) hs.inv (by rw[gd];exact ko) hle fZ (λc hc=>by
       rw[List.eq_of_mem_replicate hc,amS];exact qf) w.drew ⟨rfl,rfl,rfl,rfl⟩ (λa' b c x u hc hx hu=>by
       have:=List.eq_of_mem_replicate (am0 hc);subst this;rw[amU]at hx;cases hq:zz.cells.toList[b]? with
       |none=>rw[hq]at hx;cases hx
       |some y=>
        rw[hq]at hx;cases hx
        have iM:b<i.size:=by rw[<-qf];exact(amN.1 hq).1
        have Oy:a'<m:=by have:=(amN.1 hc).1;rwa [gd]at this
        have aJ:a'*i.size+b<m*i.size:=m3 Oy iM;rw[jL,Array.getElem?_append_left (by rw[size_zeroCells,jg];exact aJ)]at hu;unfold Builtin.zeroCells at hu;rw[Array.getElem?_map,Array.getElem?_range,jg,if_pos aJ]at hu;simp only[Option.map_some,Option.some.injEq]at hu;rw[(Hm (i:=a') iM).2]at hu;have rb:zz.cells[b]?=some y:=by rw[<-ana];exact hq
        rw[getElem!_pos zz.cells b (by rw[jg];exact iM)]at hu;rw[am9 (by rw[jg];exact iM)]at rb;cases rb
        subst hu;exact .d (.v _))
      rw[gd]at q4;refine ma (by rw[ho];simp) hs bW (by rw[CP c hc e1 e2 ho,nil kI,ey,de];rfl) q1 q2 q3 (q4 m (amY _)) hK
     ·cases hx
    ·cases hx
   ·cases hx
  ·cases hx
 next=>cases hx
end
end Go.Proofs.YtfdhojiehjfghaaGreatDoor
namespace Go.Proofs.YtfdhojiehjfghaaGreatDoor
open Go.RowKit
section
variable {G:Gh} {w:anI} {h:anD ao}
theorem ahs(hi:bC G w h){b mb c:Nat}(hr:aE G w (.map (some b)) (.mp mb)):bx G.N G w (G.cv w.heap.size) (w.alloc (.mapIter (some b) c #[] c))/\bC (G.cv w.heap.size) (w.alloc (.mapIter (some b) c #[] c)) (h++[.it (c,[]) [.mp mb]])/\aE (G.cv w.heap.size) (w.alloc (.mapIter (some b) c #[] c)) (.pointer (some ⟨w.heap.size,0,none⟩)) (.ptr h.length 0):=by
 have hE:=rD G w hi.z hi.S (.mapIter (some b) c #[] c);have hN:G.N<=(G.cv w.heap.size).N:=Nat.le_succ _;have fy:(G.cv w.heap.size).aI h.length=w.heap.size:=by simp [Gh.cv,hi.len]
 have kN:∀n(B:ao),n<G.N->B.dw (G.cv w.heap.size) n=B.dw G n:=λn B hn=>by
  cases B<;>simp [ao.dw,Gh.cv,Nat.ne_of_lt hn]
 have fk:∀n,n<G.N->bz (h++[.it (c,[]) [.mp mb]]) (G.cv w.heap.size) n=bz h G n:=λn hn=>by
  have aJ:n<h.length:=by rw[hi.len];exact hn
  unfold bz;rw[amX aJ,amR aJ];exact kN n _ hn
 have rL:bz (h++[.it (c,[]) [.mp mb]]) (G.cv w.heap.size) h.length=some w.heap.size:=by
  rw[di (B:= .it (c,[]) [.mp mb]) (by simp)];exact congrArg some fy
 refine⟨hE,⟨by simp [Gh.cv,hi.len],λb hb=>anb (hi.z b hb) hE.size,λb o hs=>anb (hi.S b o hs) hE.size,λn B hB=> ?_,λm n b hm hn=> ?_,hi.gl.keep hE⟩,?_⟩
 ·by_cases hn:n<h.length
  ·rw[amX hn]at hB;have dL:n<G.N:=hi.len▸hn;exact dB.keep dL hE hN ⟨rfl,rfl,rfl⟩ (λb hb=>⟨Below.heap_alloc w _ _ (hi.gr (n:=n) ((di hB).trans hb)),λo h=>h⟩) (hi.cT n B hB)
  ·have kD:n=h.length:=by
    have:=(amN.1 hB).1;simp at this;omega
   subst kD;simp at hB;subst hB;exact⟨by rw[fy];exact λhz=>ans _ (hi.z _ hz),λo hs=>by rw[fy]at hs;exact ans _ (hi.S _ _ hs),b, #[.map (some b)],(),by rw[fy];exact World.alloc_heap_new w _,⟨rfl,rfl⟩,λi u c hu hc=>by
    match i with
    |0=>cases hu;cases hc;exact hr.keep hE hN
    |i+1=>simp at hu⟩
 ·have key:∀n b,bz (h++[.it (c,[]) [.mp mb]]) (G.cv w.heap.size) n=some b->(n<G.N/\bz h G n=some b)\/(n=h.length/\b=w.heap.size):=λn b hn=>by
   by_cases aJ:n<G.N
   ·exact .inl ⟨aJ,by rw[<-fk n aJ];exact hn⟩
   ·by_cases e:n=h.length
    ·subst e;rw[rL]at hn;cases hn;exact .inr ⟨rfl,rfl⟩
    ·rw[ue (ank (by simp;have:=hi.len;omega))]at hn;cases hn
  rcases key m b hm with⟨_,iL⟩|⟨rfl,rfl⟩<;>rcases key n _ hn with⟨_,dL⟩|⟨rfl,hb⟩
  ·exact hi.inj m n b iL dL
  ·have:=hi.gr iL;omega
  ·have:=hi.gr dL;omega
  ·rfl
 ·have:=aE.ptr (G:=G.cv w.heap.size) (w:=w.alloc (.mapIter (some b) c #[] c)) h.length 0 (by simp [Gh.cv,hi.len])
  rwa [fy]at this
theorem Xt(hi:bC G w h)(e:TypeId):bC (G.cv w.heap.size) (w.alloc (.cells #[.pointer none, .slice none 0 0] e)) (h++[.dM e [.d (.v (.slice none 0 0))]])/\aE (G.cv w.heap.size) (w.alloc (.cells #[.pointer none, .slice none 0 0] e)) (.pointer (some ⟨w.heap.size,0,none⟩)) (.ptr h.length 0):=by
 have hE:=rD G w hi.z hi.S (.cells #[.pointer none, .slice none 0 0] e);have hN:G.N<=(G.cv w.heap.size).N:=Nat.le_succ _;have fy:(G.cv w.heap.size).aI h.length=w.heap.size:=by simp [Gh.cv,hi.len]
 have kN:∀n(B:ao),n<G.N->B.dw (G.cv w.heap.size) n=B.dw G n:=λn B hn=>by
  cases B<;>simp [ao.dw,Gh.cv,Nat.ne_of_lt hn]
 have fk:∀n,n<G.N->bz (h++[.dM e [.d (.v (.slice none 0 0))]]) (G.cv w.heap.size) n=bz h G n:=λn hn=>by
  have aJ:n<h.length:=by rw[hi.len];exact hn
  unfold bz;rw[amX aJ,amR aJ];exact kN n _ hn
 have rL:bz (h++[.dM e [.d (.v (.slice none 0 0))]]) (G.cv w.heap.size) h.length=some w.heap.size:=by
  rw[di (B:= .dM e [.d (.v (.slice none 0 0))]) (by simp)];exact congrArg some fy
 refine⟨⟨by simp [Gh.cv,hi.len],λb hb=>anb (hi.z b hb) hE.size,λb o hs=>anb (hi.S b o hs) hE.size,λn B hB=> ?_,λm n b hm hn=> ?_,hi.gl.keep hE⟩,?_⟩
 ·by_cases hn:n<h.length
  ·rw[amX hn]at hB;have dL:n<G.N:=hi.len▸hn;exact dB.keep dL hE hN ⟨rfl,rfl,rfl⟩ (λb hb=>⟨Below.heap_alloc w _ _ (hi.gr (n:=n) ((di hB).trans hb)),λo h=>h⟩) (hi.cT n B hB)
  ·have kD:n=h.length:=by
    have:=(amN.1 hB).1;simp at this;omega
   subst kD;simp at hB;subst hB;exact⟨by rw[fy];exact λhz=>ans _ (hi.z _ hz),λo hs=>by rw[fy]at hs;exact ans _ (hi.S _ _ hs),(), #[.slice none 0 0], .pointer none,by rw[fy];exact World.alloc_heap_new w _,⟨rfl, .inl rfl,λv hv=>Or.inl (by simpa using hv)⟩,λi u c hu hc=>by
    match i with
    |0=>cases hu;cases hc;exact .d (.v _)
    |i+1=>simp at hu⟩
 ·have key:∀n b,bz (h++[.dM e [.d (.v (.slice none 0 0))]]) (G.cv w.heap.size) n=some b->(n<G.N/\bz h G n=some b)\/(n=h.length/\b=w.heap.size):=λn b hn=>by
   by_cases aJ:n<G.N
   ·exact .inl ⟨aJ,by rw[<-fk n aJ];exact hn⟩
   ·by_cases e:n=h.length
    ·subst e;rw[rL]at hn;cases hn;exact .inr ⟨rfl,rfl⟩
    ·rw[ue (ank (by simp;have:=hi.len;omega))]at hn;cases hn
  rcases key m b hm with⟨_,iL⟩|⟨rfl,rfl⟩<;>rcases key n _ hn with⟨_,dL⟩|⟨rfl,hb⟩
  ·exact hi.inj m n b iL dL
  ·have:=hi.gr iL;omega
  ·have:=hi.gr dL;omega
  ·rfl
 ·have:=aE.ptr (G:=G.cv w.heap.size) (w:=w.alloc (.cells #[.pointer none, .slice none 0 0] e)) h.length 0 (by simp [Gh.cv,hi.len])
  rwa [fy]at this
theorem FF{n mb:Nat}{sn:Nat×anD Nat}(hi:bC G w h)(hb:h[n]?=some (.it sn [.mp mb])):(∀o,¬G.S (G.aI n) o)/\w.heap[G.aI n]?=some (.mapIter (some (G.aI mb)) sn.1 sn.2.toArray sn.1)/\aE G w (.map (some (G.aI mb))) (.mp mb):=by
 obtain⟨h1,h2,fn,vs,_,h3,⟨_,h4⟩,h5⟩:=hi.cT n _ hb;have:=h5 0 (.map (some fn)) (.mp mb) (by rw[h4];rfl) rfl;cases this with
 |mp _ aJ=>exact⟨h2,h3, .mp mb aJ⟩
theorem Sn(hi:bC G w h):bx G.N G w G w.drew/\bC G w.drew h:=by
 have hE:bx G.N G w G w.drew:=⟨amY _,λ_ _ h=>h,λ_ _ _=>rfl,λ_ _=>rfl,λ_ _=> .inl ⟨rfl,rfl⟩,gV rfl,λ_ _=>rfl,rfl,rfl,rfl,λ_ _ h=> .inl h⟩;exact⟨hE,hi.len,hi.z,hi.S,λn B hB=>dB.keep (hi.lt hB) hE (amY _) ⟨rfl,rfl,rfl⟩ (λ_ _=>⟨rfl,λ_ h=>h⟩) (hi.cT n B hB),hi.inj,hi.gl.keep hE⟩
end
def Ms(P:anG)(o:Oper)(K:St->Prop)(s:St):Prop:=
 match o.op with
 | .range T m=>match tK P T,ev s m with
   |some _, .mp mb=>match s.h[mb]? with
    |some (.iI kv)=>K ((s.wh (s.h++[.it (kv.length,[]) [.mp mb]])).put o.dst (.ptr s.h.length 0))
    |_=>False
   |_,_=>False
 | .next it false=>match ev s it with
   | .ptr m 0=>match s.h[m]? with
     |some (.it sn [.mp mb])=>match s.h[mb]? with
      |some (.iI kv)=>sn.1=kv.length/\(∀b p,kv[b]?=some p->b ∉ sn.2->K ((s.wh (s.h.set m (.it (sn.1,sn.2++[b]) [.mp mb]))).put o.dst (.aQ [.d (.v (.bool true)), .d (.v (.string p.1)), .d p.2])))/\((∀b,b<kv.length->b∈sn.2)->K (s.put o.dst (.aQ [.d (.v (.bool false))])))
      |_=>False
     |_=>False
   |_=>False
 | .entry it=>match ev s it with
   | .ptr m 0=>match s.h[m]? with
     |some (.it sn [.mp mb])=>match s.h[mb]? with
      |some (.iI kv)=>sn.1=kv.length/\∃l b p,sn.2=l++[b]/\kv[b]?=some p/\K (s.put o.dst (.aQ [.d (.v (.string p.1)), .d p.2]))
      |_=>False
     |_=>False
   |_=>False
 | .alloc e=>match iE P e with
   |some z=>z.cells= #[.pointer none, .slice none 0 0]/\K ((s.wh (s.h++[.dM e [.d (.v (.slice none 0 0))]])).put o.dst (.ptr s.h.length 0))
   |none=>False
 | .box e x=>ev s x= .agg [.d (.v (.pointer none)), .d (.v (.slice none 0 0))]/\K ((s.wh (s.h++[.dM e [.d (.v (.slice none 0 0))]])).put o.dst (.ptr s.h.length 0))
 |_=>False
section
variable {P:anG} {r:anF Nat} {n N0:Nat} {G:Gh} {w:anI} {a:Act} {s:St} {o:Oper} {K:St->Prop} {Q:Exit->Act->anI->Prop}
theorem P5{mb:Nat}{kv:anD (anE×D)}(hi:bC G w s.h)(hb:s.h[mb]?=some (.iI kv)):∃es:Array MapEntry,w.heap[G.aI mb]?=some (.map es kv.length)/\yc G.S w es kv.length kv:=by
 obtain⟨_,_,es,c,h1,h2⟩:=hi.cT mb _ hb;have:c=kv.length:=h2.ok.DV.trans h2.all.symm;subst this;exact⟨es,h1,h2⟩
theorem yc.mem{S:Nat->Nat->Prop}{es:Array MapEntry}{c:Nat}{kv:anD (anE×D)}(h:yc S w es c kv){e:MapEntry}(he:e∈es.toList):es[e.born]?=some e/\e.born<kv.length:=by
 obtain⟨i,hi,rfl⟩:=List.getElem_of_mem he;have hs:es[i]?=some es.toList[i]:=by simp
 have hb:=h.ok.born i _ hs;rw[hb];exact⟨hs,by rw[h.all];simpa using hi⟩
theorem ajO(hs:cx G w a s)(bW:N0<=G.N)(hx:Ms P o K s):o.wpIn (WF r) n P a w (iC N0 G w K) Q:=by
 have cS:=hs.ev;have ptr:∀{y:Operand}{n:Nat},ev s y= .ptr n 0->a.eval y= .pointer (some ⟨G.aI n,0,none⟩):=fun{y n} h=>by
  have:=cS y;rw[h]at this;generalize a.eval y=u at this;cases this;rfl
 unfold Ms at hx;split at hx
 next T m ho=>
  split at hx
  ·next ke mb e1 e2=>
   split at hx
   ·next kv hb=>
    obtain⟨es,h1,h2⟩:=P5 hs.inv hb;have hv:=cS m;rw[e2]at hv;have ea:a.eval m= .map (some (G.aI mb)):=by
     generalize a.eval m=u at hv;cases hv;rfl
    rw[ea]at hv;obtain⟨i1,i2,i3⟩:=ahs (c:=kv.length) hs.inv hv;obtain⟨k0,el⟩:=ke;refine ma (by rw[ho];simp) hs bW (v:= .pointer (some ⟨w.heap.size,0,none⟩)) (w':=w.alloc (.mapIter (some (G.aI mb)) kv.length #[] kv.length)) ?_ i1 (Nat.le_succ _) i2 i3 hx;unfold execOp;simp [ho,ea,Instr.range,run_underlying (B9 e1),MapKept.run_getObj_map h1,Result.andThen]
   ·cases hx
  ·cases hx
 next it ho=>
  split at hx
  ·next m e1=>
   split at hx
   ·next sn mb hn=>
    split at hx
    ·next kv hb=>
     obtain⟨hc,hK1,hK2⟩:=hx;obtain⟨es,h1,h2⟩:=P5 hs.inv hb;obtain⟨t1,t2,t3⟩:=FF hs.inv hn;rw[hc]at t2;have hr:=run_next_at (P:=P) w o.type _ _ _ _ _ _ _ t2 h1 (λx hx=>(h2.mem hx).2) (amY _);rcases hr with⟨h0,hr⟩|⟨e',s7,w1,FI,hr⟩
     ·refine eJ (by rw[ho];simp) hs bW (v:= .tuple #[.bool false]) ?_ (.aQ _ _ rfl λi u c hu hc=> ?_) (hK2 λb eI=> ?_)
      ·unfold execOp;simp [ho,ptr e1,hr]
      ·match i with
       |0=>cases hu;cases hc;exact .d (.v _)
       |i+1=>simp at hu
      ·have aJ:b<es.size:=by rw[<-h2.all];exact eI
       have FT:es[b]?=some es[b]:=am9 aJ;have EK:=h2.ok.born b _ FT;have K6:leftOf es sn.2.toArray= #[]:=Array.eq_empty_of_size_eq_zero h0;unfold leftOf at K6;rw[Array.filter_eq_empty_iff]at K6;have:=K6 es[b] (Array.getElem_mem aJ);rw[EK]at this
       simpa using this
     ·have hm:e'∈es.toList/\e'.born ∉ sn.2:=by
       unfold leftOf at s7;simp only[Array.toList_filter,List.mem_filter]at s7;exact⟨s7.1,by simpa using s7.2⟩
      obtain⟨q1,q2⟩:=h2.mem hm.1;obtain⟨p,p1,p2,p3⟩:=h2.ord _ _ q1;have hK:=hK1 e'.born p p1 hm.2;obtain⟨iA,wL⟩:bx G.N G w G w1/\bC G w1 s.h:=by
       rcases FI with rfl|rfl
       ·exact⟨bx.refl _ _ _,hs.inv⟩
       ·exact Sn hs.inv
      obtain⟨t1',t2',_⟩:=FF wL hn;obtain⟨z1,z2,z3,z4,z5,z6,z7⟩:=wL.cT m _ hn;obtain⟨iP,HA⟩:=Qt (B':= .it (sn.1,sn.2++[e'.born]) [.mp mb]) (xE:= .mapIter (some (G.aI mb)) kv.length (sn.2.toArray.push e'.born) kv.length) wL hn rfl t1' t2' (.inr rfl) λw' ff dS hE=>by
       have hvv:=(FF wL hn).2.2;refine⟨z1,z2,G.aI mb, #[.map (some (G.aI mb))],(),?_,⟨rfl,rfl⟩,λi u c hu hc=> ?_⟩
       ·rw[dS];simp [hc]
       ·match i with
        |0=>cases hu;cases hc;exact hvv.keep hE (amY _)
        |i+1=>simp at hu
      refine ma (by rw[ho];simp) hs bW (v:= .tuple #[.bool true,e'.key,e'.val]) ?_ (iA.trans iP) (amY _) HA (.aQ _ _ rfl λi u c hu hc=> ?_) hK
      ·unfold execOp;simp only[ho,ptr e1];simp [hr];rfl
      ·match i with
       |0=>cases hu;cases hc;exact .d (.v _)
       |1=>cases hu;cases hc;rw[p2];exact .d (.v _)
       |2=>cases hu;cases hc;exact .d (p3.keep (iA.trans iP).S (iA.trans iP).cell)
       |i+3=>simp at hu
    ·cases hx
   ·cases hx
  ·cases hx
 next it ho=>
  split at hx
  ·next m e1=>
   split at hx
   ·next sn mb hn=>
    split at hx
    ·next kv hb=>
     obtain⟨hc,l,b,p,hl,hp,hK⟩:=hx;obtain⟨es,h1,h2⟩:=P5 hs.inv hb;obtain⟨t1,t2,t3⟩:=FF hs.inv hn;have aJ:b<es.size:=by rw[<-h2.all];exact(amN.1 hp).1
     have FT:es[b]?=some es[b]:=am9 aJ;have EK:=h2.ok.born b _ FT;obtain⟨p',p1,p2,p3⟩:=h2.ord _ _ FT;rw[hp]at p1;cases p1
     have jv:(es.toList.map (·.born)).Nodup:=by
      have e:es.toList.map (·.born)=List.range es.size:=by
       apply List.ext_getElem?;intro i;rw[amU,ana];by_cases hi:i<es.size
       ·rw[am9 hi,Option.map_some,h2.ok.born i _ (am9 hi),List.getElem?_range hi]
       ·rw[Array.getElem?_eq_none (by omega),ank (by simp;omega)];rfl
      rw[e];exact List.nodup_range
     have hr:=run_entry_at (P:=P) w (G.aI m) (G.aI mb) sn.1 l.toArray es kv.length es[b] (by rw[t2,hl,EK,hc];simp) h1 (by simp) jv;refine eJ (by rw[ho];simp) hs bW (v:= .tuple #[es[b].key,es[b].val]) ?_ (.aQ _ _ rfl λi u c hu hc=> ?_) hK
     ·unfold execOp;simp [ho,ptr e1,hr]
     ·match i with
      |0=>cases hu;cases hc;rw[p2];exact .d (.v _)
      |1=>cases hu;cases hc;exact .d p3
      |i+2=>simp at hu
    ·cases hx
   ·cases hx
  ·cases hx
 next e ho=>
  split at hx
  ·next z hz=>
   obtain⟨hc,hK⟩:=hx;obtain⟨i1,i2⟩:=Xt hs.inv e;exact ma (by rw[ho];simp) hs bW (by unfold execOp;simp [ho,Instr.alloc,CA hz,newVar,newRow,hc]) (rD G w hs.inv.z hs.inv.S _) (Nat.le_succ _) i1 i2 hK
  ·cases hx
 next e x ho=>
  obtain⟨hx1,hK⟩:=hx;have hc:(a.eval x).cells= #[.pointer none, .slice none 0 0]:=by
   have hv:=cS x;rw[hx1]at hv;generalize a.eval x=u at hv;cases hv with|agg vs _ hl hr=>
   obtain⟨l⟩:=vs
   match l,hl with
   |[p,q],_=>
    have h0:=(hr 0 p _ rfl rfl).val;have h1:=(hr 1 q _ rfl rfl).val;subst h0;subst h1;rfl
  obtain⟨i1,i2⟩:=Xt hs.inv e;exact ma (by rw[ho];simp) hs bW (by unfold execOp;simp [ho,Instr.box,newVar,newRow,hc]) (rD G w hs.inv.z hs.inv.S _) (Nat.le_succ _) i1 i2 hK
 ·cases hx
end
def iG(ops:Array Oper)(o:Oper)(s:St)(yes no:Prop):Prop:=
 match o.guard with
 |none=>yes
 |some (j,want)=>match (ops[j]?).bind (·.dst)with
  |some d=>match aY s.t d with
   | .d (.v (.bool b))=>(b=want->yes)/\(b= !want->no)
   | .d (.v (.tuple _))=>no
   |_=>False
  |none=>False
structure bj(P:Program)(r:Option Nat)(N0:Nat)(c:Code)(Q:Exit->St->Prop)(s:St):Prop where
 run:∀(G:Gh)(w:World)(a:Act)(n:Nat),cx G w a s->N0<=G.N->c.wpIn (WF r) n P (λe a' w'=>iC N0 G w (Q e) a' w') a w
def ig(K:St->Prop)(Q:Exit->St->Prop):Exit->St->Prop
 | .normal,s=>K s
 |e,s=>Q e s
def lk:Nat->anD AV->anD (Nat×AV)
 |_,[]=>[]
 |k,x::l=>(k,x)::lk (k+1) l
theorem Ny:∀(l:anD AV)(k i:Nat),aY (lk k l) i=if k<=i then(l[i-k]?).getD .dead else .dead
 |[],k,i=>by simp [lk,aY]
 |x::l,k,i=>by
  rw[lk,nh,Ny l (k+1) i];by_cases h:i=k
  ·subst h;simp
  ·rw[if_neg h];by_cases h2:k<=i
   ·rw[if_pos (by omega),if_pos h2,show i-k=i-(k+1)+1 by omega,anp]
   ·rw[if_neg (by omega),if_neg h2]
def YS(P:anG)(k:Nat)(x:AV)(h:anD ao)(C:Bool->anD ao->Prop):Prop:=
 ∀(G:Gh)(w:anI)(v:anH)(r:anF Nat)(n:Nat),bC G w h->aE G w v x->k<G.N/\∃(p:Nat)(as bd:Code)(fn:FuncId)(tm:Array anH)(D:Nat),
  w.heap[G.aI k]?=some (.loop {state:= .ready,pending:=none,fn:=fn,tmps:=tm,params:= #[p],assign:=as,body:=bd,defers:=D})/\
  RoundIn (WF r) n P (G.aI k) fn (tm.setIfInBounds p v) as bd w λe w'=>∃(b:Bool)(G':Gh)(h':anD ao),e= .returned (.bool b)/\bx G.N G w G' w'/\G.N<=G'.N/\bC G' w' h'/\C b h'
def adE(C:Bool->anD ao->Prop)(k:Nat):Exit->St->Prop
 | .normal,s2=>∃p as bd j0,s2.h[k]?=some (.lp .busy p as bd j0)/\C true (s2.h.set k (.lp .ready p as bd j0))
 | .ret,s2=>∃p as bd j0,s2.h[k]?=some (.lp .busy p as bd j0)/\C false (s2.h.set k (.lp (.done .ret) p as bd j0))
 | .exit i,s2=>∃p as bd j0,s2.h[k]?=some (.lp .busy p as bd j0)/\C false (s2.h.set k (.lp (.done (.exit i)) p as bd j0))
 |_,_=>False
def H9(P:anG)(o:Oper)(K:St->Prop)(s:St):Prop:=
 match o.op with
 | .call c=>match c.callee with
   | .value f=>match ev s f,c.args.toList.map (ev s)with
     | .cF k,[x]=>YS P k x s.h λb h'=>K ((s.wh h').put o.dst (.d (.v (.bool b))))
     |_,_=>False
   |_=>False
 |_=>False
def aj5(P:anG)(o:Oper)(K:St->Prop)(s:St):Prop:=∃x h',Oz P o.op (ev s) s.h=some (x,h')/\K ((s.wh h').put o.dst x)
def rf(P:anG)(o:Oper)(K:St->Prop)(s:St):Prop:=J7 P o K s\/Fs P o K s\/qC P o K s\/H9 P o K s\/aj5 P o K s\/Ms P o K s
def sS(P:anG)(ops:Array Oper):anD Oper->(St->Prop)->St->Prop
 |[],K,s=>K s
 |o::rest,K,s=>iG ops o s (rf P o (sS P ops rest K) s) (sS P ops rest K (s.put o.dst (.d (.v undef))))
def qm(id:Nat)(Q:Exit->St->Prop):Exit->St->Prop
 | .exit qY,s=>bif qY==id then Q .normal s else Q (.exit qY) s
 |e,s=>Q e s
section
variable {P:anG} {r:anF Nat} {n N0:Nat} {G:Gh} {w:anI} {a:Act} {s:St} {o:Oper} {Q:Exit->St->Prop}
theorem iC.mono{K K':St->Prop}(h:∀s,K s->K' s){a':Act}{w':anI}(hn:iC N0 G w K a' w'):iC N0 G w K' a' w':=
 let ⟨G',s',h1,h2,h3,h4⟩:=hn;⟨G',s',h1,h2,h3,h _ h4⟩
theorem iC.trans{K:St->Prop}{G1:Gh}{w1:anI}(hE:bx N0 G w G1 w1){a':Act}{w':anI}(hn:iC N0 G1 w1 K a' w'):iC N0 G w K a' w':=
 let ⟨G',s',h1,h2,h3,h4⟩:=hn;⟨G',s',hE.trans h1,h2,h3,h4⟩
theorem bj.mono{c:Code}{Q':Exit->St->Prop}(h:bj P r N0 c Q s)(hq:∀e s,Q e s->Q' e s):bj P r N0 c Q' s:=
 ⟨λG w a n hs hN=>wpIn_mono (h.run G w a n hs hN) λe _ _ hn=>hn.mono (hq e)⟩
theorem PF{ops:Array Oper}{yes no:Prop}(hs:cx G w a s)(h:iG ops o s yes no):if Region.wanted o (yielded ops a.tmps)then yes else no:=by
 unfold iG at h;split at h
 ·rename_i hg
  rw[if_pos (by simp [Region.wanted,hg])];exact h
 ·rename_i j want hg
  split at h
  ·rename_i d hd
   have hv:=hs.tmp d;split at h
   ·rename_i b hb
    rw[hb]at hv;have e:=hv.bool;have hy:yielded ops a.tmps j=some b:=by
      unfold yielded;rw[hd,amM];by_cases aJ:d<a.tmps.size
      ·rw[am9 aJ];have:a.tmps.getD d undef=a.tmps[d]:=by simp [Array.getD,aJ]
       rw[this]at e;rw[e]
      ·have:a.tmps.getD d undef=undef:=by simp [Array.getD,aJ]
       rw[this]at e;cases e
    by_cases xW:b=want
    ·rw[if_pos (by simp [Region.wanted,hg,hy,xW])];exact h.1 xW
    ·rw[if_neg (by simp [Region.wanted,hg,hy,xW])];exact h.2 (by cases b<;>cases want<;>simp_all)
   ·rename_i vs hb
    rw[hb]at hv;have e:=hv.val;have hy:yielded ops a.tmps j=none:=by
      unfold yielded;rw[hd,amM];by_cases aJ:d<a.tmps.size
      ·rw[am9 aJ];have:a.tmps.getD d undef=a.tmps[d]:=by simp [Array.getD,aJ]
       rw[this]at e;rw[e]
      ·rw[Array.getElem?_eq_none (Nat.le_of_not_lt aJ)]
    rw[if_neg (by simp [Region.wanted,hg,hy])];exact h
   ·exact h.elim
  ·exact h.elim
theorem YS.mono{k:Nat}{x:AV}{h:anD ao}{C C':Bool->anD ao->Prop}(hy:YS P k x h C)(hc:∀b h',C b h'->C' b h'):YS P k x h C':=λG w v r n hi hv=>
 let ⟨h0,p,as,bd,fn,tm,D,h1,h2⟩:=hy G w v r n hi hv
 ⟨h0,p,as,bd,fn,tm,D,h1,h2.mono λ_ _ ⟨b,G',h',a1,a2,a3,a4,a5⟩=>⟨b,G',h',a1,a2,a3,a4,hc _ _ a5⟩⟩
theorem ZM{k:Nat}{x:AV}{h:anD ao}{C:Bool->anD ao->Prop}
 (hA:∃p as bd cs,h[k]?=some (.lp .ready p as bd cs)/\p<cs.length/\∀(l:Nat),bj P (some l) h.length as (ig (λs1=>∃p1 sI s5 xC,s1.h[k]?=some (.lp .ready p1 sI s5 xC)/\bj P (some l) h.length bd (adE C k) ⟨s1.n,s1.t,s1.h.set k (.lp .busy p1 sI s5 xC)⟩) (λ_ _=>False)) ⟨cs.length,(p,x)::lk 0 cs,h⟩):YS P k x h C:=by
 intro G w v r n hi MS;obtain⟨p,as,bd,cs,hk,hp,hA⟩:=hA;have yL:k<G.N:=hi.lt hk;obtain⟨hS,fn,tm,D,h3,h4,h5,amD⟩:=HS hi hk;refine⟨yL,p,as,bd,fn,tm,D,h3,?_⟩;refine roundIn_of_wpIn (F:=WF r) trivial ?_;have NB:cx G w {tmps:=tm.setIfInBounds p v,defers:=[]} ⟨cs.length,(p,x)::lk 0 cs,h⟩:=by
  refine⟨by simp [h4],λi=> ?_,hi,rB.nil _ _⟩;show aE _ _ _ (aY ((p,x)::lk 0 cs) i);rw[nh];split
  ·next e=>
   subst e;have:(tm.setIfInBounds i v).getD i undef=v:=by simp [Array.getD,h4,hp]
   rw[this];exact MS
  ·next e=>
   rw[Ny];simp only[Nat.zero_le,if_true,Nat.sub_zero];cases ff:cs[i]? with
   |none=>exact .dead _
   |some y=>
    have aJ:i<tm.size:=by rw[h4];exact(amN.1 ff).1
    have:(tm.setIfInBounds p v).getD i undef=tm[i]:=by
     simp [Array.getD,aJ,Ne.symm e]
    rw[this];exact h5 i _ y (am9 aJ) ff
 have HX:=hA (G.aI k);rw[hi.len]at HX;refine wpIn_mono (HX.run G w _ n NB (amY _)) λe1 a1 w1 DN=> ?_;obtain⟨G1,s1,iA,ga,eG,tb⟩:=DN;cases e1 with
 |normal=>
  obtain⟨p1,sI,s5,xC,jc,kI⟩:=tb;have DP:G1.aI k=G.aI k:=iA.aI k yL;obtain⟨_,fn1,tm1,D1,g3,g4,g5,XP⟩:=HS eG.inv jc;obtain⟨gE,gI⟩:=XP .busy;rw[DP]at g3 gE gI;refine⟨_,run_beginRound g3 rfl,?_⟩;have vD:cx G1 (w1.putObj (G.aI k) (.loop {state:= .busy,pending:=none,fn:=fn1,tmps:=tm1,params:= #[p1],assign:=sI,body:=s5,defers:=D1})) a1 ⟨s1.n,s1.t,s1.h.set k (.lp .busy p1 sI s5 xC)⟩:=eG.move gE (amY _) gI;refine wpIn_mono (kI.run G1 _ a1 n vD ga) λe3 a3 w3 hn3=> ?_;obtain⟨G3,s3,W0,XA,hs3,nQ⟩:=hn3;have fin:∀(jump:anF Code)(ls:LS)(b:Bool)(p:Nat)(as bd:Code)(j0:anD AV),s3.h[k]?=some (.lp .busy p as bd j0)->ls.pd=jump->ls.st=(if jump.isNone then .ready else .done)->jump.isNone=b->C b (s3.h.set k (.lp ls p as bd j0))->
   ∃v w',(Instr.endRound (G.aI k) jump).run P w3= .ok v w'/\∃(b:Bool)(G':Gh)(h':anD ao),(Ending.returned v:Ending)= .returned (.bool b)/\bx G.N G w G' w'/\G.N<=G'.N/\bC G' w' h'/\C b h':=λjump ls b p as bd j0 H7 q1 q2 q3 hK=>by
   have ZO:G3.aI k=G.aI k:=(W0.aI k yL).trans DP;obtain⟨_,fn3,tm3,D3,z3,z4,z5,adO⟩:=HS hs3.inv H7;obtain⟨zE,zI⟩:=adO ls;rw[ZO]at z3 zE zI;subst q1;have Cw:=run_endRound (P:=P) ls.pd z3;rw[<-q2]at Cw;refine⟨_,_,Cw,b,G3,_,by rw[q3],?_,XA,zI,hK⟩;exact(iA.trans ((gE.less ga).trans W0)).trans (zE.less XA)
  cases e3 with
  |normal=>obtain⟨p2,E8,EG,j0,y1,y2⟩:=nQ;exact fin none .ready true p2 E8 EG j0 y1 rfl rfl rfl y2
  |ret=>obtain⟨p2,E8,EG,j0,y1,y2⟩:=nQ;exact fin (some .ret) (.done .ret) false p2 E8 EG j0 y1 rfl rfl rfl y2
  |exit i=>obtain⟨p2,E8,EG,j0,y1,y2⟩:=nQ;exact fin (some (.exit i)) (.done (.exit i)) false p2 E8 EG j0 y1 rfl rfl rfl y2
  |_=>exact nQ.elim
 |_=>exact tb.elim
theorem abj{K:St->Prop}{Q:Exit->Act->anI->Prop}(hs:cx G w a s)(hN:N0<=G.N)(h:H9 P o K s):o.wpIn (WF r) n P a w (iC N0 G w K) Q:=by
 unfold H9 at h;split at h
 ·next c ho=>
  split at h
  ·next f hc=>
   split at h
   ·next k x hf hx=>
    have hv:=hs.ev f;rw[hf]at hv;have ea:a.eval f= .func (.yield (G.aI k)) #[] #[]:=by
     generalize a.eval f=u at hv;cases hv;rfl
    obtain⟨p1,p2⟩:=wD hs c.args;obtain⟨v,sm⟩:∃v,c.args.map a.eval= #[v]:=by
     have:(c.args.map a.eval).size=1:=by rw[p1,hx];rfl
     exact⟨(c.args.map a.eval)[0],Array.ext (by simp [this]) λi h1 h2=>by
      have:i=0:=by simp at h2;exact h2
      subst this;rfl⟩
    have MS:aE G w v x:=p2 0 v x (by rw[sm];rfl) (by rw[hx];rfl);obtain⟨yL,p,as,bd,fn,tm,D,h3,hA⟩:=h G w v r (n-1) hs.inv MS;have jv:∀c',o.op≠ .defer c':=λc' e=>by rw[ho]at e;cases e
    have hy:=run_yield (P:=P) (args:= #[v]) h3 rfl;have de:(o.semAt (WF r).round a.eval).run P w= .ok (.round (G.aI k) fn (tm.setIfInBounds p v) as bd) w:=by
     rw[Oper.semAt_eq _ _ _ jv];unfold execOp;simp only[ho,resolve,hc,ea];simp [Deferred.ofValue,invoke,sm,hy]
    unfold Oper.wpIn;refine⟨λg hg=>trivial,?_⟩;rw[de,Oper.uponIn_round];refine⟨λh=>(by simp [WF,Fence.wide]at h),hA.mono λe w' hp=> ?_⟩;obtain⟨b,G',h',rfl,hE,tD,dx,hK⟩:=hp;exact⟨G',_,hE.less hN,am5 hN tD,(hs.move hE tD dx).put (.d (.v _)) o.dst,hK⟩
   ·exact h.elim
  ·exact h.elim
 ·exact h.elim
theorem ahZ{K:St->Prop}{Q:Exit->Act->anI->Prop}(hs:cx G w a s)(hN:N0<=G.N)(h:rf P o K s):o.wpIn (WF r) n P a w (iC N0 G w K) Q:=by
 rcases h with h|h|h|h|⟨x,h',h,hK⟩|h
 ·exact Q6 hs hN (.inl h)
 ·exact Q6 hs hN (.inr (.inl h))
 ·exact Q6 hs hN (.inr (.inr h))
 ·exact abj hs hN h
 ·exact acv hs hN h hK
 ·exact ajO hs hN h
theorem Kz{ops:Array Oper}{K:St->Prop}{Q':Exit->Act->anI->Prop}(hQ:∀a' w',iC N0 G w K a' w'->Q' .normal a' w'):∀(l:anD Oper)(k:Nat),(∀j,l[j]?=ops[k+j]?)->∀(G1:Gh)(w1:anI)(a:Act)(s:St),
 bx N0 G w G1 w1->N0<=G1.N->cx G1 w1 a s->sS P ops l K s->wpOpsIn (WF r) n P ops Q' (List.range' k l.length) a w1
 |[],k,_,G1,w1,a,s,hE,hN,hs,h=>hQ _ _ ⟨G1,s,hE,hN,hs,h⟩
 |o::l,k,hl,G1,w1,a,s,hE,hN,hs,h=>by
  have h0:ops[k]?=some o:=by simpa using (hl 0).symm
  have yN:∀j,l[j]?=ops[k+1+j]?:=λj=>by have:=hl (j+1);simpa [Nat.add_assoc,Nat.add_comm 1 j]using this
  have hg:=PF hs h;simp only[amQ,List.range'_succ,wpOpsIn,h0];split
  ·rename_i hw
   rw[if_pos hw]at hg;exact Oper.wpIn_mono (λa' w' hn=>by
     obtain⟨G2,s2,e2,n2,wg,k2⟩:=hn;exact Kz hQ l (k+1) yN G2 w' a' s2 (hE.trans e2) n2 wg k2) (ahZ hs hN hg)
  ·rename_i hw
   rw[if_neg hw]at hg;exact⟨λ_ _=>trivial,Kz hQ l (k+1) yN G1 w1 _ _ hE hN (hs.put (.d (.v undef)) o.dst) hg⟩
theorem fQ{id:Nat}{ops:Array Oper}(h:sS P ops ops.toList (Q .normal) s):bj P r N0 (.region id ops false) Q s:=by
 constructor
 intro G w a n hs hN;refine wpIn_region ?_;rw[List.range_eq_range',<-anl];exact Kz (G:=G) (w:=w) (K:=Q .normal) (λ_ _ h=>h) ops.toList 0 (by simp) G w a s (bx.refl _ _ _) hN hs h
theorem fj(h:Q .normal s):bj P r N0 .skip Q s:=⟨λG _ _ _ hs hN=>wpIn_skip ⟨G,s,bx.refl _ _ _,hN,hs,h⟩⟩
theorem dz(h:Q .ret s):bj P r N0 .ret Q s:=⟨λG _ _ _ hs hN=>wpIn_ret ⟨G,s,bx.refl _ _ _,hN,hs,h⟩⟩
theorem x9{id:Nat}(h:Q (.exit id) s):bj P r N0 (.exit id) Q s:=⟨λG _ _ _ hs hN=>wpIn_exit ⟨G,s,bx.refl _ _ _,hN,hs,h⟩⟩
theorem aR{x y:Code}(h:bj P r N0 x (ig (λs'=>bj P r N0 y Q s') Q) s):bj P r N0 (.seq x y) Q s:=by
 constructor
 intro G w a n hs hN;refine wpIn_seq (wpIn_mono (h.run G w a n hs hN) λe a1 w1 hn=> ?_);obtain⟨G1,s1,hE,ga,eG,hq⟩:=hn;cases e with
 |normal=>exact wpIn_mono (hq.run G1 w1 a1 n eG ga) λ_ _ _ hn=>hn.trans hE
 |_=>exact⟨G1,s1,hE,ga,eG,hq⟩
theorem M4{c:Operand}{x y:Code}{t:Bool}(hc:ev s c= .d (.v (.bool t)))(h1:t=true->bj P r N0 x Q s)(h2:t=false->bj P r N0 y Q s):bj P r N0 (.cond c x y) Q s:=by
 constructor
 intro G w a n hs hN;have hb:=hs.ev c;rw[hc]at hb;exact wpIn_cond_split hb.bool (λe=>(h1 e).run G w a n hs hN) (λe=>(h2 e).run G w a n hs hN)
theorem la{id:Nat}{c:Code}(h:bj P r N0 c (qm id Q) s):bj P r N0 (.block id c) Q s:=by
 constructor
 intro G w a n hs hN;refine wpIn_block (wpIn_mono (h.run G w a n hs hN) λe a1 w1 hn=> ?_);obtain⟨G1,s1,hE,ga,eG,hq⟩:=hn;cases e with
 |exit qY=>
  by_cases he:qY=id
  ·simp only[qm,he,BEq.rfl,cond_true]at hq;simp only[Exit.inBlock,if_pos he];exact⟨G1,s1,hE,ga,eG,hq⟩
  ·have hbe:(qY==id)=false:=by simpa using he
   simp only[qm,hbe,cond_false]at hq;simp only[Exit.inBlock,if_neg he];exact⟨G1,s1,hE,ga,eG,hq⟩
 |_=>exact⟨G1,s1,hE,ga,eG,hq⟩
theorem RB{F:Fence}{c:Code}{Q:Exit->Act->anI->Prop}{ι:Type}(I:ι->Act->anI->Prop)(μ:ι->Nat)(i0:ι)(h₀:I i0 a w)
 (round:∀i a w,I i a w->c.wpIn F n P (Exit.then (λa' w'=>∃i',I i' a' w'/\μ i'<μ i) Q) a w):(Code.loop c).wpIn F n P Q a w:=by
 intro b k cs AG hb hr;have key:∀j i a w,μ i=j->I i a w->
  ∃e a' w',Q e a' w'/\ArrivesIn (Machine.fenced P F) P (lone (b.atR a (.code c:: .inLoop c::k)) cs w) b k cs e a' w':=by
  intro j
  induction j using Nat.strongRecOn with
  |_ j ih=>
   intro i a w hn hI;obtain⟨e,a₁,w₁,hq,ud⟩:=round i a w hI b (.inLoop c::k) cs AG hb hr;cases e with
   |normal=>
    obtain⟨i',hI₁,aJ⟩:=hq;obtain⟨e₂,a₂,w₂,hq₂,abi⟩:=ih (μ i') (hn▸aJ) i' a₁ w₁ rfl hI₁;exact⟨e₂,a₂,w₂,hq₂, .of_steps (StepsIn.trans ud (.one (fenced_calm hb hr rfl) stepR_inLoop)) abi⟩
   |exit id=>exact⟨_,a₁,w₁,hq, .pass (x:= .inLoop c) rfl (λ_ _=> .inl (by simp)) ud⟩
   |goto l=>exact⟨_,a₁,w₁,hq, .pass (x:= .inLoop c) rfl (λ_ _=> .inl (by simp)) ud⟩
   |ret=>exact⟨_,a₁,w₁,hq, .pass (x:= .inLoop c) rfl (λ_ _=> .inl (by simp)) ud⟩
   |panic ch=>exact⟨_,a₁,w₁,hq, .pass (x:= .inLoop c) rfl (λ_ _=> .inl (by simp)) ud⟩
   |outgrown=>exact⟨_,a₁,w₁,hq, .pass (x:= .inLoop c) rfl (λ_ _=> .inl (by simp)) ud⟩
 obtain⟨e,a',w',hq,ud⟩:=key _ i0 a w rfl h₀;exact⟨e,a',w',hq, .of_steps (.one (fenced_calm hb hr rfl) stepR_loop) ud⟩
end
mutual
def AV.aV(m:Nat):AV->AV
 | .own n xs=>bif bS m n then .d (.sl xs)else .own n xs
 | .agg cs=> .agg (AV.px m cs)
 | .aQ cs=> .aQ (AV.px m cs)
 | .fn f cs=> .fn f (AV.px m cs)
 |x=>x
def AV.px(m:Nat):anD AV->anD AV
 |[]=>[]
 |x::l=>x.aV m::AV.px m l
end
mutual
def AV.aH(m:Nat):AV->Bool
 | .own n _| .ptr n _| .row n _ _ _ _| .mp n| .cF n| .vec n _ _ _ _| .db n _ _ _ _=> !bS m n
 | .agg cs=>AV.ni m cs
 | .aQ cs=>AV.ni m cs
 | .fn _ cs=>AV.ni m cs
 |_=>true
def AV.ni(m:Nat):anD AV->Bool
 |[]=>true
 |x::l=>x.aH m&&AV.ni m l
end
theorem CL(m:Nat):∀l,AV.px m l=l.map (AV.aV m)
 |[]=>by simp [AV.px]
 |x::l=>by simp [AV.px,CL m l]
theorem mM(m:Nat):∀l,AV.ni m l=l.all (AV.aH m)
 |[]=>by simp [AV.ni]
 |x::l=>by simp [AV.ni,mM m l]
def ao.aV(m:Nat):ao->ao
 | .cells cs=> .cells (cs.map (AV.aV m))
 | .lp ls p as bd cs=> .lp ls p as bd (cs.map (AV.aV m))
 | .it sn cs=> .it sn (cs.map (AV.aV m))
 | .dM T cs=> .dM T (cs.map (AV.aV m))
 | .vec e k cs=> .vec e k (cs.map (·.map (AV.aV m)))
 |B=>B
def ao.aH(m:Nat):ao->Bool
 | .cells cs=>cs.all (AV.aH m)
 | .lp _ _ _ _ cs=>cs.all (AV.aH m)
 | .it _ cs=>cs.all (AV.aH m)
 | .dM _ cs=>cs.all (AV.aH m)
 | .vec _ _ cs=>cs.all (·.all (AV.aH m))
 |_=>true
theorem aE.aV{G:Gh}{w:anI}(m:Nat){u:anH}{x:AV}(h:aE G w u x):aE G w u (x.aV m):=by
 have fR:∀(vs:Array anH)(cs:anD AV),(∀(i:Nat)(u:anH)(c:AV),vs[i]?=some u->cs[i]?=some c->aE G w u (c.aV m))->∀(i:Nat)(u:anH)(c:AV),vs[i]?=some u->(AV.px m cs)[i]?=some c->aE G w u c:=by
  intro vs cs ih i u c hu hc;rw[CL,amU]at hc;cases hx:cs[i]? with
  |none=>rw[hx]at hc;cases hc
  |some x=>rw[hx]at hc;cases hc;exact ih i u x hu hx
 induction h with
 |agg vs cs hl _ ih=>rw[AV.aV];exact .agg vs _ (by rw[CL,amS];exact hl) (fR vs cs ih)
 |aQ vs cs hl _ ih=>rw[AV.aV];exact .aQ vs _ (by rw[CL,amS];exact hl) (fR vs cs ih)
 |fn f vs cs hl _ ih=>rw[AV.aV];exact .fn f vs _ (by rw[CL,amS];exact hl) (fR vs cs ih)
 |own n xs h hp hle hf=>
  rw[AV.aV,cond_eq_ite];split
  ·exact .d hp
  ·exact .own n xs h hp hle hf
 |d h=>simp only[AV.aV];exact .d h
 |ptr n off h=>simp only[AV.aV];exact .ptr n off h
 |ba xs i off b o u x hx hS hu=>simp only[AV.aV];exact .ba xs i off b o u x hx hS hu
 |full xs hp hf=>simp only[AV.aV];exact .full xs hp hf
 |row n off len cap k h hl hm=>simp only[AV.aV];exact .row n off len cap k h hl hm
 |mp n h=>simp only[AV.aV];exact .mp n h
 |cF n h=>simp only[AV.aV];exact .cF n h
 |vec n o len L k h hs hL hf=>simp only[AV.aV];exact .vec n o len L k h hs hL hf
 |db n i j L k h hs hL hf=>simp only[AV.aV];exact .db n i j L k h hs hL hf
 |hid h h1=>simp only[AV.aV];exact .hid h h1
 |dead u=>simp only[AV.aV];exact .dead u
def Gh.cut(G:Gh)(m:Nat):Gh:={G with N:=m}
theorem aE.cut{G:Gh}{w:anI}{m:Nat}{u:anH}{x:AV}(h:aE G w u x)(hb:x.aH m=true):aE (G.cut m) w u x:=by
 induction h with
 |agg vs cs hl _ ih=>
  rw[AV.aH,mM,ane]at hb;exact .agg vs cs hl λi u c hu hc=>ih i u c hu hc (hb c (am0 hc))
 |aQ vs cs hl _ ih=>
  rw[AV.aH,mM,ane]at hb;exact .aQ vs cs hl λi u c hu hc=>ih i u c hu hc (hb c (am0 hc))
 |fn f vs cs hl _ ih=>
  rw[AV.aH,mM,ane]at hb;exact .fn f vs cs hl λi u c hu hc=>ih i u c hu hc (hb c (am0 hc))
 |own n xs h hp hle hf=>rw[AV.aH]at hb;exact .own n xs (show n<m by rw[Bool.not_eq_true',<-Bool.not_eq_true,dy]at hb;omega) hp hle hf
 |ptr n off h=>rw[AV.aH]at hb;exact .ptr (G:=G.cut m) n off (show n<m by rw[Bool.not_eq_true',<-Bool.not_eq_true,dy]at hb;omega)
 |row n off len cap k h hl hm=>rw[AV.aH]at hb;exact .row (G:=G.cut m) n off len cap k (show n<m by rw[Bool.not_eq_true',<-Bool.not_eq_true,dy]at hb;omega) hl hm
 |mp n h=>rw[AV.aH]at hb;exact .mp (G:=G.cut m) n (show n<m by rw[Bool.not_eq_true',<-Bool.not_eq_true,dy]at hb;omega)
 |cF n h=>rw[AV.aH]at hb;exact .cF (G:=G.cut m) n (show n<m by rw[Bool.not_eq_true',<-Bool.not_eq_true,dy]at hb;omega)
 |vec n o len L k h hs hL hf=>rw[AV.aH]at hb;exact .vec (G:=G.cut m) n o len L k (show n<m by rw[Bool.not_eq_true',<-Bool.not_eq_true,dy]at hb;omega) hs hL hf
 |db n i j L k h hs hL hf=>rw[AV.aH]at hb;exact .db (G:=G.cut m) n i j L k (show n<m by rw[Bool.not_eq_true',<-Bool.not_eq_true,dy]at hb;omega) hs hL hf
 |hid h h1=>exact .hid (G:=G.cut m) h h1
 |d h=>exact .d h
 |ba xs i off b o u x hx hS hu=>exact .ba xs i off b o u x hx hS hu
 |full xs hp hf=>exact .full xs hp hf
 |dead u=>exact .dead u
def St.mask(s:St)(live:anD Nat)(m:Nat):St:={s with t:=live.map λk=>(k,(aY s.t k).aV m),h:=(s.h.take m).map (ao.aV m)}
def St.zk(s:St)(live:anD Nat)(m:Nat):Prop:=m<=s.h.length/\(live.all λk=>((aY s.t k).aV m).aH m)=true/\(((s.h.take m).map (ao.aV m)).all (ao.aH m))=true
theorem sb(f:Nat->AV):∀(live:anD Nat)(i:Nat),aY (live.map λk=>(k,f k)) i=if i∈live then f i else .dead
 |[],i=>by simp [aY]
 |k::l,i=>by
  simp only[anc,nh,sb f l i,ani];by_cases h:i=k
  ·subst h;simp
  ·simp [h]
theorem NP{G:Gh}{w:anI}{h:anD ao}(hi:bC G w h){m:Nat}(hm:m<=h.length)(hb:(((h.take m).map (ao.aV m)).all (ao.aH m))=true):bC (G.cut m) w ((h.take m).map (ao.aV m)):=by
 have dW:∀(n:Nat)(B:ao),((h.take m).map (ao.aV m))[n]?=some B->n<m/\∃B',h[n]?=some B'/\B=B'.aV m/\(B'.aV m).aH m=true:=λn B hB=>by
  have tH:=ane.1 hb B (am0 hB);rw[amU,List.getElem?_take]at hB;split at hB
  ·rename_i hn
   cases hx:h[n]? with
   |none=>rw[hx]at hB;cases hB
   |some B'=>rw[hx]at hB;cases hB;exact⟨hn,B',rfl,rfl,tH⟩
  ·cases hB
 have dP:∀n b,bz ((h.take m).map (ao.aV m)) (G.cut m) n=some b->bz h G n=some b:=λn b hb=>by
  obtain⟨B,hB,hb⟩:=oB hb;obtain⟨_,B',h1,rfl,_⟩:=dW n B hB;rw[di h1,<-hb];cases B'<;>rfl
 refine⟨by simp [Gh.cut];omega,hi.z,hi.S,λn B hB=> ?_,λi j b h1 h2=>hi.inj i j b (dP i b h1) (dP j b h2),hi.gl⟩;obtain⟨hn,B',h1,rfl,tH⟩:=dW n B hB;have dk:=hi.cT n B' h1;cases B' with
 |gone=>trivial
 |front e k len=>exact dk
 |byt e b=>exact dk
 |map kv=>exact dk
 |iI kv=>exact dk
 |vec e k cs=>
  obtain⟨c1,c2,c3,c4⟩:=dk;refine⟨by rw[amS];exact c1,by rw[amS];exact c2,λc hc=> ?_,?_⟩
  ·obtain⟨x,hx,rfl⟩:=List.mem_map.1 hc;rw[amS];exact c3 x hx
  ·rcases c4 with⟨d1,d2,A,d3⟩|⟨g,cap,cur,d1,d2,d3,d4,d5,d6,d7,d8,d9⟩
   ·exact .inl ⟨d1,by rw[d2];rfl,A,d3⟩
   ·refine .inr ⟨g,cap,cur,d1,by rw[amS];exact d2,d3,d4,by rw[amS];exact d5,d6,d7,d8,λi j c x u hc hx hu=> ?_⟩;simp only[ao.aV,ao.aH,ane]at tH;rw[amU]at hc;cases hy:cs[i]? with
    |none=>rw[hy]at hc;cases hc
    |some y=>
     rw[hy]at hc;cases hc
     have hz:=hx;rw[amU]at hx;cases hw:y[j]? with
     |none=>rw[hw]at hx;cases hx
     |some z=>
      rw[hw]at hx;cases hx
      exact((d9 i j y z u hy hw hu).aV m).cut (tH _ (List.mem_map.2 ⟨y,am0 hy,rfl⟩) _ (am0 hz))
 |cells cs=>
  obtain⟨c1,c2,vs,T,c3,c4,c5⟩:=dk;refine⟨c1,c2,vs,T,c3,by rw[amS];exact c4,λi u c hu hc=> ?_⟩;have mN:=am0 hc;rw[amU]at hc;cases hx:cs[i]? with
  |none=>rw[hx]at hc;cases hc
  |some x=>
   rw[hx]at hc;cases hc
   exact((c5 i u x hu hx).aV m).cut (ane.1 tH _ mN)
 |lp ls p as bd cs=>
  obtain⟨c1,c2,fn,vs,T,c3,c4,c5⟩:=dk;refine⟨c1,c2,fn,vs,T,c3,by rw[amS];exact c4,λi u c hu hc=> ?_⟩;have mN:=am0 hc;rw[amU]at hc;cases hx:cs[i]? with
  |none=>rw[hx]at hc;cases hc
  |some x=>
   rw[hx]at hc;cases hc
   exact((c5 i u x hu hx).aV m).cut (ane.1 tH _ mN)
 |it sn cs=>
  obtain⟨c1,c2,fn,vs,T,c3,c4,c5⟩:=dk;refine⟨c1,c2,fn,vs,T,c3,by rw[amS];exact c4,λi u c hu hc=> ?_⟩;have mN:=am0 hc;rw[amU]at hc;cases hx:cs[i]? with
  |none=>rw[hx]at hc;cases hc
  |some x=>
   rw[hx]at hc;cases hc
   exact((c5 i u x hu hx).aV m).cut (ane.1 tH _ mN)
 |dM T0 cs=>
  obtain⟨c1,c2,fn,vs,T,c3,c4,c5⟩:=dk;refine⟨c1,c2,fn,vs,T,c3,by rw[amS];exact c4,λi u c hu hc=> ?_⟩;have mN:=am0 hc;rw[amU]at hc;cases hx:cs[i]? with
  |none=>rw[hx]at hc;cases hc
  |some x=>
   rw[hx]at hc;cases hc
   exact((c5 i u x hu hx).aV m).cut (ane.1 tH _ mN)
theorem pV(N:Nat)(G:Gh)(w:anI)(m:Nat):bx N G w (G.cut m) w:=
 ⟨amY _,λ_ _ h=>h,λ_ _ _=>rfl,λ_ _=>rfl,λ_ _=> .inl ⟨rfl,rfl⟩,gV rfl,λ_ _=>rfl,rfl,rfl,rfl,λ_ _ h=> .inl h⟩
section
variable {P:anG} {r:anF Nat} {n N0:Nat} {G:Gh} {w:anI} {a:Act} {s:St} {o:Oper} {Q:Exit->St->Prop}
theorem cx.mask(hs:cx G w a s){live:anD Nat}{m:Nat}(h:s.zk live m):cx (G.cut m) w a (s.mask live m):=by
 obtain⟨h1,h2,h3⟩:=h;refine⟨hs.size,λi=> ?_,NP hs.inv h1 h3,hs.df⟩;show aE _ _ _ (aY (live.map λk=>(k,(aY s.t k).aV m)) i);rw[sb (λk=>(aY s.t k).aV m)];split
 ·rename_i hi
  exact((hs.tmp i).aV m).cut (ane.1 h2 i hi)
 ·exact .dead _
theorem PJ{c:Code}{ι:Type}(live:anD Nat)(m:Nat)(st:ι->St)(I:ι->Prop)(μ:ι->Nat)(i0:ι)(hm:N0<=m)(bA:s.zk live m)(h0:s.mask live m=st i0)(hI:I i0)
 (round:∀i,I i->bj P r N0 c (ig (λs'=>s'.zk live m/\∃i',s'.mask live m=st i'/\I i'/\μ i'<μ i) Q) (st i)):bj P r N0 (.loop c) Q s:=by
 constructor
 intro G w a n hs _;refine RB (λ(i:ι) a' w'=>∃G',I i/\bx N0 G w G' w'/\N0<=G'.N/\cx G' w' a' (st i)) μ i0 ⟨G.cut m,hI,pV _ _ _ _,hm,h0▸hs.mask bA⟩ ?_;rintro i a' w' ⟨G',hi,hE,hN,bP⟩;refine wpIn_mono ((round i hi).run G' w' a' n bP hN) λe a1 w1 hn=> ?_;obtain⟨G1,s1,iA,ga,eG,hq⟩:=hn;cases e with
 |normal=>
  obtain⟨acr,i',h1,h2,h3⟩:=hq;exact⟨i',⟨G1.cut m,h2,(hE.trans iA).trans (pV _ _ _ _),hm,h1▸eG.mask acr⟩,h3⟩
 |_=>exact⟨G1,s1,hE.trans iA,ga,eG,hq⟩
def mo(P:anG)(s:St):anD ResultVar->(anD AV->Prop)->Prop
 |[],C=>C []
 | .tmp t::l,C=>mo P s l λxs=>C (aY s.t t::xs)
 | .cell p t::l,C=>oG P t s.h (aY s.t p) λx=>mo P s l λxs=>C (x::xs)
def jt:anD AV->AV
 |[x]=>x
 |l=> .aQ l
def qG(P:anG)(fn:Func)(m:Nat)(K:AV->anD ao->Prop)(s:St):Prop:=
 mo P s fn.results.toList λl=>m<=s.h.length/\((jt l).aV m).aH m=true/\(((s.h.take m).map (ao.aV m)).all (ao.aH m))=true/\K ((jt l).aV m) ((s.h.take m).map (ao.aV m))
def GN(P:anG)(fn:Func)(m:Nat)(K:AV->anD ao->Prop):Exit->St->Prop
 | .normal,s=>qG P fn m K s
 | .ret,s=>qG P fn m K s
 |_,_=>False
theorem ZG{C:anD AV->Prop}(hs:cx G w a s)(g:ResultVar->Sem anH)(hg1:∀t,g (.tmp t)=pure (a.tmps.getD t undef))(DB:∀p t,g (.cell p t)=(do loadVar t (<-asAddr (a.tmps.getD p undef)))):
 ∀(l:anD ResultVar),mo P s l C->∃(vs:anD anH)(xs:anD AV),(l.mapM g).run P w= .ok vs w/\vs.length=xs.length/\(∀(i:Nat)(u:anH)(c:AV),vs[i]?=some u->xs[i]?=some c->aE G w u c)/\C xs:=by
 intro l
 induction l generalizing C with
 |nil=>exact λh=>⟨[],[],by simp,rfl,λi u c hu=>by simp at hu,h⟩
 |cons x l ih=>
  intro h;cases x with
  |tmp t=>
   obtain⟨vs,xs,h1,h2,h3,h4⟩:=ih h;refine⟨a.tmps.getD t undef::vs,aY s.t t::xs,by simp only[List.mapM_cons,hg1,Sem.run_bind,Sem.run_pure,Result.andThen_ok,h1],by simp [h2],λi u c hu hc=> ?_,h4⟩
   match i with
   |0=>simp only[List.getElem?_cons_zero,Option.some.injEq]at hu hc;subst hu;subst hc;exact hs.tmp t
   |i+1=>exact h3 i u c (by simpa using hu) (by simpa using hc)
  |cell p t=>
   obtain⟨u0,x0,r1,r2,r3⟩:=Uo (P:=P) hs.inv (hs.tmp p) h;obtain⟨vs,xs,h1,h2,h3,h4⟩:=ih r3;have hv:=hs.tmp p;have e:∃ad,a.tmps.getD p undef= .pointer (some ad):=by
    have h':oG P t s.h (aY s.t p) λx=>mo P s l λxs=>C (x::xs):=h;generalize a.tmps.getD p undef=v at hv r1;generalize aY s.t p=y at hv h';cases hv with
    |ptr=>exact⟨_,rfl⟩
    |ba=>exact⟨_,rfl⟩
    |_=>exact(show False from h').elim
   obtain⟨ad,e⟩:=e;rw[e]at r1;have r1':(loadVar t ad).run P w= .ok u0 w:=by simpa [Instr.loadAt,Instr.sureAddr]using r1
   have ha:(asAddr (a.tmps.getD p undef)).run P w= .ok ad w:=by rw[e];rfl
   refine⟨u0::vs,x0::xs,by simp only[List.mapM_cons,DB,Sem.run_bind,Sem.run_pure,Result.andThen_ok,h1,ha,r1'],by simp [h2],λi u c hu hc=> ?_,h4⟩
   match i with
   |0=>simp only[List.getElem?_cons_zero,Option.some.injEq]at hu hc;subst hu;subst hc;exact r2
   |i+1=>exact h3 i u c (by simpa using hu) (by simpa using hc)
theorem ZP:∀(vs:anD anH)(xs:anD AV),vs.length=xs.length->(∀(i:Nat)(u:anH)(c:AV),vs[i]?=some u->xs[i]?=some c->aE G w u c)->aE G w (if h:vs.toArray.size=1 then vs.toArray[0]else .tuple vs.toArray) (jt xs)
 |[v],[x],_,h=>h 0 v x rfl rfl
 |[],[],_,_=> .aQ _ _ rfl λi u c hu=>by simp at hu
 |v::u::vs,x::y::xs,hl,h=>by
  have:¬(v::u::vs).toArray.size=1:=by simp
  rw[dif_neg this];exact .aQ _ _ (by simpa using hl) λi p q hp hq=>h i p q (by simpa using hp) hq
 |[],_::_,hl,_=>by simp at hl
 |_::_,[],hl,_=>by simp at hl
 |[_],_::_::_,hl,_=>by simp at hl
 |_::_::_,[_],hl,_=>by simp at hl
theorem ab9{fn:Func}{m:Nat}{K:AV->anD ao->Prop}(hs:cx G w a s)(h:qG P fn m K s):∃v G' r h',(results fn a.tmps).run P w= .ok v w/\bx N0 G w G' w/\m<=G'.N/\bC G' w h'/\aE G' w v r/\K r h':=by
 obtain⟨g,hg⟩:∃g:ResultVar->Sem anH,results fn a.tmps=(do let vs <-fn.results.mapM g;pure (if h:vs.size=1 then vs[0]else .tuple vs))/\(∀t,g (.tmp t)=pure (a.tmps.getD t undef))/\(∀p t,g (.cell p t)=(do loadVar t (<-asAddr (a.tmps.getD p undef)))):=
  ⟨_,rfl,λ_=>rfl,λ_ _=>rfl⟩
 obtain⟨vs,xs,h1,h2,h3,h4,h5,h6,h7⟩:=ZG hs g hg.2.1 hg.2.2 fn.results.toList h;have hr:(results fn a.tmps).run P w= .ok (if h:vs.toArray.size=1 then vs.toArray[0]else .tuple vs.toArray) w:=by
  rw[hg.1,Sem.run_bind,Array.mapM_eq_mapM_toList];have e:∀X:Sem (anD anH),(Functor.map List.toArray X:Sem _)=X>>=λl=>pure l.toArray:=λ_=>rfl;rw[e,Sem.run_bind,h1];rfl
 have hv:=ZP vs xs h2 h3;exact⟨_,G.cut m,_,_,hr,pV _ _ _ _,amY _,NP hs.inv h4 h6,(hv.aV m).cut h5,h7⟩
theorem Ax{f:FuncId}{fn:Func}{c:Code}{args:anD AV}{h:anD ao}{K:AV->anD ao->Prop}(m:Nat)(hf:P.funcs[f]?=some fn)(hb:fn.body=some c)(hn:(fn.name== "runtime.NumGoroutine")=false)(hm:h.length<=m)
 (hw:bj P none h.length c (GN P fn m K) {n:=args.length+(fn.ntmps-args.length),t:=lk 0 args,h:=h}):cp P f args h K:=by
 refine⟨by unfold GU;rw[hf];simp [hb];simpa using hn,λG w vs hi hl hr=> ?_⟩;refine callsIn_wide (n:=8).1 (callsIn_of_wp_marks (F:=Fence.wide) hf hb trivial ?_);have hs:cx {G with M:=w.heap.size} w {tmps:=vs++Array.replicate (fn.ntmps-vs.size) undef,defers:=[]} {n:=args.length+(fn.ntmps-args.length),t:=lk 0 args,h:=h}:=by
  refine⟨by simp [hl],λi=> ?_,hi.zm G.Z _ (λ_ h=>h) (amY _),rB.nil _ _⟩;show aE _ _ _ (aY (lk 0 args) i);rw[Ny];simp only[Nat.zero_le,if_true,Nat.sub_zero];cases hx:args[i]? with
  |none=>exact .dead _
  |some x=>
   have aJ:i<vs.size:=by rw[hl];exact(amN.1 hx).1
   have:(vs++Array.replicate (fn.ntmps-vs.size) undef).getD i undef=vs[i]:=by
    simp [Array.getElem?_append_left aJ,am9 aJ]
   simp only[this,Option.getD_some];exact(hr i _ x (am9 aJ) hx).zm G.Z _
 refine wpIn_mono (hw.run _ w _ 8 hs (by rw[hi.len];exact amY _)) λe a' w' hn=> ?_;obtain⟨G1,s1,hE,ga,eG,hq⟩:=hn;have key:qG P fn m K s1->LeavesInM Fence.wide 8 P fn a'.tmps (λe w'=>∃v G' r h',e= .returned v/\bx G.N G w G' w'/\G.N<=G'.N/\bC G' w' h'/\aE G' w' v r/\K r h') a'.defers .returning w':=λhq=>by
  obtain⟨w2,G2,k1,k2,k3,k4⟩:=ab2 hE ga hi.z hi.gl.2 eG;obtain⟨v,G',r,h',r1,r2,r3,r4,r5,r6⟩:=ab9 (N0:=h.length) k4 hq;exact k1 _ _ _ _ _ ⟨v,r1,v,G',r,h',rfl,by rw[<-hi.len];exact k2.trans r2,by rw[<-hi.len];exact am5 hm r3,r4,r5,r6⟩
 cases e with
 |normal=>exact key hq
 |ret=>exact key hq
 |_=>exact hq.elim
end
end Go.Proofs.YtfdhojiehjfghaaGreatDoor
namespace Go.Proofs.YtfdhojiehjfghaaGreatDoor
open Go.RowKit
section
variable {P:anG} {r:anF Nat} {N0:Nat} {s:St} {Q:Exit->St->Prop}
end
theorem cp.frame{P:anG}{f:FuncId}{args:anD AV}{K:AV->Prop}(hc:cp P f args [] λr h=>h=[]/\K r)(ha:args.all (AV.aH 0)=true)(hK:∀r,K r->r.aH 0=true)(h:anD ao):
 cp P f args h λr h'=>h'=h/\K r:=by
 refine⟨hc.1,λG w vs hi hl hr=> ?_⟩;have tf:bC {G with N:=0,Z:=λb=>b<w.heap.size} w []:=⟨rfl,λb hb=>hb,hi.S,λn B hB=>by simp at hB,λm n b h1=>by simp [bz]at h1,hi.gl⟩;refine(hc.2 {G with N:=0,Z:=λb=>b<w.heap.size} w vs tf hl λi u c hu hx=> ?_).mono λe w' hp=> ?_
 ·have:=(hr i u c hu hx).cut (ane.1 ha c (am0 hx));clear hc;generalize hG:({G with N:=0,Z:=λb=>b<w.heap.size}:Gh)=G0;have e:∀{v y},aE (G.cut 0) w v y->aE G0 w v y:=by
   intro v y hv;subst hG
   induction hv with
   |agg vs cs hl _ ih=>exact .agg vs cs hl ih
   |aQ vs cs hl _ ih=>exact .aQ vs cs hl ih
   |fn f vs cs hl _ ih=>exact .fn f vs cs hl ih
   |own n xs h hp hle hf=>exact absurd h (ang _)
   |ptr n off h=>exact absurd h (ang _)
   |row n off len cap k h hl hm=>exact absurd h (ang _)
   |mp n h=>exact absurd h (ang _)
   |cF n h=>exact absurd h (ang _)
   |vec n o len L k h=>exact absurd h (ang _)
   |db n i j L k h=>exact absurd h (ang _)
   |hid h h1=>exact .hid h h1
   |d h=>exact .d h
   |ba xs i off b o u x hx hS hu=>exact .ba xs i off b o u x hx hS hu
   |full xs hp hf=>exact .full xs hp hf
   |dead u=>exact .dead u
  exact e this
 ·obtain⟨v,G',r,h',rfl,hE,hN,dx,hv,rfl,hk⟩:=hp;have amE:G'.N=0:=dx.len.symm;have fk:∀b o,G'.S b o->G.S b o\/w.heap.size<=b:=λb o hs=>(hE.new b o hs).imp id Nat.le_of_not_lt;have iP:bx G.N G w {G with S:=G'.S} w':=
   ⟨hE.size,hE.S,hE.cell,λ_ _=>rfl,λ_ _=> .inl ⟨rfl,rfl⟩,gV rfl,λb hb=>hE.old b (hi.z b hb),hE.os,hE.tape,hE.output,λb o hs=>(fk b o hs).imp id λko hz=>by have:=hi.z b hz;omega⟩
  refine⟨v,{G with S:=G'.S},r,h,rfl,iP,amY _,⟨hi.len,λb hb=>anb (hi.z b hb) hE.size,dx.S,λn B hB=> ?_,λm n b h1 h2=>hi.inj m n b h1 h2,hi.gl.keep iP⟩,?_,rfl,hk⟩
  ·refine dB.keep (hi.lt hB) iP (amY _) ⟨rfl,rfl,rfl⟩ (λb hb=> ?_) (hi.cT n B hB);have aJ:=hi.gr (n:=n) (b:=b) ((di hB).trans hb);refine⟨hE.old _ aJ,λo ji hs=> ?_⟩;rcases fk _ o hs with hs|hs
   ·exact ji hs
   ·omega
  ·have hr:=hK r hk;clear hk iP
   induction hv with
   |agg vs cs hl _ ih=>
    rw[AV.aH,mM,ane]at hr;exact .agg vs cs hl λi u c hu hc=>ih i u c hu hc (hr c (am0 hc))
   |aQ vs cs hl _ ih=>
    rw[AV.aH,mM,ane]at hr;exact .aQ vs cs hl λi u c hu hc=>ih i u c hu hc (hr c (am0 hc))
   |fn f vs cs hl _ ih=>
    rw[AV.aH,mM,ane]at hr;exact .fn f vs cs hl λi u c hu hc=>ih i u c hu hc (hr c (am0 hc))
   |own n xs h hp hle hf=>simp [AV.aH,bS]at hr
   |ptr n off h=>simp [AV.aH,bS]at hr
   |row n off len cap k h hl hm=>simp [AV.aH,bS]at hr
   |mp n h=>simp [AV.aH,bS]at hr
   |cF n h=>simp [AV.aH,bS]at hr
   |vec n o len L k h=>simp [AV.aH,bS]at hr
   |db n i j L k h=>simp [AV.aH,bS]at hr
   |hid h h1=>exact .hid h h1
   |d h=>exact .d h
   |ba xs i off b o u x hx hS hu=>exact .ba xs i off b o u x hx hS hu
   |full xs hp hf=>exact .full xs hp hf
   |dead u=>exact .dead u
def gn(P:anG)(f:FuncId)(args:anD AV)(K:AV->Prop):Prop:=cp P f args [] λr h=>h=[]/\K r
theorem gn.use{P:anG}{f:FuncId}{args:anD AV}{r:AV}{h:anD ao}{C:AV->anD ao->Prop}(hc:gn P f args (·=r))(ha:args.all (AV.aH 0)=true)(hr:r.aH 0=true)(hC:C r h):cp P f args h C:=
 (hc.frame ha (λ_ e=>e▸hr) h).mono λ_ _ ⟨e1,e2⟩=>by subst e1;subst e2;exact hC
def adS:anD FuncId:=[57,80,99,100,101,145,208]
def agt:anD FuncId:=[37,38,65,67,68,121,125,144,145,148,186,192]
def pv:Operand->Bool
 | .func g=>adS.any (·==g)
 |_=>false
def bQ(o:Oper):Nat:=
 match o.op with
 | .move _| .assign _| .pick .. | .nilCheck _| .fieldAddr .. | .field .. | .indexAddr .. | .index .. | .build .. | .buildSlice .. | .slice .. | .extract .. | .makeFunc .. | .binOp .. | .unOp .. | .convert .. =>0
 | .load .. | .lookup .. =>1
 | .alloc _| .box .. =>2
 | .store .. | .makeMap .. | .mapUpdate .. =>3
 | .call c=>match c.callee with
   | .builtin .len| .builtin .max| .builtin .min=>0
   | .builtin .append=>5
   | .value f=>bif pv f then 6 else 4
   |_=>9
 |_=>9
def Za(P:anG)(g:FuncId)(args:anD AV)(h:anD ao)(C:AV->Prop):Prop:=∃r,C r/\∀e,cp P g args (h++e) λr' h'=>r'=r/\h'=h++e
def ze(P:anG)(o:Oper)(K:St->Prop)(s:St):Prop:=
 match o.op with
 | .call c=>match c.callee with
   | .value f=>match ev s f with
     | .fn g cN=>Za P g (c.args.toList.map (ev s)++cN) s.h λr=>K (s.put o.dst r)
     | .hid q=>∃g as,q.app (c.args.toList.map (ev s))=some (g,as)/\Za P g as s.h λr=>K (s.put o.dst r)
     |_=>False
   |_=>qC P o K s
 |_=>qC P o K s
def jk(o:Oper):Bool:=
 match o.op with
 | .indexAddr .. | .fieldAddr .. | .nilCheck .. | .load .. | .store .. =>true
 | .call c=>match c.callee with
   | .builtin .len=>true
   |_=>false
 |_=>false
def GS(o:Oper):Bool:=match o.op with
 | .call c=>match c.callee with
   | .value (.tmp _)=>true
   | .value (.func g)=>agt.any (·==g)
   |_=>false
 |_=>false
def tp(o:Oper):Bool:=match o.op with
 | .call c=>match c.callee with
   | .builtin .append=>true
   |_=>false
 |_=>false
def m6(m:Bool)(o:Oper):Bool:=m&&(GS o||tp o)
def wq(m:Bool)(P:anG)(o:Oper)(K:St->Prop)(s:St):Prop:=
 ze P o K s\/(m6 m o=true/\∃x h1,K ((s.wh h1).put o.dst x)/\∀C:AV->anD ao->Prop,C x h1->cg P o (ev s) s.h C)\/((jk o=true/\(m&&bQ o==0)=false\/(m&&tp o)=true)/\J7 P o K s)\/(bQ o=6/\∃x e0,K ((s.wh (s.h++e0)).put o.dst x)/\∀C:AV->anD ao->Prop,C x (s.h++e0)->cg P o (ev s) s.h C)
def ja(P:anG)(o:Oper)(ρ:Operand->AV)(h:anD ao)(C:AV->anD ao->Prop):Prop:=
 cg P o ρ h C\/((jk o=true\/tp o=true)/\∃a x h' p,hY P o.op ρ h a=some (x,h',p)/\p/\C x h')
def uI(m:Bool)(P:anG)(ops:Array Oper):anD Oper->(St->Prop)->St->Prop
 |[],K,s=>K s
 |o::rest,K,s=>iG ops o s (wq m P o (uI m P ops rest K) s) (uI m P ops rest K (s.put o.dst (.d (.v undef))))
abbrev Xl(P:anG)(o:Oper)(K:St->Prop)(s:St):Prop:=wq false P o K s
abbrev Ci(P:anG)(ops:Array Oper)(l:anD Oper)(K:St->Prop)(s:St):Prop:=uI false P ops l K s
section
variable {P:anG} {o:Oper} {ρ ρ':Operand->AV} {h:anD ao} {C:AV->anD ao->Prop}
theorem MA(x:anF Operand)(hx:∀y∈x.toArray,ρ y=ρ' y)(d:Nat)(F:Nat->Prop):ju ρ x d F=ju ρ' x d F:=by
 cases x with
 |none=>rfl
 |some y=>simp only[ju,hx y (by simp)]
theorem aep(hρ:∀x∈o.op.operands,ρ x=ρ' x):cg P o ρ h C=cg P o ρ' h C:=by
 obtain⟨dst,op,type,pos,after,guard⟩:=o;have VT:∀ps:Array (Nat×Operand),(∀x∈ps.map (·.2),ρ x=ρ' x)->(ps.toList.map λp=>(p.1,ρ p.2))=(ps.toList.map λp=>(p.1,ρ' p.2)):=λps hp=>
  anj λp hm=>by rw[hp p.2 (Array.mem_map.2 ⟨p,Array.mem_toList_iff.1 hm,rfl⟩)]
 have fR:∀l:Array Operand,(∀x∈l,ρ x=ρ' x)->l.toList.map ρ=l.toList.map ρ':=λl hl=>anj λx hm=>hl x (Array.mem_toList_iff.1 hm);cases op with
 |build t ps=>simp only[cg,VT ps λx hx=>hρ x (by simpa [Op.operands]using hx)]
 |buildSlice t n ps=>simp only[cg,VT ps λx hx=>hρ x (by simpa [Op.operands]using hx)]
 |makeFunc fn first captured=>
  cases fn with
  |func f=>simp only[cg,fR captured λx hx=>hρ x (by simp [Op.operands,hx]),fR first λx hx=>hρ x (by simp [Op.operands,hx])]
  |_=>rfl
 |slice t x lo hi mx=>
  have e1:ρ x=ρ' x:=hρ x (by simp [Op.operands]);have e2:=λd F=>MA (ρ:=ρ) (ρ':=ρ') lo (λy hy=>hρ y (by simp at hy;simp [Op.operands,hy])) d F;have e3:=λd F=>MA (ρ:=ρ) (ρ':=ρ') hi (λy hy=>hρ y (by simp at hy;simp [Op.operands,hy])) d F;have e4:=λd F=>MA (ρ:=ρ) (ρ':=ρ') mx (λy hy=>hρ y (by simp at hy;simp [Op.operands,hy])) d F;cases lo<;>cases hi<;>cases mx<;>simp only[cg,uL,e1,e2,e3,e4]
 |call c=>
  have ha:c.args.toList.map ρ=c.args.toList.map ρ':=fR c.args λx hx=>hρ x (by simp [Op.operands,Call.operands,hx]);have hm:∀x,x∈c.args.toList->ρ x=ρ' x:=λx hx=>hρ x (by simp [Op.operands,Call.operands];right;exact Array.mem_toList_iff.1 hx);cases hc:c.callee with
  |value f=>
   have hf:ρ f=ρ' f:=hρ f (by simp [Op.operands,Call.operands,hc]);simp only[cg,hc,hf,ha]
  |invoke=>simp only[cg,hc]
  |builtin b=>
   cases b with
   |len=>
    simp only[cg,hc];split
    ·rename_i x _ heq _
     rw[hm x (by rw[heq];simp)]
    ·rfl
   |append=>
    simp only[cg,hc];split
    ·rename_i x y _ _ heq _
     rw[hm x (by rw[heq];simp),hm y (by rw[heq];simp)]
    ·rfl
   |max=>simp only[cg,hc,ha]
   |min=>simp only[cg,hc,ha]
   |_=>simp only[cg,hc]
 |makeMap t r=>cases r<;>rfl
 |lookup t a b ok=>simp only[cg,p5,hρ a (by simp [Op.operands]),hρ b (by simp [Op.operands])]
 |mapUpdate t a b c=>simp only[cg,p5,hρ a (by simp [Op.operands]),hρ b (by simp [Op.operands]),hρ c (by simp [Op.operands])]
 |pick c a b=>simp only[cg,hρ c (by simp [Op.operands]),hρ a (by simp [Op.operands]),hρ b (by simp [Op.operands])]
 |store t a b=>simp only[cg,hρ a (by simp [Op.operands]),hρ b (by simp [Op.operands])]
 |binOp op t a b u=>simp only[cg,hρ a (by simp [Op.operands]),hρ b (by simp [Op.operands])]
 |indexAddr t a b=>simp only[cg,hρ a (by simp [Op.operands]),hρ b (by simp [Op.operands])]
 |index t a b=>simp only[cg,hρ a (by simp [Op.operands]),hρ b (by simp [Op.operands])]
 |move a|assign a|box t a|load t a|nilCheck a|fieldAddr t a f|field t a f|extract a i|unOp op t a|convert t u a=>simp only[cg,hρ a (by simp [Op.operands])]
 |_=>rfl
theorem aaM(hv:jk o=true\/tp o=true)(hρ:∀x∈o.op.operands,ρ x=ρ' x)(a:VA):hY P o.op ρ h a=hY P o.op ρ' h a:=by
 obtain⟨dst,op,type,pos,after,guard⟩:=o;cases op with
 |store t a b=>simp only[hY,hρ a (by simp [Op.operands]),hρ b (by simp [Op.operands])]
 |indexAddr t a b=>simp only[hY,hρ a (by simp [Op.operands]),hρ b (by simp [Op.operands])]
 |load t a|nilCheck a|fieldAddr t a f=>simp only[hY,hρ a (by simp [Op.operands])]
 |call c=>
  have hm:∀x,x∈c.args.toList->ρ x=ρ' x:=λx hx=>hρ x (by simp [Op.operands,Call.operands];right;exact Array.mem_toList_iff.1 hx);cases hc:c.callee with
  |builtin b=>
   cases b with
   |len=>
    simp only[hY,hc];split
    ·rename_i x _ heq _
     rw[hm x (by rw[heq];simp)]
    ·rfl
   |append=>
    simp only[hY,hc];split
    ·rename_i x y _ _ heq _
     rw[hm x (by rw[heq];simp),hm y (by rw[heq];simp)]
    ·rfl
   |_=>simp [jk,tp,hc]at hv
  |_=>simp [jk,tp,hc]at hv
 |_=>simp [jk,tp]at hv
theorem Ps(hρ:∀x∈o.op.operands,ρ x=ρ' x):ja P o ρ h C=ja P o ρ' h C:=by
 unfold ja;rw[aep hρ];by_cases hv:jk o=true\/tp o=true
 ·simp only[aaM hv hρ]
 ·simp only[hv,false_and]
end
def al3:ao->Bool
 | .cells _| .map _| .vec .. =>true
 |_=>false
def na:anF ao->anF (Nat×Nat)
 |some (.vec _ k cs)=>some (k,cs.length)
 |_=>none
def ik(h h':anD ao):Prop:=∀(m:Nat)(q:Nat×Nat),na h[m]?=some q->na h'[m]?=some q
def VecEq(h h':anD ao):Prop:=∀m:Nat,na h[m]?=na h'[m]?
theorem VecEq.i{h h':anD ao}(e:VecEq h h'):ik h h':=λm q hq=>by rw[<-e m];exact hq
theorem VecEq.j{h h':anD ao}(e:VecEq h h'):ik h' h:=λm q hq=>by rw[e m];exact hq
theorem ik.refl(h:anD ao):ik h h:=λ_ _ e=>e
theorem ik.trans{a b c:anD ao}(x:ik a b)(y:ik b c):ik a c:=λm q e=>y m q (x m q e)
theorem ik.app(h e:anD ao):ik h (h++e):=λm q hq=>by
 by_cases hl:m<h.length
 ·rw[amX hl];exact hq
 ·rw[ank (by omega)]at hq;cases hq
theorem VecEq.app{h:anD ao}{B:ao}(hB:na (some B)=none):VecEq h (h++[B]):=λm=>by
 by_cases hl:m<h.length
 ·rw[amX hl]
 ·rw[am3 (by omega),ank (by omega:h.length<=m)];by_cases h0:m-h.length=0
  ·rw[h0];exact hB.symm
  ·rw[ank (by simp;omega)]
theorem VecEq.set{h:anD ao}{n:Nat}{B B':ao}(hn:h[n]?=some B)(hB:na (some B)=na (some B')):VecEq h (h.set n B'):=λm=>by
 by_cases e:n=m
 ·subst e;rw[anh (amN.1 hn).1,hn];exact hB
 ·rw[anm e]
def iw(h h':anD ao):Prop:=∀(n:Nat)(B:ao),h[n]?=some B->al3 B=true->h'[n]?=some B
theorem iw.app(h e:anD ao):iw h (h++e):=λn cs hn _=>by
 rw[amX (amN.1 hn).1];exact hn
theorem iw.refl(h:anD ao):iw h h:=λ_ _ hn _=>hn
theorem ama{P:anG}{ρ:Operand->AV}{h h1:anD ao}{T:TypeId}{m i:Operand}{ok:Bool}{x:AV}{p:Sd}(hx:p5 P (.lookup T m i ok) ρ h=some (x,h1,p)):h1=h/\∀h',iw h h'->p5 P (.lookup T m i ok) ρ h'=some (x,h',p):=by
 simp only[p5]at hx ⊢;split at hx
 ·next k e hT=>
  split at hx
  ·next z hz=>
   split at hx
   ·next b s' hm hi=>
    split at hx
    ·next kv hn=>
     cases hc:gC P k with
     |false=>rw[hc]at hx;cases hx
     |true=>
      rw[hc]at hx;cases hx
      refine⟨rfl,λh' hh=> ?_⟩;rw[hh b _ hn rfl];simp only[cond_true]
    ·cases hx
   ·cases hx
  ·cases hx
 ·cases hx
theorem Xd{h:anD ao}{n e k:Nat}{cs:anD (anD AV)}(hn:h[n]?=some (.vec e k cs)):na h[n]?=some (k,cs.length):=by rw[hn];rfl
theorem Y8{h:anD ao}{n k l:Nat}(hq:na h[n]?=some (k,l)):∃e cs,h[n]?=some (.vec e k cs)/\cs.length=l:=by
 unfold na at hq;split at hq
 ·next e k' cs e1=>cases hq;exact⟨e,cs,e1,rfl⟩
 ·cases hq
theorem aiY{P:anG}{o:Oper}{ρ:Operand->AV}{h h1:anD ao}{a:VA}{x:AV}{p:Prop}(hv:jk o=true)(hk:bQ o=0)(hx:hY P o.op ρ h a=some (x,h1,p))(hp:p):h1=h/\∀h',ik h h'->∃p',hY P o.op ρ h' a=some (x,h',p')/\p':=by
 obtain⟨dst,op,type,pos,after,guard⟩:=o;cases op with
 |indexAddr T y i=>
  simp only[hY]at hx ⊢;split at hx
  ·next n o len L k z e k' i' e1 e2 e3=>
   split at hx
   ·next e4 k2 cs hn=>
    obtain⟨hb,he⟩:=mi hx;cases he
    rw[amP,beq_iff_eq,beq_iff_eq]at hb;obtain⟨rfl,rfl⟩:=hb;refine⟨rfl,λh' hh=> ?_⟩;obtain⟨e5,cs5,q1,q2⟩:=Y8 (hh n _ (Xd hn));simp only[q1,anx,Bool.and_self,cond_true];exact⟨_,rfl,by rw[q2];exact hp.1,hp.2⟩
   ·cases hx
  ·cases hx
 |fieldAddr T y f=>
  simp only[hY]at hx ⊢;split at hx
  ·next e1 e2=>cases hx;exact⟨rfl,λh' _=>⟨_,rfl,trivial⟩⟩
  ·cases hx
 |nilCheck y=>
  simp only[hY]at hx ⊢;split at hx
  ·next e1=>cases hx;exact⟨rfl,λh' _=>⟨_,rfl,trivial⟩⟩
  ·cases hx
 |call c=>
  cases hc:c.callee with
  |builtin b=>
   cases b with
   |len=>
    simp only[hY,hc]at hx ⊢;split at hx
    ·split at hx
     ·next n o len L k e1=>
      split at hx
      ·next e2 k2 cs hn=>
       obtain⟨hb,he⟩:=mi hx;cases he
       rw[amP,beq_iff_eq]at hb;obtain⟨kI,rfl⟩:=hb;refine⟨rfl,λh' hh=> ?_⟩;obtain⟨e5,cs5,q1,q2⟩:=Y8 (hh n _ (Xd hn));simp only[q1,kI,anx,Bool.and_self,cond_true];exact⟨_,rfl,by rw[q2];exact hp⟩
      ·cases hx
     ·cases hx
    ·cases hx
   |_=>simp [jk,hc]at hv
  |_=>simp [jk,hc]at hv
 |load t y=>simp [bQ]at hk
 |store t y z=>simp [bQ]at hk
 |_=>simp [jk]at hv
theorem alw{P:anG}{o:Oper}{ρ:Operand->AV}{h h1:anD ao}{a:VA}{x:AV}{p:Prop}(hv:jk o=true)(hk:bQ o=1)(hx:hY P o.op ρ h a=some (x,h1,p))(hp:p):h1=h/\∀h',iw h h'->∃p',hY P o.op ρ h' a=some (x,h',p')/\p':=by
 obtain⟨dst,op,type,pos,after,guard⟩:=o;cases op with
 |load t y=>
  simp only[hY]at hx ⊢;split at hx
  ·next n i j L k c e1=>
   split at hx
   ·next e2 k' cs z hn hz=>
    obtain⟨hb,he⟩:=mi hx;cases he
    refine⟨rfl,λh' hh=> ?_⟩;simp only[hh n _ hn rfl,hz,hb,cond_true];exact⟨_,rfl,hp⟩
   ·cases hx
  ·cases hx
 |indexAddr T y i=>simp [bQ]at hk
 |fieldAddr T y f=>simp [bQ]at hk
 |nilCheck y=>simp [bQ]at hk
 |call c=>
  cases hc:c.callee with
  |builtin b=>cases b<;>simp [bQ,hc]at hk
  |value f=>cases l6:pv f<;>simp [bQ,hc,l6]at hk
  |invoke=>simp [bQ,hc]at hk
 |store t y z=>simp [bQ]at hk
 |_=>simp [jk]at hv
theorem al2{P:anG}{o:Oper}{ρ:Operand->AV}{h h1:anD ao}{a:VA}{x:AV}{p:Prop}(hv:jk o=true)(hk:bQ o=3)(hx:hY P o.op ρ h a=some (x,h1,p))(hp:p):VecEq h h1:=by
 obtain⟨dst,op,type,pos,after,guard⟩:=o;cases op with
 |store t y z=>
  simp only[hY]at hx;split at hx
  ·next n i j L k c bV e1=>
   split at hx
   ·next e k' cs q hn hz=>
    obtain⟨hb,he⟩:=mi hx;cases he
    simp only[amP,beq_iff_eq]at hb;refine VecEq.set hn ?_;simp only[na,List.length_set,hp.2.2,hb.1.1.1.1]
   ·cases hx
  ·cases hx
 |load t y=>simp [bQ]at hk
 |indexAddr T y i=>simp [bQ]at hk
 |fieldAddr T y f=>simp [bQ]at hk
 |nilCheck y=>simp [bQ]at hk
 |call c=>
  cases hc:c.callee with
  |builtin b=>cases b<;>simp [bQ,hc]at hk
  |value f=>cases l6:pv f<;>simp [bQ,hc,l6]at hk
  |invoke=>simp [bQ,hc]at hk
 |_=>simp [jk]at hv
def jd(m:Bool)(o:Oper):Nat:=bif m6 m o then 7 else bQ o
def dE(m:Bool)(P:anG)(o:Oper)(ρ:Operand->AV)(h:anD ao)(x:AV)(h1:anD ao):Prop:=
 match jd m o with
 |0=>h1=h/\∀h',(m=true\/ik h h')->∀C:AV->anD ao->Prop,C x h'->ja P o ρ h' C
 |1=>h1=h/\∀h',iw h h'->∀C:AV->anD ao->Prop,C x h'->ja P o ρ h' C
 |2=>∃B,na (some B)=none/\x= .ptr h.length 0/\h1=h++[B]/\∀h'(C:AV->anD ao->Prop),C (.ptr h'.length 0) (h'++[B])->ja P o ρ h' C
 |3=>VecEq h h1/\∀C:AV->anD ao->Prop,C x h1->ja P o ρ h C
 |4=>h1=h/\∀e(C:AV->anD ao->Prop),C x (h++e)->ja P o ρ (h++e) C
 |5=>(iw h h1/\iw h1 h/\VecEq h h1)/\∀C:AV->anD ao->Prop,C x h1->ja P o ρ h C
 |6=>∃e0,h1=h++e0/\∀C:AV->anD ao->Prop,C x h1->ja P o ρ h C
 |7=>∀C:AV->anD ao->Prop,C x h1->ja P o ρ h C
 |_=>False
section
variable {P:anG} {o:Oper} {ρ ρ':Operand->AV} {h:anD ao} {C:AV->anD ao->Prop}
theorem aeg{p:AV}{K:anD AV->Nat->Prop}(hp:sa h p K):∃cs off,K cs off/\∀h',iw h h'->∀K':anD AV->Nat->Prop,K' cs off->sa h' p K':=by
 unfold sa at hp ⊢;split at hp
 ·rename_i n off
  split at hp
  ·rename_i cs fZ
   refine⟨cs,off,hp,λh' hh K' hk=> ?_⟩;rw[hh n _ fZ rfl];exact hk
  ·exact hp.elim
 ·rename_i xs i off
  split at hp
  ·rename_i cs fZ
   refine⟨_,off,hp,λh' _ K' hk=> ?_⟩;exact hk
  ·exact hp.elim
 ·exact hp.elim
theorem aka{t:Nat}{p:AV}{K:AV->Prop}(hp:oG P t h p K):∃x,K x/\∀h',iw h h'->∀K':AV->Prop,K' x->oG P t h' p K':=by
 unfold oG at hp ⊢;obtain⟨cs,off,h1,h2⟩:=aeg hp;split at h1
 ·rw[bw]at h1;refine⟨_,h1.2,λh' hh K' eW=>h2 h' hh _ ?_⟩;exact bw.2 ⟨h1.1,eW⟩
 ·split at h1
  ·rename_i c hc
   refine⟨c,h1,λh' hh K' eW=>h2 h' hh _ ?_⟩;simp only[hc];exact eW
  ·exact h1.elim
 ·exact h1.elim
theorem vl{x:anF Operand}{d:Nat}{F:Nat->Prop}(hx:ju ρ x d F):∃m,F m/\∀F':Nat->Prop,F' m->ju ρ x d F':=by
 cases x with
 |none=>exact⟨d,hx,λ_ h=>h⟩
 |some y=>
  simp only[ju]at hx;split at hx
  ·rename_i z hz
   exact⟨_,hx.2,λF' hF=>by simp only[ju,hz];exact⟨hx.1,hF⟩⟩
  ·exact hx.elim
theorem alZ(hk:bQ o=0)(hc:cg P o ρ h C):∃x,C x h/\∀h'(C':AV->anD ao->Prop),C' x h'->cg P o ρ h' C':=by
 have vq:∀(F:(AV->Prop)->Prop),(∀K,F K->∃x,K x/\∀K',K' x->F K')->F (λx=>C x h)->(∀h' C',cg P o ρ h' C'=F (λx=>C' x h'))->∃x,C x h/\∀h'(C':AV->anD ao->Prop),C' x h'->cg P o ρ h' C':=λF hF h0 he=>by
  obtain⟨x,h1,h2⟩:=hF _ h0;exact⟨x,h1,λh' C' dc=>by rw[he];exact h2 _ dc⟩
 obtain⟨dst,op,type,pos,after,guard⟩:=o;cases op with
 |move a=>exact⟨ρ a,hc,λ_ _ h=>h⟩
 |assign a=>exact⟨ρ a,hc,λ_ _ h=>h⟩
 |pick c a b=>
  simp only[cg]at hc;split at hc
  ·rename_i t ht
   cases t with
   |true=>exact⟨ρ a,hc.1 rfl,λh' C' dc=>by simp only[cg,ht];exact⟨λ_=>dc,λe=>by cases e⟩⟩
   |false=>exact⟨ρ b,hc.2 rfl,λh' C' dc=>by simp only[cg,ht];exact⟨λe=>(by cases e),λ_=>dc⟩⟩
  ·exact hc.elim
 |nilCheck a=>
  simp only[cg]at hc;split at hc
  ·rename_i m off e;exact⟨_,hc,λh' C' dc=>by simp only[cg,e];exact dc⟩
  ·rename_i xs i off e;exact⟨_,hc,λh' C' dc=>by simp only[cg,e];exact dc⟩
  ·rename_i f cs e;exact⟨_,hc,λh' C' dc=>by simp only[cg,e];exact dc⟩
  ·exact hc.elim
 |fieldAddr t a f=>
  simp only[cg]at hc;split at hc
  ·rename_i fo k g hf
   split at hc
   ·rename_i m off e;exact⟨_,hc,λh' C' dc=>by simp only[cg,hf,e];exact dc⟩
   ·rename_i xs i off e;exact⟨_,hc,λh' C' dc=>by simp only[cg,hf,e];exact dc⟩
   ·exact hc.elim
  ·exact hc.elim
 |field t a f=>
  refine vq (x8 P t (ρ a) f) (λK hK=> ?_) hc (λ_ _=>rfl);unfold x8 at hK ⊢;split at hK
  ·rw[bw]at hK;exact⟨_,hK.2,λK' dG=>bw.2 ⟨hK.1,dG⟩⟩
  ·split at hK
   ·rename_i c ff;exact⟨c,hK,λK' dG=>dG⟩
   ·exact hK.elim
  ·exact hK.elim
 |indexAddr t a b=>
  refine vq (sq P t (ρ a) (ρ b)) (λK hK=> ?_) hc (λ_ _=>rfl);unfold sq at hK ⊢;split at hK
  ·rename_i e k hT
   split at hK
   ·rename_i n off len cap k'
    split at hK
    ·rename_i z hz
     rw[bw]at hK;obtain⟨h1,h2,h3,h4⟩:=hK;exact⟨_,h4,λK' dG=>bw.2 ⟨h1,h2,h3,dG⟩⟩
    ·exact hK.elim
   ·split at hK
    ·rename_i xs z k9 hz
     obtain⟨h0,hK⟩:=hK;split at hK
     ·rename_i c ff
      exact⟨_,hK.2,λK' dG=>⟨h0,hK.1,dG⟩⟩
     ·exact hK.elim
    ·exact hK.elim
  ·split at hK
   ·rename_i n e k b' off z hT hz
    obtain⟨h1,h2,h3⟩:=hK;exact⟨_,h3,λK' dG=>⟨h1,h2,dG⟩⟩
   ·rename_i n e k xs i' off z hT hz
    rw[bw]at hK;obtain⟨h0,h1,h2,h3⟩:=hK;split at h3
    ·rename_i c ff
     split at h3
     ·rename_i d hd
      exact⟨_,h3,λK' dG=>bw.2 ⟨h0,h1,h2,dG⟩⟩
     ·exact h3.elim
    ·exact h3.elim
   ·exact hK.elim
 |index t a b=>
  simp only[cg]at hc;split at hc
  ·rename_i bb z e1 e2
   rw[bw]at hc;obtain⟨h1,h2,h3⟩:=hc;split at h3
   ·rename_i c ff
    exact⟨_,h3,λh' C' dc=>by simp only[cg,e1,e2];exact bw.2 ⟨h1,h2,by simp only[ff];exact dc⟩⟩
   ·exact h3.elim
  ·exact hc.elim
 |build t ps=>
  refine vq (wH P t (ps.toList.map λp:Nat×Operand=>(p.1,ρ p.2))) (λK hK=> ?_) hc (λ_ _=>rfl);unfold wH at hK ⊢;split at hK
  ·split at hK
   ·rename_i cs fZ
    rw[bw]at hK;exact⟨_,hK.2,λK' dG=>bw.2 ⟨hK.1,dG⟩⟩
   ·exact hK.elim
  ·exact hK.elim
 |buildSlice t n ps=>
  refine vq (vz P t n (ps.toList.map λp:Nat×Operand=>(p.1,ρ p.2))) (λK hK=> ?_) hc (λ_ _=>rfl);unfold vz at hK ⊢;split at hK
  ·split at hK
   ·split at hK
    ·rename_i cs fZ
     split at hK
     ·rename_i ds qD
      rw[bw]at hK;exact⟨_,hK.2,λK' dG=>bw.2 ⟨hK.1,dG⟩⟩
     ·exact hK.elim
    ·exact hK.elim
   ·exact hK.elim
  ·exact hK.elim
 |slice t a lo hi mx=>
  refine vq (uL P t ρ (ρ a) lo hi mx) (λK hK=> ?_) hc (λ_ _=>rfl);unfold uL at hK ⊢;split at hK
  ·split at hK
   ·rw[bw]at hK;obtain⟨h0,hK⟩:=hK;obtain⟨m1,hK,j1⟩:=vl hK;obtain⟨h1,hK⟩:=hK;obtain⟨m2,hK,j2⟩:=vl hK;obtain⟨h2,hK⟩:=hK;exact⟨_,hK,λK' dG=>bw.2 ⟨h0,j1 _ ⟨h1,j2 _ ⟨h2,dG⟩⟩⟩⟩
   ·split at hK
    ·rw[bw]at hK;obtain⟨h0,hK⟩:=hK;obtain⟨m1,hK,j1⟩:=vl hK;rw[bw]at hK;obtain⟨h1,hK⟩:=hK;obtain⟨m2,hK,j2⟩:=vl hK;rw[bw]at hK;obtain⟨h2,hK⟩:=hK;exact⟨_,hK,λK' dG=>by rw[bw];exact⟨h0,j1 _ (by rw[bw];exact⟨h1,j2 _ (by rw[bw];exact⟨h2,dG⟩)⟩)⟩⟩
    ·exact hK.elim
   ·split at hK
    ·obtain⟨h0,hK⟩:=hK;obtain⟨m1,hK,j1⟩:=vl hK;obtain⟨h1,hK⟩:=hK;obtain⟨m2,hK,j2⟩:=vl hK;obtain⟨h2,hK⟩:=hK;exact⟨_,hK,λK' dG=>⟨h0,j1 _ ⟨h1,j2 _ ⟨h2,dG⟩⟩⟩⟩
    ·exact hK.elim
  ·split at hK
   ·split at hK
    ·obtain⟨h0,hK⟩:=hK;obtain⟨m1,hK,j1⟩:=vl hK;obtain⟨h1,hK⟩:=hK;obtain⟨m2,hK,j2⟩:=vl hK;obtain⟨h2,hK⟩:=hK;exact⟨_,hK,λK' dG=>⟨h0,j1 _ ⟨h1,j2 _ ⟨h2,dG⟩⟩⟩⟩
    ·exact hK.elim
   ·exact hK.elim
 |extract a i=>
  simp only[cg]at hc;split at hc
  ·rename_i cs e
   split at hc
   ·rename_i c ff;exact⟨c,hc,λh' C' dc=>by simp only[cg,e,ff];exact dc⟩
   ·exact hc.elim
  ·exact hc.elim
 |makeFunc fn first cN=>
  cases fn with
  |func f=>
   simp only[cg]at hc;split at hc
   ·rename_i e;exact⟨_,hc,λh' C' dc=>by simp only[cg,e];exact dc⟩
   ·exact hc.elim
  |_=>exact hc.elim
 |binOp op t a b u=>
  refine vq (wi P t op (ρ a) (ρ b)) (λK hK=> ?_) hc (λ_ _=>rfl);unfold wi at hK ⊢;split at hK
  ·split at hK
   ·rw[bw]at hK;exact⟨_,hK.2.2,λK' dG=>bw.2 ⟨hK.1,hK.2.1,dG⟩⟩
   ·split at hK
    ·exact⟨_,hK.2,λK' dG=>⟨hK.1,dG⟩⟩
    ·split at hK
     ·rw[bw]at hK;exact⟨_,hK.2,λK' dG=>bw.2 ⟨hK.1,dG⟩⟩
     ·exact hK.elim
  ·split at hK
   ·exact⟨_,hK,λK' dG=>dG⟩
   ·split at hK
    ·exact⟨_,hK.2,λK' dG=>⟨hK.1,dG⟩⟩
    ·exact hK.elim
  ·split at hK
   ·rw[bw]at hK;exact⟨_,hK.2,λK' dG=>bw.2 ⟨hK.1,dG⟩⟩
   ·exact hK.elim
  ·split at hK
   ·split at hK
    ·exact⟨_,hK,λK' dG=>dG⟩
    ·exact hK.elim
   ·exact hK.elim
  ·exact hK.elim
 |unOp op t a=>
  refine vq (xz op (ρ a)) (λK hK=> ?_) hc (λ_ _=>rfl);unfold xz at hK ⊢;split at hK
  ·split at hK
   ·exact⟨_,hK,λK' dG=>dG⟩
   ·exact hK.elim
  ·exact hK.elim
 |convert t u a=>
  refine vq (w8 P t u (ρ a)) (λK hK=> ?_) hc (λ_ _=>rfl);unfold w8 at hK ⊢;split at hK
  ·split at hK
   ·exact⟨_,hK,λK' dG=>dG⟩
   ·exact hK.elim
  ·rw[bw]at hK;exact⟨_,hK.2,λK' dG=>bw.2 ⟨hK.1,dG⟩⟩
  ·split at hK
   ·rw[bw]at hK;obtain⟨h1,ns,h2,h3⟩:=hK;exact⟨_,h3,λK' dG=>bw.2 ⟨h1,ns,h2,dG⟩⟩
   ·exact hK.elim
 |call c=>
  simp only[bQ]at hk;cases eD:c.callee with
  |value f=>cases l6:pv f<;>simp [eD,l6]at hk
  |invoke=>simp [eD]at hk
  |builtin b=>
   cases b with
   |len=>
    simp only[cg,eD]at hc;split at hc
    ·rename_i x T e1 e2
     have key:∀F:Nat->Prop,s8 P T (ρ x) F->∃m,F m/\∀F':Nat->Prop,F' m->s8 P T (ρ x) F':=λF hF=>by
      unfold s8 at hF ⊢;split at hF
      ·rw[bw]at hF;exact⟨_,hF.2,λF' kP=>bw.2 ⟨hF.1,kP⟩⟩
      ·rw[bw]at hF;exact⟨_,hF.2,λF' kP=>bw.2 ⟨hF.1,kP⟩⟩
      ·split at hF
       ·rw[bw]at hF;exact⟨_,hF.2,λF' kP=>bw.2 ⟨hF.1,kP⟩⟩
       ·exact hF.elim
     obtain⟨m,h1,h2⟩:=key _ hc;exact⟨_,h1,λh' C' dc=>by simp only[cg,eD,e1,e2];exact h2 _ dc⟩
    ·exact hc.elim
   |max=>
    simp only[cg,eD]at hc;split at hc
    ·rename_i e1
     exact⟨_,hc,λh' C' dc=>by simp only[cg,eD,e1];exact dc⟩
    ·exact hc.elim
   |min=>
    simp only[cg,eD]at hc;split at hc
    ·rename_i e1
     exact⟨_,hc,λh' C' dc=>by simp only[cg,eD,e1];exact dc⟩
    ·exact hc.elim
   |_=>simp [eD]at hk
 |_=>simp [bQ]at hk
theorem adZ(hk:bQ o=2)(hc:cg P o ρ h C):∃B,na (some B)=none/\C (.ptr h.length 0) (h++[B])/\∀h'(C':AV->anD ao->Prop),C' (.ptr h'.length 0) (h'++[B])->cg P o ρ h' C':=by
 obtain⟨dst,op,type,pos,after,guard⟩:=o;cases op with
 |alloc e=>
  simp only[cg]at hc;split at hc
  ·rename_i z hz;exact⟨_,rfl,hc,λh' C' dc=>by simp only[cg,hz];exact dc⟩
  ·exact hc.elim
 |box e x=>
  simp only[cg]at hc;rw[bw]at hc;exact⟨_,rfl,hc.2,λh' C' dc=>by simp only[cg];rw[bw];exact⟨hc.1,dc⟩⟩
 |call c=>
  simp only[bQ]at hk;cases eD:c.callee with
  |value f=>cases l6:pv f<;>simp [eD,l6]at hk
  |invoke=>simp [eD]at hk
  |builtin b=>cases b<;>simp [eD]at hk
 |_=>simp [bQ]at hk
theorem agw(hk:bQ o=3)(hc:cg P o ρ h C):∃x h1,C x h1/\VecEq h h1/\∀C':AV->anD ao->Prop,C' x h1->cg P o ρ h C':=by
 obtain⟨dst,op,type,pos,after,guard⟩:=o;cases op with
 |store t a b=>
  simp only[cg]at hc;have key:∀F:anD ao->Prop,xv P t h (ρ a) (ρ b) F->∃h1,F h1/\VecEq h h1/\∀F':anD ao->Prop,F' h1->xv P t h (ρ a) (ρ b) F':=λF hF=>by
   unfold xv at hF ⊢;split at hF
   ·split at hF
    ·next hn=>
     split at hF
     ·rw[bw]at hF;exact⟨_,hF.2,VecEq.set hn rfl,λF' kP=>bw.2 ⟨hF.1,kP⟩⟩
     ·exact hF.elim
    ·exact hF.elim
   ·exact hF.elim
  obtain⟨h1,k1,kv,k2⟩:=key _ hc;exact⟨_,h1,k1,kv,λC' dc=>by simp only[cg];exact k2 _ dc⟩
 |makeMap t r=>
  simp only[cg]at hc;split at hc
  ·rename_i x h' p hx
   refine⟨x,h',hc.2,?_,λC' dc=>by simp only[cg,hx];exact⟨hc.1,dc⟩⟩;unfold p5 at hx;cases r with
   |none=>
    simp only at hx;split at hx
    ·cases hx;exact VecEq.app rfl
    ·cases hx
   |some r=>cases hx
  ·exact hc.elim
 |mapUpdate t a b c=>
  simp only[cg]at hc;split at hc
  ·rename_i x h' p hx
   refine⟨x,h',hc.2,?_,λC' dc=>by simp only[cg,hx];exact⟨hc.1,dc⟩⟩;unfold p5 at hx;simp only at hx;split at hx
   ·split at hx
    ·split at hx
     ·next hn=>
      obtain⟨hb,he⟩:=mi hx;cases he
      exact VecEq.set hn rfl
     ·cases hx
    ·cases hx
   ·cases hx
  ·exact hc.elim
 |call c=>
  simp only[bQ]at hk;cases eD:c.callee with
  |value f=>cases l6:pv f<;>simp [eD,l6]at hk
  |invoke=>simp [eD]at hk
  |builtin b=>cases b<;>simp [eD]at hk
 |_=>simp [bQ]at hk
theorem YM{n:Nat}{e:TypeId}{k l e' k' l':Nat}(hn:h[n]?=some (.front e' k' l')):iw h (h.set n (.front e k l))/\iw (h.set n (.front e k l)) h:=by
 refine⟨λm cs hm hc=> ?_,λm cs hm hc=> ?_⟩
 ·have:n≠m:=λe=>by subst e;rw[hn]at hm;cases hm;cases hc
  rw[anm this];exact hm
 ·by_cases e:n=m
  ·subst e;rw[anh (amN.1 hn).1]at hm;cases hm;cases hc
  ·rw[anm e]at hm;exact hm
theorem IQ{e:TypeId}{k l:Nat}:iw h (h++[.front e k l])/\iw (h++[.front e k l]) h:=by
 refine⟨iw.app _ _,λm cs hm hc=> ?_⟩;by_cases hl:m<h.length
 ·rw[amX hl]at hm;exact hm
 ·rw[am3 (by omega)]at hm;by_cases h0:m-h.length=0
  ·rw[h0]at hm;cases hm;cases hc
  ·rw[ank (by simp;omega)]at hm;cases hm
theorem ag8(hk:bQ o=5)(hc:cg P o ρ h C):∃x h1,C x h1/\(iw h h1/\iw h1 h/\VecEq h h1)/\∀C':AV->anD ao->Prop,C' x h1->cg P o ρ h C':=by
 obtain⟨dst,op,type,pos,after,guard⟩:=o;cases op with
 |call c=>
  simp only[bQ]at hk;cases eD:c.callee with
  |value f=>cases l6:pv f<;>simp [eD,l6]at hk
  |invoke=>simp [eD]at hk
  |builtin b=>
   cases b with
   |append=>
    simp only[cg,eD]at hc;split at hc
    ·rename_i x y T U e1 e2
     rw[bw]at hc;have acH:∀(k:Nat)(y:AV)(F:anD (anD D)->Prop),uR h k y F->∃ys,F ys/\∀F':anD (anD D)->Prop,F' ys->uR h k y F':=λk y F hF=>by
       unfold uR at hF ⊢;split at hF
       ·split at hF
        ·split at hF
         ·rw[bw]at hF;exact⟨_,hF.2,λF' kP=>bw.2 ⟨hF.1,kP⟩⟩
         ·exact hF.elim
        ·exact hF.elim
       ·split at hF
        ·exact⟨_,hF.2,λF' kP=>⟨hF.1,kP⟩⟩
        ·exact hF.elim
     have key:∀F:AV->anD ao->Prop,uQ P T h (ρ x) (ρ y) F->∃v h1,F v h1/\(iw h h1/\iw h1 h/\VecEq h h1)/\∀F':AV->anD ao->Prop,F' v h1->uQ P T h (ρ x) (ρ y) F':=λF hF=>by
      unfold uQ at hF ⊢;split at hF
      ·split at hF
       ·rw[bw]at hF;obtain⟨h0,hF⟩:=hF;obtain⟨ys,hF,hs⟩:=acH _ _ _ hF;split at hF
        ·split at hF
         ·rename_i hn
          rw[bw]at hF;obtain⟨g1,g2,g3,g4,g5,g6⟩:=hF;exact⟨_,_,g6,⟨(YM hn).1,(YM hn).2,VecEq.set hn rfl⟩,λF' kP=>bw.2 ⟨h0,hs _ (bw.2 ⟨g1,g2,g3,g4,g5,kP⟩)⟩⟩
         ·exact hF.elim
        ·obtain⟨g4,g5,g6⟩:=hF;exact⟨_,_,g6,⟨IQ.1,IQ.2,VecEq.app rfl⟩,λF' kP=>bw.2 ⟨h0,hs _ ⟨g4,g5,kP⟩⟩⟩
        ·obtain⟨g3,g4,g5,g6⟩:=hF;exact⟨_,_,g6,⟨IQ.1,IQ.2,VecEq.app rfl⟩,λF' kP=>bw.2 ⟨h0,hs _ ⟨g3,g4,g5,kP⟩⟩⟩
        ·exact hF.elim
       ·exact hF.elim
      ·exact hF.elim
     obtain⟨v,h1,k1,c1,k2⟩:=key _ hc.2;exact⟨v,h1,k1,c1,λC' dc=>by simp only[cg,eD,e1,e2];rw[bw];exact⟨hc.1,k2 _ dc⟩⟩
    ·exact hc.elim
   |_=>simp [eD]at hk
 |_=>simp [bQ]at hk
theorem Xv{m:Bool}(jP:m6 m o=false){s:St}{K:St->Prop}(hd:ze P o K s):∃x h1,dE m P o (ev s) s.h x h1/\K ((s.wh h1).put o.dst x):=by
 have km:jd m o=bQ o:=by unfold jd;rw[jP];rfl
 have plain:qC P o K s->bQ o≠4->bQ o≠6->∃x h1,dE m P o (ev s) s.h x h1/\K ((s.wh h1).put o.dst x):=λha S4 BG=>by
  unfold qC at ha;by_cases h0:bQ o=0
  ·obtain⟨x,h1,h2⟩:=alZ h0 ha;exact⟨x,s.h,by unfold dE;rw[km,h0];exact⟨rfl,λh' _ C' dc=> .inl (h2 h' C' dc)⟩,h1⟩
  ·by_cases h1:bQ o=1
   ·obtain⟨dst,op,type,pos,after,guard⟩:=o;cases op with
    |load t a=>
     simp only[cg]at ha;obtain⟨x,k1,k2⟩:=aka ha;exact⟨x,s.h,by unfold dE;rw[km,h1];exact⟨rfl,λh' hh C' dc=> .inl (by simp only[cg];exact k2 h' hh _ dc)⟩,k1⟩
    |lookup t a b ok=>
     simp only[cg]at ha;split at ha
     ·rename_i x h' p hx
      obtain⟨rfl,k2⟩:=ama hx;exact⟨x,s.h,by unfold dE;rw[km,h1];exact⟨rfl,λh' hh C' dc=> .inl (by simp only[cg,k2 h' hh];exact⟨ha.1,dc⟩)⟩,ha.2⟩
     ·exact ha.elim
    |call c=>
     simp only[bQ]at h1;cases eD:c.callee with
     |value f=>cases l6:pv f<;>simp [eD,l6]at h1
     |invoke=>simp [eD]at h1
     |builtin b=>cases b<;>simp [eD]at h1
    |_=>simp [bQ]at h1
   ·by_cases h2:bQ o=2
    ·obtain⟨B,kB,k1,k2⟩:=adZ h2 ha;exact⟨_,_,by unfold dE;rw[km,h2];exact⟨B,kB,rfl,rfl,λh' C' dc=> .inl (k2 h' C' dc)⟩,k1⟩
    ·by_cases h3:bQ o=3
     ·obtain⟨x,sQ,k1,kv,k2⟩:=agw h3 ha;exact⟨x,sQ,by unfold dE;rw[km,h3];exact⟨kv,λC' dc=> .inl (k2 C' dc)⟩,k1⟩
     ·by_cases h5:bQ o=5
      ·obtain⟨x,sQ,k1,c1,k2⟩:=ag8 h5 ha;exact⟨x,sQ,by unfold dE;rw[km,h5];exact⟨c1,λC' dc=> .inl (k2 C' dc)⟩,k1⟩
      exfalso;obtain⟨dst,op,type,pos,after,guard⟩:=o;cases op with
      |call c=>
       simp only[bQ]at h0 h3 S4 BG h5;simp only[cg]at ha;cases eD:c.callee with
       |value f=>cases l6:pv f<;>simp [eD,l6]at S4 BG
       |invoke=>simp only[eD]at ha
       |builtin b=>cases b<;>simp only[eD]at ha h0 h3 h5<;>first|exact ha|exact absurd rfl h0|exact absurd rfl h3|exact absurd rfl h5|exact h3 trivial|exact h0 trivial|exact h5 trivial
      |_=>first|exact absurd rfl h0|exact absurd rfl h1|exact absurd rfl h2|exact absurd rfl h3|exact ha
 unfold ze at hd;split at hd
 ·rename_i c eO
  split at hd
  ·rename_i f eD
   have fin:∀x:AV,(∀e,∀C':AV->anD ao->Prop,C' x (s.h++e)->cg P o (ev s) (s.h++e) C')->dE m P o (ev s) s.h x s.h:=λx hx=>by
    have hk:bQ o=4\/bQ o=6:=by
     unfold bQ;simp only[eO,eD];cases pv f<;>simp
    unfold dE;rw[km];rcases hk with hk|hk
    ·rw[hk];exact⟨rfl,λe C' dc=> .inl (hx e C' dc)⟩
    ·rw[hk];refine⟨[],(am8 _).symm,λC' dc=> .inl ?_⟩;have:=hx [] C' (by rw[am8];exact dc)
     rwa [am8]at this
   split at hd
   ·rename_i g cN hg
    obtain⟨x,hK,jC⟩:=hd;refine⟨x,s.h,fin x λe C' dc=> ?_,hK⟩;unfold cg;simp only[eO,eD,hg];exact(jC e).mono λr' h' ⟨e1,e2⟩=>by subst e1;subst e2;exact dc
   ·rename_i q hg
    obtain⟨g,as,eq,x,hK,jC⟩:=hd;refine⟨x,s.h,fin x λe C' dc=> ?_,hK⟩;unfold cg;simp only[eO,eD,hg];exact⟨g,as,eq,(jC e).mono λr' h' ⟨e1,e2⟩=>by subst e1;subst e2;exact dc⟩
   ·exact hd.elim
  ·rename_i eD
   exact plain hd (by
    unfold bQ;simp only[eO];cases hc:c.callee with
    |value f=>exact absurd hc (eD f)
    |invoke=>simp
    |builtin b=>cases b<;>simp) (by
    unfold bQ;simp only[eO];cases hc:c.callee with
    |value f=>exact absurd hc (eD f)
    |invoke=>simp
    |builtin b=>cases b<;>simp)
 ·rename_i eO
  exact plain hd (by
   unfold bQ;split<;>first|(rename_i c hc;exact(eO c hc).elim)|simp) (by
   unfold bQ;split<;>first|(rename_i c hc;exact(eO c hc).elim)|simp)
theorem S7{m:Bool}{h1:anD ao}{x:AV}(h0:dE m P o ρ h x h1):∀C:AV->anD ao->Prop,C x h1->ja P o ρ h C:=λC hC=>by
 unfold dE at h0;split at h0
 ·obtain⟨e,h0⟩:=h0;subst e;exact h0 _ (.inr (ik.refl _)) _ hC
 ·obtain⟨e,h0⟩:=h0;subst e;exact h0 _ (iw.refl _) _ hC
 ·obtain⟨B,_,rfl,rfl,h0⟩:=h0;exact h0 _ _ hC
 ·exact h0.2 _ hC
 ·obtain⟨e,h0⟩:=h0;subst e;have:=h0 [] C (by rw[am8];exact hC)
  rwa [am8]at this
 ·exact h0.2 _ hC
 ·obtain⟨e0,_,h0⟩:=h0;exact h0 _ hC
 ·exact h0 _ hC
 ·exact h0.elim
theorem Hi{m:Bool}{s:St}{K:St->Prop}(hd:wq m P o K s):∃x h1,dE m P o (ev s) s.h x h1/\K ((s.wh h1).put o.dst x):=by
 cases jP:m6 m o with
 |true=>
  have k7:jd m o=7:=by unfold jd;rw[jP];rfl
  rcases hd with hd|⟨_,x,h1,hK,hc⟩|⟨hv,a,x,h',p,hx,hp,hK⟩|⟨_,x,e0,hK,hc⟩
  ·obtain⟨x,h1,h2,hK⟩:=Xv (m:=false) rfl hd;refine⟨x,h1,?_,hK⟩;have:=S7 h2;unfold dE;rw[k7];exact this
  ·exact⟨x,h1,by unfold dE;rw[k7];exact λC hC=> .inl (hc C hC),hK⟩
  ·exact⟨x,h',by unfold dE;rw[k7];exact λC hC=> .inr ⟨hv.imp (·.1) (λe=>(amP _ _▸e).2),a,x,h',p,hx,hp,hC⟩,hK⟩
  ·exact⟨x,_,by unfold dE;rw[k7];exact λC hC=> .inl (hc C hC),hK⟩
 |false=>
 have km:jd m o=bQ o:=by unfold jd;rw[jP];rfl
 rcases hd with hd|⟨hb,_⟩|⟨hv,a,x,h',p,hx,hp,hK⟩|⟨hk,x,e0,hK,hc⟩
 ·exact Xv jP hd
 ·rw[jP]at hb;cases hb
 ·obtain⟨hv,UT⟩:jk o=true/\(m&&bQ o==0)=false:=hv.resolve_right λe=>by
   rw[amP]at e;unfold m6 at jP;rw[e.1,e.2]at jP;simp at jP
  have hk:bQ o=0\/bQ o=1\/bQ o=3:=by
   unfold jk at hv;unfold bQ;split at hv
   all_goals first|(next e=>simp only[e];simp)|skip
   ·next c e=>
    split at hv
    ·next e2=>simp only[e,e2];simp
    ·cases hv
   ·cases hv
  rcases hk with hk|hk|hk
  ·obtain⟨rfl,h2⟩:=aiY hv hk hx hp;refine⟨x,_,?_,hK⟩;unfold dE;rw[km,hk];exact⟨rfl,λh' hh C hC=> .inr ⟨.inl hv,a,x,h',by obtain⟨p',q1,q2⟩:=h2 h' (hh.resolve_left λe=>by rw[e,hk]at UT;cases UT);exact⟨p',q1,q2,hC⟩⟩⟩
  ·obtain⟨rfl,h2⟩:=alw hv hk hx hp;refine⟨x,_,?_,hK⟩;unfold dE;rw[km,hk];exact⟨rfl,λh' hh C hC=> .inr ⟨.inl hv,a,x,h',by obtain⟨p',q1,q2⟩:=h2 h' hh;exact⟨p',q1,q2,hC⟩⟩⟩
  ·refine⟨x,h',?_,hK⟩;unfold dE;rw[km,hk];exact⟨al2 hv hk hx hp,λC hC=> .inr ⟨.inl hv,a,x,h',p,hx,hp,hC⟩⟩
 ·refine⟨x,_,?_,hK⟩;unfold dE;rw[km,hk];exact⟨e0,rfl,λC hC=> .inl (hc C hC)⟩
end
structure iT(s s':St):Prop where
 n:s.n=s'.n
 h:s.h=s'.h
 t:∀i,aY s.t i=aY s'.t i
theorem iT.refl(s:St):iT s s:=⟨rfl,rfl,λ_=>rfl⟩
theorem iT.symm{s s':St}(h:iT s s'):iT s' s:=⟨h.n.symm,h.h.symm,λi=>(h.t i).symm⟩
theorem iT.trans{a b c:St}(h:iT a b)(k:iT b c):iT a c:=⟨h.n.trans k.n,h.h.trans k.h,λi=>(h.t i).trans (k.t i)⟩
theorem sx(s:St)(d:anF Nat)(x:AV)(i:Nat):aY (s.put d x).t i=if d=some i/\i<s.n then x else aY s.t i:=by
 cases d with
 |none=>simp [St.put]
 |some k=>
  by_cases hk:k<s.n
  ·rw[ur hk,nh];by_cases hi:i=k
   ·subst hi;simp [hk]
   ·rw[if_neg hi,if_neg (by simp;intro e;exact absurd e.symm hi)]
  ·rw[Bx hk];rw[if_neg (by rintro⟨e,aJ⟩;cases e;exact hk aJ)]
theorem qR(s:St)(d:anF Nat)(x:AV):(s.put d x).n=s.n:=by
 cases d with
 |none=>rfl
 |some k=>
  by_cases hk:k<s.n
  ·rw[ur hk]
  ·rw[Bx hk]
theorem Ed(s:St)(d:anF Nat)(x:AV):(s.put d x).h=s.h:=by
 cases d with
 |none=>rfl
 |some k=>
  by_cases hk:k<s.n
  ·rw[ur hk]
  ·rw[Bx hk]
theorem iT.put{s s':St}(h:iT s s')(h1:anD ao)(d:anF Nat)(x:AV):iT ((s.wh h1).put d x) ((s'.wh h1).put d x):=
 ⟨by rw[qR,qR];exact h.n,by rw[Ed,Ed];rfl,λi=>by
  rw[sx,sx];show(if d=some i/\i<s.n then x else aY s.t i)=(if d=some i/\i<s'.n then x else aY s'.t i);rw[h.n,h.t]⟩
theorem agj(s:St)(h1 sQ h2:anD ao){d d':anF Nat}(x x':AV)(ck:∀k,d=some k->d'≠some k):iT ((((s.wh h1).put d x).wh h2).put d' x') ((((s.wh sQ).put d' x').wh h2).put d x):=by
 refine⟨by simp only[qR];show((s.wh h1).put d x).n=((s.wh sQ).put d' x').n;simp only[qR];rfl,by simp only[Ed];rfl,λi=> ?_⟩;rw[sx,sx];show(if d'=some i/\i<((s.wh h1).put d x).n then x' else aY ((s.wh h1).put d x).t i)=(if d=some i/\i<((s.wh sQ).put d' x').n then x else aY ((s.wh sQ).put d' x').t i);rw[qR,qR,sx,sx];show(if d'=some i/\i<s.n then x' else(if d=some i/\i<s.n then x else aY s.t i))=(if d=some i/\i<s.n then x else(if d'=some i/\i<s.n then x' else aY s.t i));by_cases a:d=some i
 ·have:=ck i a;simp [a,this]
 ·simp [a]
section
variable {P:anG} {ops:Array Oper}
def l5(m:Bool)(P:anG)(ops:Array Oper)(o:Oper)(s:St)(x:AV)(h1:anD ao):Prop:=
 (iG ops o s True False/\dE m P o (ev s) s.h x h1)\/(iG ops o s False True/\x= .d (.v undef)/\h1=s.h)
theorem Jl{o:Oper}{s:St}{yes no:Prop}(h:iG ops o s yes no):(iG ops o s True False/\yes)\/(iG ops o s False True/\no):=by
 unfold iG at h ⊢;split at h
 ·exact .inl ⟨trivial,h⟩
 ·rename_i j want hg
  split at h
  ·rename_i d hd
   split at h
   ·rename_i b hb
    by_cases xW:b=want
    ·exact .inl ⟨⟨λ_=>trivial,λe=>by subst xW;cases b<;>cases e⟩,h.1 xW⟩
    ·have EK:b= !want:=by cases b<;>cases want<;>simp_all
     exact .inr ⟨⟨λe=>(xW e).elim,λ_=>trivial⟩,h.2 EK⟩
   ·exact .inr ⟨trivial,h⟩
   ·exact h.elim
  ·exact h.elim
theorem vu{o:Oper}{s s':St}{yes no:Prop}(ht:∀d,d∈o.looksAt ops->aY s'.t d=aY s.t d)(h:iG ops o s yes no):iG ops o s' yes no:=by
 unfold iG at h ⊢;split at h
 ·exact h
 ·rename_i j want hg
  split at h
  ·rename_i d hd
   have:aY s'.t d=aY s.t d:=ht d (by unfold Oper.looksAt;rw[hg];simp [hd]);rw[this];exact h
  ·exact h.elim
theorem Mz{m:Bool}{o:Oper}{s s':St}{x:AV}{h1:anD ao}(ht:∀d,d∈o.looksAt ops->aY s'.t d=aY s.t d)(hh:s'.h=s.h)(h:l5 m P ops o s x h1):l5 m P ops o s' x h1:=by
 have cS:∀y∈o.op.operands,ev s y=ev s' y:=λy hy=>by
  cases y with
  |tmp t=>exact(ht t (by unfold Oper.looksAt;refine anq.2 (.inl (List.mem_filterMap.2 ⟨.tmp t,Array.mem_toList_iff.2 hy,rfl⟩)))).symm
  |_=>rfl
 rcases h with⟨g,hc⟩|⟨g,e1,e2⟩
 ·refine .inl ⟨vu ht g,?_⟩;rw[hh];have tV:∀h C,ja P o (ev s) h C=ja P o (ev s') h C:=λh C=>Ps cS;unfold dE at hc ⊢;split at hc
  ·exact⟨hc.1,λh' hh C hC=>tV h' C▸hc.2 h' hh C hC⟩
  ·exact⟨hc.1,λh' hh C hC=>tV _ C▸hc.2 h' hh C hC⟩
  ·obtain⟨B,kB,a,b,c⟩:=hc;exact⟨B,kB,a,b,λh' C hC=>tV h' C▸c h' C hC⟩
  ·exact⟨hc.1,λC hC=>tV _ C▸hc.2 C hC⟩
  ·exact⟨hc.1,λe C hC=>tV _ C▸hc.2 e C hC⟩
  ·exact⟨hc.1,λC hC=>tV _ C▸hc.2 C hC⟩
  ·obtain⟨e0,a,b⟩:=hc;exact⟨e0,a,λC hC=>tV _ C▸b C hC⟩
  ·exact λC hC=>tV _ C▸hc C hC
  ·exact hc.elim
 ·exact .inr ⟨vu ht g,e1,e2.trans hh.symm⟩
theorem Vx{o:Oper}(h:bQ o=7):False:=by
 unfold bQ at h
 repeat' (first|(split at h)|cases h)
 all_goals (cases hg:pv _<;>rw[hg]at h<;>cases h)
theorem alP{m:Bool}{o:Oper}{ρ:Operand->AV}{h h1:anD ao}{x:AV}(h7:m6 m o=false)(h0:dE m P o ρ h x h1):ik h h1:=by
 unfold dE at h0;unfold jd at h0;rw[h7]at h0;simp only[cond_false]at h0;split at h0
 ·rw[h0.1];exact ik.refl _
 ·rw[h0.1];exact ik.refl _
 ·obtain⟨B,kB,_,e,_⟩:=h0;rw[e];exact(VecEq.app kB).i
 ·exact h0.1.i
 ·rw[h0.1];exact ik.refl _
 ·exact h0.1.2.2.i
 ·obtain⟨e0,e,_⟩:=h0;rw[e];exact ik.app _ _
 ·next e=>exact(Vx e).elim
 ·exact h0.elim
theorem aeh{m:Bool}{o:Oper}{ρ:Operand->AV}{h h1:anD ao}{x:AV}(h7:m6 m o=false)(hk:bQ o≠6)(h0:dE m P o ρ h x h1):ik h1 h:=by
 unfold dE at h0;unfold jd at h0;rw[h7]at h0;simp only[cond_false]at h0;split at h0
 ·rw[h0.1];exact ik.refl _
 ·rw[h0.1];exact ik.refl _
 ·obtain⟨B,kB,_,e,_⟩:=h0;rw[e];exact(VecEq.app kB).j
 ·exact h0.1.j
 ·rw[h0.1];exact ik.refl _
 ·exact h0.1.2.2.j
 ·next e=>exact(hk e).elim
 ·next e=>exact(Vx e).elim
 ·exact h0.elim
def zq(m:Bool)(a b:Oper):Bool:=(m&&((m6 m a&&(!m6 m b&&bQ b==0))||(m6 m b&&(!m6 m a&&bQ a==0))))|| !m6 m a&& !m6 m b&&(bQ a==0||(bQ b==0&& !(bQ a==6))||((bQ a==1||bQ a==4)&&(bQ b==1||bQ b==4||bQ b==2||bQ b==6))||(bQ a==1&&bQ b==5)||(bQ a==5&&bQ b==1))
theorem swap{m:Bool}{oi oj:Oper}{s:St}{xi xj:AV}{hi hj:anD ao}(G8:oi.apart ops oj=true)(hX:zq m oi oj=true)(h1:l5 m P ops oi s xi hi)(h2:l5 m P ops oj ((s.wh hi).put oi.dst xi) xj hj):
 ∃iy,l5 m P ops oj s xj iy/\l5 m P ops oi ((s.wh iy).put oj.dst xj) xi hj:=by
 obtain⟨a1,a2,a3⟩:=Oper.apart_spec G8;have tj:∀d,d∈oj.looksAt ops->aY s.t d=aY ((s.wh hi).put oi.dst xi).t d:=λd hd=>by
  rw[sx,if_neg (λe=>a1 d e.1 hd)];rfl
 have ti:∀(h':anD ao) d,d∈oi.looksAt ops->aY ((s.wh h').put oj.dst xj).t d=aY s.t d:=λh' d hd=>by
  rw[sx,if_neg (λe=>a3 d e.1 hd)];rfl
 have eG:((s.wh hi).put oi.dst xi).h=hi:=by rw[Ed];rfl
 have pD:∀h',((s.wh h').put oj.dst xj).h=h':=λh'=>by rw[Ed];rfl
 have same:hi=s.h->l5 m P ops oj s xj hj:=λe=>Mz tj (by rw[eG,e]) h2;have evi:∀h',∀y∈oi.op.operands,ev ((s.wh h').put oj.dst xj) y=ev s y:=λh' y hy=>by
  cases y with
  |tmp t=>exact ti h' t (by unfold Oper.looksAt;refine anq.2 (.inl (List.mem_filterMap.2 ⟨.tmp t,Array.mem_toList_iff.2 hy,rfl⟩)))
  |_=>rfl
 have evj:∀y∈oj.op.operands,ev ((s.wh hi).put oi.dst xi) y=ev s y:=λy hy=>by
  cases y with
  |tmp t=>exact(tj t (by unfold Oper.looksAt;refine anq.2 (.inl (List.mem_filterMap.2 ⟨.tmp t,Array.mem_toList_iff.2 hy,rfl⟩)))).symm
  |_=>rfl
 have ci:∀h' h C,ja P oi (ev ((s.wh h').put oj.dst xj)) h C=ja P oi (ev s) h C:=λh' h C=>Ps (evi h');have cj:∀h C,ja P oj (ev ((s.wh hi).put oi.dst xi)) h C=ja P oj (ev s) h C:=λh C=>Ps evj;unfold zq at hX;rw[Bool.or_eq_true]at hX;rcases h1 with⟨g1,o1⟩|⟨g1,e1,e2⟩
 ·rcases h2 with⟨g2,o2⟩|⟨g2,f1,f2⟩
  ·rcases hX with hX|hX
   ·
    rw[amP,Bool.or_eq_true,amP,amP,amP,amP,Bool.not_eq_true',Bool.not_eq_true',beq_iff_eq,beq_iff_eq]at hX;obtain⟨hm,hX⟩:=hX;have vh:∀h',iG ops oi ((s.wh h').put oj.dst xj) True False:=λh'=>vu (ti h') g1;have IZ:iG ops oj s True False:=vu tj g2;rcases hX with⟨BD,lj,kj⟩|⟨haj,li,ki⟩
    ·have nF:jd m oj=0:=by unfold jd;rw[lj];exact kj
     have kE:jd m oi=7:=by unfold jd;rw[BD];rfl
     unfold dE at o1 o2;rw[kE]at o1;rw[nF]at o2;simp only at o1 o2;obtain⟨e,o2⟩:=o2;rw[eG]at e;refine⟨s.h, .inl ⟨IZ,?_⟩, .inl ⟨vh s.h,?_⟩⟩
     ·unfold dE;rw[nF];exact⟨rfl,λh' _ C hC=>by rw[<-cj];exact o2 h' (.inl hm) C hC⟩
     ·unfold dE;rw[kE,pD];exact λC hC=>by rw[ci];exact o1 C (e▸hC)
    ·have kE:jd m oi=0:=by unfold jd;rw[li];exact ki
     have nF:jd m oj=7:=by unfold jd;rw[haj];rfl
     unfold dE at o1;rw[kE]at o1;simp only at o1;obtain⟨e,o1⟩:=o1;refine⟨hj,same e, .inl ⟨vh hj,?_⟩⟩;unfold dE;rw[kE];exact⟨(pD hj).symm,λh' _ C hC=>by rw[ci];exact o1 h' (.inl hm) C hC⟩
   rw[amP,amP,Bool.not_eq_true',Bool.not_eq_true']at hX;obtain⟨⟨li,lj⟩,hX⟩:=hX;have kE:jd m oi=bQ oi:=by unfold jd;rw[li];rfl
   have nF:jd m oj=bQ oj:=by unfold jd;rw[lj];rfl
   have vh:∀h',iG ops oi ((s.wh h').put oj.dst xj) True False:=λh'=>vu (ti h') g1;have IZ:iG ops oj s True False:=vu tj g2;by_cases k0:bQ oi=0
   ·unfold dE at o1;rw[kE,k0]at o1;simp only at o1;obtain⟨e,o1⟩:=o1;refine⟨hj,same e, .inl ⟨vh hj,?_⟩⟩;unfold dE;rw[kE,k0];have hv:ik s.h hj:=by
     have:=alP lj o2;rw[eG,e]at this;exact this
    exact⟨(pD hj).symm,λh' hh C hC=>by rw[pD]at hh;rw[ci];exact o1 h' (hh.imp id λhh=>hv.trans hh) C hC⟩
   ·by_cases k1:bQ oj=0
    ·unfold dE at o2;rw[nF,k1]at o2;simp only at o2;obtain⟨e,o2⟩:=o2;rw[eG]at e o2;have k6:bQ oi≠6:=λk6=>by
      simp [k6,k1]at hX
     have hv:=aeh li k6 o1;refine⟨s.h, .inl ⟨IZ,?_⟩, .inl ⟨vh s.h,?_⟩⟩
     ·unfold dE;rw[nF,k1];exact⟨rfl,λh' hh C hC=>by rw[<-cj];exact o2 h' (hh.imp id λhh=>hv.trans hh) C hC⟩
     ·rw[e];unfold dE at o1 ⊢;rw[pD];simp only[ci];exact o1
    ·by_cases RH:bQ oi=1/\bQ oj=5
     ·obtain⟨ka,kb⟩:=RH;unfold dE at o1 o2;rw[kE,ka]at o1;rw[nF,kb]at o2;simp only at o1 o2;obtain⟨e,o1⟩:=o1;obtain⟨⟨c1,c2,_⟩,o2⟩:=o2;rw[eG,e]at c1 c2;refine⟨hj,same e, .inl ⟨vh hj,?_⟩⟩;unfold dE;rw[kE,ka];simp only;refine⟨(pD hj).symm,λh' hh C hC=> ?_⟩;rw[pD]at hh;rw[ci];exact o1 h' (λn cs hn hq=>hh n cs (c1 n cs hn hq) hq) C hC
     by_cases YL:bQ oi=5/\bQ oj=1
     ·obtain⟨ka,kb⟩:=YL;unfold dE at o1 o2;rw[kE,ka]at o1;rw[nF,kb]at o2;simp only at o1 o2;obtain⟨⟨c1,c2,c3⟩,o1⟩:=o1;obtain⟨e,o2⟩:=o2;rw[eG]at e o2;refine⟨s.h, .inl ⟨IZ,?_⟩, .inl ⟨vh s.h,?_⟩⟩
      ·unfold dE;rw[nF,kb];simp only;exact⟨trivial,λh' hh C hC=>by rw[<-cj];exact o2 h' (λn cs hn hq=>hh n cs (c2 n cs hn hq) hq) C hC⟩
      ·rw[e];unfold dE;rw[kE,ka];simp only;rw[pD];exact⟨⟨c1,c2,c3⟩,λC hC=>by rw[ci];exact o1 C hC⟩
     have hc:(bQ oi=1\/bQ oi=4)/\(bQ oj=1\/bQ oj=4\/bQ oj=2\/bQ oj=6):=by
      simp only[Bool.or_eq_true,amP,beq_iff_eq,k0,k1,false_or,false_and]at hX;rcases hX with(hX|hX)|hX
      ·refine⟨hX.1,?_⟩;rcases hX.2 with((h|h)|h)|h
       ·exact .inl h
       ·exact .inr (.inl h)
       ·exact .inr (.inr (.inl h))
       ·exact .inr (.inr (.inr h))
      ·exact absurd hX RH
      ·exact absurd hX YL
     have q1:hi=s.h/\∀e(C:AV->anD ao->Prop),C xi (s.h++e)->ja P oi (ev s) (s.h++e) C:=by
      unfold dE at o1;rcases hc.1 with k|k
      ·rw[kE,k]at o1;exact⟨o1.1,λe C hC=>o1.2 _ (iw.app _ _) C hC⟩
      ·rw[kE,k]at o1;exact o1
     have q2:∃e0,hj=s.h++e0:=by
      have td:=o2;unfold dE at td;rcases hc.2 with k|k|k|k
      ·rw[nF,k]at td;exact⟨[],by rw[td.1,eG,q1.1,am8]⟩
      ·rw[nF,k]at td;exact⟨[],by rw[td.1,eG,q1.1,am8]⟩
      ·rw[nF,k]at td;obtain⟨B,_,_,b,_⟩:=td;exact⟨[B],by rw[b,eG,q1.1]⟩
      ·rw[nF,k]at td;obtain⟨e0,b,_⟩:=td;exact⟨e0,by rw[b,eG,q1.1]⟩
     obtain⟨e0,C9⟩:=q2;refine⟨hj,same q1.1, .inl ⟨vh hj,?_⟩⟩;have:∀e(C:AV->anD ao->Prop),C xi (hj++e)->ja P oi (ev ((s.wh hj).put oj.dst xj)) (hj++e) C:=λe C hC=>by
      rw[ci,C9,am4];rw[C9,am4]at hC;exact q1.2 _ C hC
     unfold dE;rw[pD];rcases hc.1 with k|k
     ·rw[kE,k];simp only;refine⟨trivial,λh' hh C hC=> ?_⟩;rw[ci];unfold dE at o1;rw[kE,k]at o1;exact o1.2 h' (λn cs hn hq=>hh n cs (by rw[C9];exact iw.app _ _ n cs hn hq) hq) C hC
     ·rw[kE,k];exact⟨rfl,this⟩
  ·
   subst f1;rw[eG]at f2;refine⟨s.h, .inr ⟨vu tj g2,rfl,rfl⟩,?_⟩;rw[f2];exact Mz (ti s.h) (by rw[pD]) (.inl ⟨g1,o1⟩)
 ·
  subst e1;refine⟨hj,same e2, .inr ⟨vu (ti hj) g1,rfl,(pD hj).symm⟩⟩
def q6(K:St->Prop):Prop:=∀s s',iT s s'->K s->K s'
def j6(m:Bool)(P:anG)(ops:Array Oper)(K:St->Prop):Nat->Array Bool->St->Prop
 |0,listed,s=>Region.ready .any ops listed=[]/\K s
 |fuel+1,listed,s=>
  (Region.ready .any ops listed=[]->K s)/\
  ∀i∈Region.ready .any ops listed,∀o,ops[i]?=some o->∃x h1,l5 m P ops o s x h1/\j6 m P ops K fuel (listed.setIfInBounds i true) ((s.wh h1).put o.dst x)
theorem WB{m:Bool}{K:St->Prop}(hK:q6 K):∀(fuel:Nat)(listed:Array Bool)(s s':St),iT s s'->j6 m P ops K fuel listed s->j6 m P ops K fuel listed s'
 |0,_,s,s',hs,h=>⟨h.1,hK s s' hs h.2⟩
 |fuel+1,_,s,s',hs,h=>⟨λh0=>hK s s' hs (h.1 h0),λi hi o ho=>by
  obtain⟨x,h1,h2,h3⟩:=h.2 i hi o ho;exact⟨x,h1,Mz (λd _=>(hs.t d).symm) hs.h.symm h2,WB hK fuel _ _ _ (hs.put h1 o.dst x) h3⟩⟩
def n9(M:Array Nat)(ops:Array Oper):Bool:=
 (List.range ops.size).all λj=>(List.range ops.size).all λi=> !(M.getD j 0).testBit i||match ops[j]? with
  |some o=>o.after.any λe=>Region.binds .any e&&decide (e.on<j)&&(e.on==i||(M.getD e.on 0).testBit i)
  |none=>false
def Dn(ops:Array Oper)(listed:Array Bool):Prop:=∀(j:Nat)(o:Oper),ops[j]?=some o->listed.getD j false=true->∀e∈o.after,Region.binds .any e=true->listed.getD e.on false=true
theorem afY{M:Array Nat}(hM:n9 M ops=true){listed:Array Bool}(hD:Dn ops listed):∀(j i:Nat)(o:Oper),i<ops.size->ops[j]?=some o->(∀e∈o.after,Region.binds .any e=true->listed.getD e.on false=true)->(M.getD j 0).testBit i=true->listed.getD i false=true:=by
 intro j
 induction j using Nat.strongRecOn with
 |_ j ih=>
  intro i o hi ho hp hb;unfold n9 at hM;simp only[ane,List.mem_range]at hM;have h1:=hM j (am2.1 ho).1 i hi;rw[hb,ho]at h1;simp only[Bool.not_true,Bool.false_or]at h1;rw[Array.any_eq_true']at h1;obtain⟨e,he,h2⟩:=h1;simp only[amP,decide_eq_true_eq,Bool.or_eq_true,beq_iff_eq]at h2;obtain⟨⟨AM,aJ⟩,h3⟩:=h2;have hl:=hp e he AM;rcases h3 with h3|h3
  ·rw[<-h3];exact hl
  ·have Jm:e.on<ops.size:=Nat.lt_trans aJ (am2.1 ho).1;exact ih e.on aJ i ops[e.on] hi (am9 Jm) (hD e.on _ (am9 Jm) hl) h3
theorem Dn.set{listed:Array Bool}(hD:Dn ops listed){i:Nat}(hr:i∈Region.ready .any ops listed):Dn ops (listed.setIfInBounds i true):=by
 intro j o ho hj e he hb;refine getD_set_true ?_;by_cases qv:i=j
 ·subst qv;obtain⟨_,o',gN,eR⟩:=mem_ready.1 hr;rw[ho]at gN;cases gN;exact eR e he hb
 ·rw[getD_set_ne false qv]at hj;exact hD j o ho hj e he hb
theorem GC{m:Bool}{K:St->Prop}(hK:q6 K){M:Array Nat}(hM:n9 M ops=true){i:Nat}{oi:Oper}{x:AV}{h1:anD ao}(hi:ops[i]?=some oi):
 ∀(fuel:Nat)(listed:Array Bool)(s:St),Dn ops listed->
  (∀j oj,ops[j]?=some oj->j≠i->listed.getD j true=false->(M.getD j 0).testBit i=false->oi.apart ops oj=true/\zq m oi oj=true)->
  i∈Region.ready .any ops listed->l5 m P ops oi s x h1->j6 m P ops K fuel (listed.setIfInBounds i true) ((s.wh h1).put oi.dst x)->j6 m P ops K (fuel+1) listed s:=by
 intro fuel
 induction fuel generalizing x h1 with
 |zero=>
  intro listed s _ _ hr hy H;refine⟨λh=>(by rw[h]at hr;cases hr),λj hj o ho=> ?_⟩;by_cases uW:j=i
  ·subst uW;rw[hi]at ho;cases ho;exact⟨x,h1,hy,H⟩
  ·have:=ready_mono hj uW;rw[H.1]at this;cases this
 |succ fuel ih=>
  intro listed s hD Xz hr hy H;refine⟨λh=>(by rw[h]at hr;cases hr),λj hj oj yp=> ?_⟩;by_cases uW:j=i
  ·subst uW;rw[hi]at yp;cases yp;exact⟨x,h1,hy,H⟩
  ·obtain⟨xj,hj1,HC,H2⟩:=H.2 j (ready_mono hj uW) oj yp;obtain⟨Uu,oj',Yt,eR⟩:=mem_ready.1 hj;rw[yp]at Yt;cases Yt;have tt:=(am2.1 hi).1;have o8:listed.getD i false=false:=by
    have h0:=(mem_ready.1 hr).1;rcases Nat.lt_or_ge i listed.size with h'|h'
    ·simpa [h']using h0
    ·simp [Array.getElem?_eq_none h']at h0
   have jv:(M.getD j 0).testBit i=false:=by
    cases hb:(M.getD j 0).testBit i with
    |false=>rfl
    |true=>rw[afY hM hD j i oj tt yp eR hb]at o8;cases o8
   obtain⟨G8,hX⟩:=Xz j oj yp uW Uu jv;obtain⟨iy,s1,s2⟩:=swap G8 hX hy HC;obtain⟨_,a2,_⟩:=Oper.apart_spec G8;refine⟨xj,iy,s1,ih (listed.setIfInBounds j true) _ (hD.set hj) (λk ok hk Oh UD rH=> ?_) (ready_mono hr (Ne.symm uW)) s2 ?_⟩
   ·refine Xz k ok hk Oh ?_ rH;by_cases J4:j=k
    ·subst J4;exact Uu
    ·rw[getD_set_ne true J4]at UD;exact UD
   ·rw[Array.setIfInBounds_comm _ _ uW];exact WB hK _ _ _ _ (agj s h1 iy hj1 x xj (λk hk=>a2 k hk)) H2
def WY(M:Array Nat)(ops:Array Oper)(k:Nat):Bool:=
 match ops[k]? with
 |none=>false
 |some oi=>(List.range ops.size).all λj=>decide (j<=k)||(M.getD j 0).testBit k||match ops[j]? with
  |some oj=>oi.apart ops oj&&zq false oi oj
  |none=>true
def Cr(M:Array Nat)(ops:Array Oper):Nat->Nat->Array Bool->Bool
 |0,_,listed=>(Region.ready .any ops listed).isEmpty
 |fuel+1,k,listed=>(Region.ready .any ops listed).contains k&&WY M ops k&&Cr M ops fuel (k+1) (listed.setIfInBounds k true)
def vf(ops:Array Oper):Bool:=n9 (Region.before ops) ops&&Cr (Region.before ops) ops ops.size 0 (Array.replicate ops.size false)
theorem Xm{K K':St->Prop}(hK:q6 K')(CN:∀s,K s->K' s){M:Array Nat}(hM:n9 M ops=true):∀(l:anD Oper)(k:Nat)(listed:Array Bool)(s:St),(∀j,l[j]?=ops[k+j]?)->(∀j,j<k->listed.getD j true=true)->Dn ops listed->
 Cr M ops l.length k listed=true->Ci P ops l K s->j6 false P ops K' l.length listed s
 |[],_,_,_,_,_,_,hB,h=>⟨by simpa [Cr]using hB,CN _ h⟩
 |o::l,k,listed,s,hl,pG,hD,hB,h=>by
  have h0:ops[k]?=some o:=by simpa using (hl 0).symm
  simp only[amQ,Cr,amP]at hB;obtain⟨⟨hr,hf⟩,dk⟩:=hB;have kS:k∈Region.ready .any ops listed:=by simpa using hr
  have yN:∀j,l[j]?=ops[k+1+j]?:=λj=>by have:=hl (j+1);simpa [Nat.add_assoc,Nat.add_comm 1 j]using this
  have aio:∀j,j<k+1->(listed.setIfInBounds k true).getD j true=true:=λj hj=>by
   by_cases e:k=j
   ·subst e;rcases Nat.lt_or_ge k listed.size with h'|h'
    ·simp [h']
    ·have:(listed.setIfInBounds k true)[k]?=none:=Array.getElem?_eq_none (by simpa using h');rw[Array.getD_eq_getD_getElem?,this];rfl
   ·rw[getD_set_ne true e];exact pG j (by omega)
  obtain⟨x,h1,hy,yx⟩:∃x h1,l5 false P ops o s x h1/\Ci P ops l K ((s.wh h1).put o.dst x):=by
   rcases Jl h with⟨g,hd⟩|⟨g,hd⟩
   ·obtain⟨x,h1,h2,h3⟩:=Hi hd;exact⟨x,h1, .inl ⟨g,h2⟩,h3⟩
   ·exact⟨_,s.h, .inr ⟨g,rfl,rfl⟩,hd⟩
  refine GC hK hM h0 l.length listed s hD (λj oj hj ck o8 rH=> ?_) kS hy (Xm hK CN hM l (k+1) _ _ yN aio (hD.set kS) dk yx);unfold WY at hf;rw[h0]at hf;simp only[ane,List.mem_range]at hf;have:=hf j (am2.1 hj).1;rw[rH,hj]at this;simp only[Bool.or_false,Bool.or_eq_true,amP,decide_eq_true_eq]at this;rcases this with this|this
  ·exfalso;have:=pG j (by omega);rw[this]at o8;cases o8
  ·exact this
def Vj(ops:Array Oper):Nat->Array Bool->anD Nat
 |0,_=>[]
 |f+1,listed=>match (Region.ready .any ops listed).find? (λk=>match ops[k]? with|some o=> !(bQ o==6)&& !GS o|none=>false)with
  |some k=>k::Vj ops f (listed.setIfInBounds k true)
  |none=>match Region.ready .any ops listed with
   |k::_=>k::Vj ops f (listed.setIfInBounds k true)
   |[]=>[]
def BV(m:Bool)(M:Array Nat)(ops:Array Oper):anD Nat->Array Bool->Bool
 |[],listed=>(Region.ready .any ops listed).isEmpty
 |k::l,listed=>(Region.ready .any ops listed).contains k&&(match ops[k]? with
  |none=>false
  |some oi=>(List.range ops.size).all λj=>j==k||listed.getD j true||(M.getD j 0).testBit k||match ops[j]? with
   |some oj=>oi.apart ops oj&&zq m oi oj
   |none=>true)&&BV m M ops l (listed.setIfInBounds k true)
def Cp(m:Bool)(ops:Array Oper)(p:anD Nat):Bool:=n9 (Region.before ops) ops&&BV m (Region.before ops) ops p (Array.replicate ops.size false)
def tg(ops:Array Oper):anD Nat->anD Oper
 |[]=>[]
 |k::l=>match ops[k]? with
  |some o=>o::tg ops l
  |none=>tg ops l
theorem SR{m:Bool}{K K':St->Prop}(hK:q6 K')(CN:∀s,K s->K' s){M:Array Nat}(hM:n9 M ops=true):∀(l:anD Nat)(listed:Array Bool)(s:St),Dn ops listed->
 BV m M ops l listed=true->uI m P ops (tg ops l) K s->j6 m P ops K' l.length listed s
 |[],_,_,_,hB,h=>⟨by simpa [BV]using hB,CN _ h⟩
 |k::l,listed,s,hD,hB,h=>by
  simp only[BV,amP]at hB;obtain⟨⟨hr,hf⟩,dk⟩:=hB;have kS:k∈Region.ready .any ops listed:=by simpa using hr
  obtain⟨_,o,h0,_⟩:=mem_ready.1 kS;rw[h0]at hf;simp only[ane,List.mem_range]at hf;simp only[tg,h0]at h;obtain⟨x,h1,hy,yx⟩:∃x h1,l5 m P ops o s x h1/\uI m P ops (tg ops l) K ((s.wh h1).put o.dst x):=by
   rcases Jl h with⟨g,hd⟩|⟨g,hd⟩
   ·obtain⟨x,h1,h2,h3⟩:=Hi hd;exact⟨x,h1, .inl ⟨g,h2⟩,h3⟩
   ·exact⟨_,s.h, .inr ⟨g,rfl,rfl⟩,hd⟩
  refine GC hK hM h0 l.length listed s hD (λj oj hj ck o8 rH=> ?_) kS hy (SR hK CN hM l _ _ (hD.set kS) dk yx);have:=hf j (am2.1 hj).1;rw[rH,o8,hj]at this;simp only[Bool.or_false,Bool.or_eq_true,amP,beq_iff_eq]at this;rcases this with this|this
  ·exact absurd this ck
  ·exact this
end
section
variable {P:anG} {r:anF Nat} {n N0:Nat} {G:Gh} {w:anI} {a:Act} {s:St} {o:Oper} {Q:Exit->St->Prop}
theorem cx.drew(hs:cx G w a s):bx G.N G w G {w with drawn:=w.drawn+1}/\cx G {w with drawn:=w.drawn+1} a s:=by
 have hE:bx G.N G w G {w with drawn:=w.drawn+1}:=⟨amY _,λ_ _ h=>h,λ_ _ _=>rfl,λ_ _=>rfl,λ_ _=> .inl ⟨rfl,rfl⟩,gV rfl,λ_ _=>rfl,rfl,rfl,rfl,λ_ _ h=> .inl h⟩;have hi:bC G {w with drawn:=w.drawn+1} s.h:=⟨hs.inv.len,hs.inv.z,hs.inv.S,λn B hB=>dB.keep (hs.inv.lt hB) hE (amY _) ⟨rfl,rfl,rfl⟩ (λ_ _=>⟨rfl,λ_ h=>h⟩) (hs.inv.cT n B hB),hs.inv.inj,hs.inv.gl.keep hE⟩;exact⟨hE,hs.move hE (amY _) hi⟩
theorem akf{m:Bool}{x:AV}{h1:anD ao}(h:dE m P o (ev s) s.h x h1):ja P o (ev s) s.h (λx' h'=>(s.wh h').put o.dst x'=(s.wh h1).put o.dst x):=S7 h _ rfl
theorem E7{m:Bool}{ops:Array Oper}{K:St->Prop}{Q':Exit->Act->anI->Prop}(hQ:∀a' w',iC N0 G w K a' w'->Q' .normal a' w'):∀(fuel:Nat)(listed:Array Bool)(G1:Gh)(w1:anI)(a:Act)(s:St),
 bx N0 G w G1 w1->N0<=G1.N->cx G1 w1 a s->j6 m P ops K fuel listed s->wpAnyIn (WF r) n P .any ops Q' fuel listed a w1
 |0,_,G1,w1,a,s,hE,hN,hs,h=>⟨h.1,hQ _ _ ⟨G1,s,hE,hN,hs,h.2⟩⟩
 |fuel+1,listed,G1,w1,a,s,hE,hN,hs,h=>by
  refine⟨λh0=>hQ _ _ ⟨G1,s,hE,hN,hs,h.1 h0⟩,λi hi=> ?_⟩;obtain⟨_,o,ho,_⟩:=mem_ready.1 hi;obtain⟨x,h1,hy,yx⟩:=h.2 i hi o ho;unfold wpOpIn;rw[ho];simp only;rcases hy with⟨g,hc⟩|⟨g,rfl,rfl⟩
  ·have hg:=PF hs g;split at hg
   ·rename_i hw
    rw[if_pos hw];refine Oper.wpIn_mono (λa' w' hn=> ?_) ((akf hc).elim (λk=>Ub (K:=λs'=>s'=(s.wh h1).put o.dst x) (r:=r) (n:=n) (N0:=N0) (Q:=Q') hs hN k) fun⟨_,va,x',h',p,k1,k2,k3⟩=>Xn (K:=λs'=>s'=(s.wh h1).put o.dst x) (r:=r) (n:=n) (N0:=N0) (Q:=Q') hs hN ⟨va,x',h',p,k1,k2,k3⟩);obtain⟨G2,s2,e2,n2,wg,rfl⟩:=hn;exact E7 hQ fuel _ G2 w' a' _ (hE.trans e2) n2 wg yx
   ·exact hg.elim
  ·have hg:=PF hs g;split at hg
   ·exact hg.elim
   ·rename_i hw
    rw[if_neg hw];exact⟨λ_ _=>trivial,E7 hQ fuel _ G1 w1 _ _ hE hN (hs.put (.d (.v undef)) o.dst) yx⟩
theorem NU{id:Nat}{l:anD Oper}(hm:P.follows .mixedOrders=true)(hl:vf l.toArray=true)(h:Ci P l.toArray l (Q .normal) s):bj P r N0 (.region id l.toArray true) Q s:=by
 constructor
 intro G w a n hs hN;unfold vf at hl;rw[amP]at hl;obtain⟨d1,d2⟩:=hs.drew;refine wpIn_region_any hm ?_;have hC:q6 (λs=>∃s',iT s' s/\Q .normal s'):=λs s' e ⟨s0,e0,h0⟩=>⟨s0,e0.trans e,h0⟩;have:=Xm (K:=Q .normal) hC (λs h=>⟨s,iT.refl s,h⟩) hl.1 l 0 (Array.replicate l.toArray.size false) s (by simp) (λj hj=>absurd hj (ang _)) (λj o ho hj=>by
  exfalso;rw[Array.getD_eq_getD_getElem?]at hj;rw[Array.getElem?_replicate]at hj;split at hj<;>simp at hj) (by simpa using hl.2) h
 refine E7 (G:=G) (w:=w) (N0:=N0) (K:=λs=>∃s',iT s' s/\Q .normal s') (λa' w' hn=> ?_) l.toArray.size _ G _ a s (d1.less hN) hN d2 (by simpa using this);obtain⟨G',s',x1,x2,x3,s0,e0,x4⟩:=hn;refine⟨G',s0,x1,x2,⟨x3.size.trans e0.n.symm,λi=>by rw[e0.t i];exact x3.tmp i,by rw[e0.h];exact x3.inv,x3.df⟩,x4⟩
theorem TM{m:Bool}{id:Nat}{ops:Array Oper}(p:anD Nat)(hm:P.follows .mixedOrders=true)(hz:p.length=ops.size)(hl:Cp m ops p=true)(h:uI m P ops (tg ops p) (Q .normal) s):bj P r N0 (.region id ops true) Q s:=by
 constructor
 intro G w a n hs hN;unfold Cp at hl;rw[amP]at hl;obtain⟨d1,d2⟩:=hs.drew;refine wpIn_region_any hm ?_;have hC:q6 (λs=>∃s',iT s' s/\Q .normal s'):=λs s' e ⟨s0,e0,h0⟩=>⟨s0,e0.trans e,h0⟩;have:=SR (K:=Q .normal) hC (λs h=>⟨s,iT.refl s,h⟩) hl.1 p (Array.replicate ops.size false) s (λj o ho hj=>by
  exfalso;rw[Array.getD_eq_getD_getElem?]at hj;rw[Array.getElem?_replicate]at hj;split at hj<;>simp at hj) hl.2 h
 rw[hz]at this;refine E7 (G:=G) (w:=w) (N0:=N0) (K:=λs=>∃s',iT s' s/\Q .normal s') (λa' w' hn=> ?_) ops.size _ G _ a s (d1.less hN) hN d2 this;obtain⟨G',s',x1,x2,x3,s0,e0,x4⟩:=hn;refine⟨G',s0,x1,x2,⟨x3.size.trans e0.n.symm,λi=>by rw[e0.t i];exact x3.tmp i,by rw[e0.h];exact x3.inv,x3.df⟩,x4⟩
end
def amw(want:Bool):AV->Bool
 | .d (.v (.bool b))=>b==want
 |_=>false
def gNo(want:Bool):AV->Bool
 | .d (.v (.bool b))=>b== !want
 | .d (.v (.tuple _))=>true
 |_=>false
def acj(t:anD (Nat×AV)):anF Nat->AV
 |some d=>aY t d
 |none=> .dead
def tL(ops:Array Oper)(j:Nat)(t:anD (Nat×AV)):AV:=acj t ((ops[j]?).bind (·.dst))
section
variable {P:anG} {ops:Array Oper} {dst:anF Nat} {op:Op} {ty:TypeId} {pos:String} {after:Array Edge} {j:Nat} {w:Bool} {s:St} {rest:anD Oper} {K:St->Prop} {y n:Prop}
theorem Gx:iG ops ⟨dst,op,ty,pos,after,some (j,w)⟩ s y n=(match tL ops j s.t with
 | .d (.v (.bool b))=>(b=w->y)/\(b= !w->n)
 | .d (.v (.tuple _))=>n
 |_=>False):=by
 show(match (ops[j]?).bind (·.dst)with
  |some d=>match aY s.t d with
   | .d (.v (.bool b))=>(b=w->y)/\(b= !w->n)
   | .d (.v (.tuple _))=>n
   |_=>False
  |none=>False)=_
 unfold tL;cases (ops[j]?).bind (·.dst)<;>rfl
end
section
variable {P:anG} {r:anF Nat} {n N0:Nat} {G:Gh} {w:anI} {a:Act} {s:St} {o:Oper} {Q:Exit->St->Prop}
theorem cw{K:St->Prop}(h:K s):ig K Q .normal s:=h
theorem uk{K:St->Prop}{i:Nat}(h:Q (.exit i) s):ig K Q (.exit i) s:=h
theorem dO{K:St->Prop}(h:Q .ret s):ig K Q .ret s:=h
theorem oJ{id:Nat}(h:Q .normal s):qm id Q .normal s:=h
theorem gO{id:Nat}(h:Q .ret s):qm id Q .ret s:=h
theorem B5{id i:Nat}(e:(i==id)=true)(h:Q .normal s):qm id Q (.exit i) s:=by simpa only[qm,e,cond_true]using h
theorem ahp{id i:Nat}(e:(i==id)=false)(h:Q (.exit i) s):qm id Q (.exit i) s:=by simpa only[qm,e,cond_false]using h
theorem m8{c:Operand}{x y:Code}(hc:ev s c= .d (.v (.bool true)))(h:bj P r N0 x Q s):bj P r N0 (.cond c x y) Q s:=M4 hc (λ_=>h) λh=>Bool.noConfusion h
theorem nH{c:Operand}{x y:Code}(hc:ev s c= .d (.v (.bool false)))(h:bj P r N0 y Q s):bj P r N0 (.cond c x y) Q s:=M4 hc (λh=>Bool.noConfusion h) λ_=>h
theorem aw_cond_h{c:Operand}{x y:Code}{t:Bool}(hc:ev s c= .d (.v (.bool t)))(e:t=true)(h:bj P r N0 x Q s):bj P r N0 (.cond c x y) Q s:=m8 (by rw[hc,e]) h
theorem gZ{c:Operand}{x y:Code}{t:Bool}(hc:ev s c= .d (.v (.bool t)))(e:t=false)(h:bj P r N0 y Q s):bj P r N0 (.cond c x y) Q s:=nH (by rw[hc,e]) h
end
theorem adu{G:Gh}{w:anI}{h:anD ao}{b:Nat}{cs bV:anD AV}(hi:bC G w h)(hb:h[b]?=some (.cells cs))(hl:bV.length=cs.length)
 (hc:∀(vs:Array anH)(T:TypeId),w.heap[G.aI b]?=some (.cells vs T (0,0))->∀(i:Nat)(u:anH)(c:AV),vs[i]?=some u->bV[i]?=some c->aE G w u c):bC G w (h.set b (ao.cells bV)):=by
 have ho:∀n,bz (h.set b (ao.cells bV)) G n=bz h G n:=λn=>by
  have aJ:=(amN.1 hb).1;unfold bz;by_cases e:b=n
  ·subst e;rw[anh aJ,hb];rfl
  ·rw[anm e]
 refine⟨by rw[List.length_set];exact hi.len,hi.z,hi.S,λn B hB=> ?_,λm n x hm hn=>hi.inj m n x (by rw[<-ho];exact hm) (by rw[<-ho];exact hn),hi.gl⟩;have aJ:=(amN.1 hb).1;by_cases e:b=n
 ·subst e;rw[anh aJ]at hB;cases hB
  obtain⟨h1,h2,vs,T,h3,h4,_⟩:=hi.cT _ _ hb;exact⟨h1,h2,vs,T,h3,h4.trans hl.symm,hc vs T h3⟩
 ·rw[anm e]at hB;exact hi.cT n B hB
theorem T7{P:anG}{r:anF Nat}{N0:Nat}{s:St}{Q:Exit->St->Prop}{c:Code}(b i:Nat)(e:TypeId)(sz:Nat)(xs:anD (anD D)){cs:anD AV}(hb:s.h[b]?=some (.cells cs))(hx:cs[i]?=some (.full xs)\/(cs[i]?=some (.d (.v (.slice none 0 0)))/\xs=[]))
 (h:bj P r N0 c Q ⟨s.n,s.t,(s.h++[ao.front e sz xs.length]).set b (ao.cells (cs.set i (AV.own s.h.length xs)))⟩):bj P r N0 c Q s:=by
 constructor
 intro G w a n hs hN;obtain⟨h1,h2,vs,T,h3,h4,h5⟩:=hs.inv.cT _ _ hb;have hi:i<cs.length:=by rcases hx with hx|⟨hx,_⟩<;>exact(amN.1 hx).1
 have hv:vs[i]?=some vs[i]:=am9 (by omega);have hp:cX G.S w vs[i] (.sl xs)/\∃A,vs[i]= .slice A xs.length xs.length:=by
  rcases hx with hx|⟨hx,rfl⟩
  ·have:=h5 i _ _ hv hx;generalize vs[i]=u at this;cases this with|full _ hp hf=>exact⟨hp,hf⟩
  ·have:=h5 i _ _ hv hx;rw[this.val];exact⟨FX,none,rfl⟩
 obtain⟨a1,a2,a3,a4⟩:=Wo hs.inv hp.1 hp.2 e sz;have aJ:=(amN.1 hb).1;have bP:cx (G.gY vs[i] xs.length) w a ⟨s.n,s.t,(s.h++[ao.front e sz xs.length]).set b (ao.cells (cs.set i (AV.own s.h.length xs)))⟩:=by
  refine⟨hs.size,λj=>(hs.tmp j).keep a1 a2,adu a3 (by rw[amX aJ];exact hb) (by rw[List.length_set]) λfu T' TU j u c hu hc=> ?_,hs.df.keep a1⟩;have e1:(G.gY vs[i] xs.length).aI b=G.aI b:=by
   have:b≠G.N:=by have:=hs.inv.len;omega
   simp [Gh.gY]
  rw[e1,h3]at TU;cases TU
  by_cases e2:i=j
  ·subst e2;rw[anh hi]at hc;cases hc
   rw[hv]at hu;cases hu
   exact a4
  ·rw[anm e2]at hc;exact(h5 j u c hu hc).keep a1 a2
 exact wpIn_mono (h.run _ w a n bP (am5 hN a2)) λ_ _ _ hn=>hn.trans (a1.less hN)
def AV.Le(x y:AV):Prop:=∀(G:Gh)(w:anI)(u:anH),aE G w u x->aE G w u y
theorem AV.Le.refl(x:AV):AV.Le x x:=λ_ _ _ h=>h
theorem AV.Le.full(xs:anD (anD D)):AV.Le (.full xs) (.d (.sl xs)):=λ_ _ _ h=>by
 cases h with|full _ hp _=>exact .d hp
theorem AV.Le.nil:AV.Le (.d (.v (.slice none 0 0))) (.d (.sl [])):=λ_ _ _ h=>by
 rw[h.val];exact .d FX
theorem AV.Le.agg{cs ds:anD AV}(hl:cs.length=ds.length)(h:∀(i:Nat)(c d:AV),cs[i]?=some c->ds[i]?=some d->AV.Le c d):AV.Le (.agg cs) (.agg ds):=λG w u hu=>by
 cases hu with
 |agg vs _ yN hv=>
  refine .agg vs ds (yN.trans hl) λi u d hui hd=> ?_;have aJ:i<cs.length:=by rw[hl];exact(amN.1 hd).1
  exact h i _ d (amR aJ) hd G w u (hv i u _ hui (amR aJ))
set_option linter.unusedSimpArgs false
set_option linter.unusedVariables false
def rn:anD Nat->Nat->Nat->Nat
 |[],base,i=>base+i
 |j::_,_,0=>j
 |_::l,base,i+1=>rn l base i
theorem zG:∀(l:anD Nat)(base i:Nat)(j:Nat),l[i]?=some j->rn l base i=j
 |[],_,i,j,h=>by simp at h
 |a::l,base,0,j,h=>by simpa [rn]using h
 |a::l,base,i+1,j,h=>by rw[rn];exact zG l base i j (by simpa using h)
theorem F0:∀(l:anD Nat)(base i:Nat),l.length<=i->rn l base i=base+(i-l.length)
 |[],base,i,_=>by simp [rn]
 |a::l,base,0,h=>by simp at h
 |a::l,base,i+1,h=>by rw[rn,F0 l base i (by simpa using h)];simp
mutual
def AV.aG(σ:Nat->Nat):AV->AV
 | .ptr n off=> .ptr (σ n) off
 | .own n xs=> .own (σ n) xs
 | .row n off len cap k=> .row (σ n) off len cap k
 | .mp n=> .mp (σ n)
 | .cF n=> .cF (σ n)
 | .vec n o len L k=> .vec (σ n) o len L k
 | .db n i j L k=> .db (σ n) i j L k
 | .agg cs=> .agg (AV.fp σ cs)
 | .aQ cs=> .aQ (AV.fp σ cs)
 | .fn f cs=> .fn f (AV.fp σ cs)
 | .d x=> .d x
 | .ba xs i off=> .ba xs i off
 | .full xs=> .full xs
 | .hid c=> .hid c
 | .dead=> .dead
def AV.fp(σ:Nat->Nat):anD AV->anD AV
 |[]=>[]
 |x::l=>x.aG σ::AV.fp σ l
end
theorem fX(σ:Nat->Nat):∀l,AV.fp σ l=l.map (AV.aG σ)
 |[]=>by simp [AV.fp]
 |x::l=>by simp [AV.fp,fX σ l]
def ao.aG(σ:Nat->Nat):ao->ao
 | .cells cs=> .cells (AV.fp σ cs)
 | .lp ls p as bd cs=> .lp ls p as bd (AV.fp σ cs)
 | .it sn cs=> .it sn (AV.fp σ cs)
 | .dM T cs=> .dM T (AV.fp σ cs)
 | .vec e k cs=> .vec e k (cs.map (AV.fp σ))
 | .front e k len=> .front e k len
 | .byt e b=> .byt e b
 | .map kv=> .map kv
 | .iI kv=> .iI kv
 | .gone=> .gone
def gw:anD Nat->anD ao->anD ao->anD ao
 |[],Bs,h=>h++Bs
 |_::_,[],h=>h
 |i::l,B::Bs,h=>gw l Bs (h.set i B)
structure qz(σ:Nat->Nat)(G G2:Gh):Prop where
 lt:∀n,n<G.N->σ n<G2.N
 aI:∀n,n<G.N->G2.aI (σ n)=G.aI n
 sg:∀n,n<G.N->G2.sg (σ n)=G.sg n
 fl:∀n,n<G.N->G2.fl (σ n)=G.fl n
 ow:∀n,n<G.N->G2.ow (σ n)=G.ow n
 S:∀b o,G2.S b o↔G.S b o
theorem cX.tP{S S':Nat->Nat->Prop}{w:anI}(hS:∀b o,S b o->S' b o){u:anH}{x:D}(h:cX S w u x):cX S' w u x:=h.keep hS (λ_ _ _=>rfl)
theorem aE.aG{σ:Nat->Nat}{G G2:Gh}{w:anI}(hR:qz σ G G2){u:anH}{x:AV}(h:aE G w u x):aE G2 w u (x.aG σ):=by
 have hS:∀b o,G.S b o->G2.S b o:=λb o h=>(hR.S b o).2 h;have fR:∀(vs:Array anH)(cs:anD AV),(∀(i:Nat)(u:anH)(c:AV),vs[i]?=some u->cs[i]?=some c->aE G2 w u (c.aG σ))->∀(i:Nat)(u:anH)(c:AV),vs[i]?=some u->(AV.fp σ cs)[i]?=some c->aE G2 w u c:=by
  intro vs cs ih i u c hu hc;rw[fX,amU]at hc;cases hx:cs[i]? with
  |none=>rw[hx]at hc;cases hc
  |some x=>rw[hx]at hc;cases hc;exact ih i u x hu hx
 induction h with
 |agg vs cs hl _ ih=>rw[AV.aG];exact .agg vs _ (by rw[fX,amS];exact hl) (fR vs cs ih)
 |aQ vs cs hl _ ih=>rw[AV.aG];exact .aQ vs _ (by rw[fX,amS];exact hl) (fR vs cs ih)
 |fn f vs cs hl _ ih=>rw[AV.aG];exact .fn f vs _ (by rw[fX,amS];exact hl) (fR vs cs ih)
 |d h=>rw[AV.aG];exact .d (h.tP hS)
 |full xs hp hf=>rw[AV.aG];exact .full xs (hp.tP hS) hf
 |ptr n off h=>rw[AV.aG,<-hR.aI n h];exact .ptr _ off (hR.lt n h)
 |row n off len cap k h hl hm=>rw[AV.aG,<-hR.aI n h];exact .row _ off len cap k (hR.lt n h) hl hm
 |mp n h=>rw[AV.aG,<-hR.aI n h];exact .mp _ (hR.lt n h)
 |cF n h=>rw[AV.aG,<-hR.aI n h];exact .cF _ (hR.lt n h)
 |own n xs h hp hle hf=>rw[AV.aG];exact .own _ xs (hR.lt n h) (hp.tP hS) (by rw[hR.fl n h];exact hle) (by rw[hR.fl n h,hR.sg n h];exact hf)
 |vec n o len L k h hs hL hf=>rw[AV.aG];exact .vec _ o len L k (hR.lt n h) hs (by rw[hR.fl n h];exact hL) (by rw[hR.fl n h,hR.sg n h];exact hf)
 |db n i j L k h hs hL hf=>rw[AV.aG];exact .db _ i j L k (hR.lt n h) hs (by rw[hR.fl n h];exact hL) (by rw[hR.fl n h,hR.sg n h];exact hf)
 |ba xs i off b o u x hx qi hu=>rw[AV.aG];exact .ba xs i off b o u x hx (λj hj=>⟨hS _ _ (qi j hj).1,(qi j hj).2⟩) (λj d hd=>(hu j d hd).tP hS)
 |hid h h1=>rw[AV.aG];exact .hid (h.keep hS (λ_ _ _=>rfl)) h1
 |dead u=>rw[AV.aG];exact .dead u
theorem aE.sw{σ:Nat->Nat}{G G2:Gh}{w:anI}(hR:qz σ G G2){u:anH}{y:AV}(h:aE G2 w u y):∀x:AV,x.aG σ=y->x.aH G.N=true->aE G w u x:=by
 have hS:∀b o,G2.S b o->G.S b o:=λb o h=>(hR.S b o).1 h;have lt:∀n,(!bS G.N n)=true->n<G.N:=λn h=>by rw[Bool.not_eq_true',<-Bool.not_eq_true,dy]at h;omega
 have fR:∀(vs:Array anH)(cs xs:anD AV),(∀(i:Nat)(u:anH)(c:AV),vs[i]?=some u->cs[i]?=some c->∀x:AV,x.aG σ=c->x.aH G.N=true->aE G w u x)->AV.fp σ xs=cs->AV.ni G.N xs=true->∀(i:Nat)(u:anH)(c:AV),vs[i]?=some u->xs[i]?=some c->aE G w u c:=by
  intro vs cs xs ih e hb i u c hu hc;subst e;rw[mM,ane]at hb;exact ih i u (c.aG σ) hu (by rw[fX,amU,hc];rfl) c rfl (hb c (am0 hc))
 induction h with
 |agg vs cs hl _ ih=>
  intro x e hb;cases x<;>simp only[AV.aG,AV.agg.injEq,reduceCtorEq]at e
  next xs=>
   rw[AV.aH]at hb;exact .agg vs xs (by rw[hl,<-e,fX,amS]) (fR vs cs xs ih e hb)
 |aQ vs cs hl _ ih=>
  intro x e hb;cases x<;>simp only[AV.aG,AV.aQ.injEq,reduceCtorEq]at e
  next xs=>
   rw[AV.aH]at hb;exact .aQ vs xs (by rw[hl,<-e,fX,amS]) (fR vs cs xs ih e hb)
 |fn f vs cs hl _ ih=>
  intro x e hb;cases x<;>simp only[AV.aG,AV.fn.injEq,reduceCtorEq]at e
  next g xs=>
   obtain⟨rfl,e⟩:=e;rw[AV.aH]at hb;exact .fn _ vs xs (by rw[hl,<-e,fX,amS]) (fR vs cs xs ih e hb)
 |d h=>
  intro x e hb;cases x<;>simp only[AV.aG,AV.d.injEq,reduceCtorEq]at e
  next y=>subst e;exact .d (h.tP hS)
 |full xs hp hf=>
  intro x e hb;cases x<;>simp only[AV.aG,AV.full.injEq,reduceCtorEq]at e
  next y=>subst e;exact .full y (hp.tP hS) hf
 |ptr n off h=>
  intro x e hb;cases x<;>simp only[AV.aG,AV.ptr.injEq,reduceCtorEq]at e
  next m o=>
   obtain⟨e1,rfl⟩:=e;rw[AV.aH]at hb;have hm:=lt _ hb;rw[<-e1,hR.aI _ hm];exact .ptr _ _ hm
 |row n off len cap k h hl iL=>
  intro x e hb;cases x<;>simp only[AV.aG,AV.row.injEq,reduceCtorEq]at e
  next m o l c q=>
   obtain⟨e1,rfl,rfl,rfl,rfl⟩:=e;rw[AV.aH]at hb;have hm:=lt _ hb;rw[<-e1,hR.aI _ hm];exact .row _ _ _ _ _ hm hl iL
 |mp n h=>
  intro x e hb;cases x<;>simp only[AV.aG,AV.mp.injEq,reduceCtorEq]at e
  next m=>
   rw[AV.aH]at hb;have hm:=lt _ hb;rw[<-e,hR.aI _ hm];exact .mp _ hm
 |cF n h=>
  intro x e hb;cases x<;>simp only[AV.aG,AV.cF.injEq,reduceCtorEq]at e
  next m=>
   rw[AV.aH]at hb;have hm:=lt _ hb;rw[<-e,hR.aI _ hm];exact .cF _ hm
 |own n xs h hp hle hf=>
  intro x e hb;cases x<;>simp only[AV.aG,AV.own.injEq,reduceCtorEq]at e
  next m l=>
   obtain⟨e1,rfl⟩:=e;rw[AV.aH]at hb;have hm:=lt _ hb;rw[<-e1]at hle hf;exact .own _ _ hm (hp.tP hS) (by rw[<-hR.fl _ hm];exact hle) (by rw[<-hR.fl _ hm,<-hR.sg _ hm];exact hf)
 |vec n o len L k h hs hL hf=>
  intro x e hb;cases x<;>simp only[AV.aG,AV.vec.injEq,reduceCtorEq]at e
  next m a1 a2 a3 a4=>
   obtain⟨e1,rfl,rfl,rfl,rfl⟩:=e;rw[AV.aH]at hb;have hm:=lt _ hb;rw[<-e1]at hL hf;exact .vec _ _ _ _ _ hm hs (by rw[<-hR.fl _ hm];exact hL) (by rw[<-hR.fl _ hm,<-hR.sg _ hm];exact hf)
 |db n i j L k h hs hL hf=>
  intro x e hb;cases x<;>simp only[AV.aG,AV.db.injEq,reduceCtorEq]at e
  next m a1 a2 a3 a4=>
   obtain⟨e1,rfl,rfl,rfl,rfl⟩:=e;rw[AV.aH]at hb;have hm:=lt _ hb;rw[<-e1]at hL hf;exact .db _ _ _ _ _ hm hs (by rw[<-hR.fl _ hm];exact hL) (by rw[<-hR.fl _ hm,<-hR.sg _ hm];exact hf)
 |ba xs i off b o u y hx qi hu=>
  intro x e hb;cases x<;>simp only[AV.aG,AV.ba.injEq,reduceCtorEq]at e
  next a1 a2 a3=>
   obtain⟨rfl,rfl,rfl⟩:=e;exact .ba _ _ _ b o u y hx (λj hj=>⟨hS _ _ (qi j hj).1,(qi j hj).2⟩) (λj d hd=>(hu j d hd).tP hS)
 |hid h h1=>
  intro x e hb;cases x<;>simp only[AV.aG,AV.hid.injEq,reduceCtorEq]at e
  next c=>subst e;exact .hid (h.keep hS (λ_ _ _=>rfl)) h1
 |dead u=>
  intro x e hb;cases x<;>simp only[AV.aG,reduceCtorEq]at e
  exact .dead u
theorem OG{σ:Nat->Nat}{G G2:Gh}(hR:qz σ G G2){n:Nat}(hn:n<G.N)(B:ao):(B.aG σ).dw G2 (σ n)=B.dw G n:=by
 cases B<;>simp only[ao.aG,ao.dw,hR.aI n hn,hR.ow n hn]
theorem dB.aG{σ:Nat->Nat}{G G2:Gh}{w:anI}(hR:qz σ G G2){n:Nat}(hn:n<G.N){B:ao}(hz:∀b,B.dw G n=some b->¬G2.Z b)(h:dB G w n B):dB G2 w (σ n) (B.aG σ):=by
 have hS:∀b o,¬G.S b o->¬G2.S b o:=λb o h h2=>h ((hR.S b o).1 h2);cases B with
 |gone=>trivial
 |cells cs=>
  obtain⟨h1,h2,vs,T,h3,h4,h5⟩:=h;rw[ao.aG];refine⟨by rw[hR.aI n hn];exact hz _ rfl,by rw[hR.aI n hn];exact λo=>hS _ _ (h2 o),vs,T,by rw[hR.aI n hn];exact h3,by rw[fX,amS];exact h4,λi u c hu hc=> ?_⟩;rw[fX,amU]at hc;cases hx:cs[i]? with
  |none=>rw[hx]at hc;cases hc
  |some x=>rw[hx]at hc;cases hc;exact(h5 i u x hu hx).aG hR
 |lp ls p as bd cs=>
  obtain⟨h1,h2,fn,vs,T,h3,h4,h5⟩:=h;rw[ao.aG];refine⟨by rw[hR.aI n hn];exact hz _ rfl,by rw[hR.aI n hn];exact λo=>hS _ _ (h2 o),fn,vs,T,by rw[hR.aI n hn];exact h3,by rw[fX,amS];exact h4,λi u c hu hc=> ?_⟩;rw[fX,amU]at hc;cases hx:cs[i]? with
  |none=>rw[hx]at hc;cases hc
  |some x=>rw[hx]at hc;cases hc;exact(h5 i u x hu hx).aG hR
 |it sn cs=>
  obtain⟨h1,h2,fn,vs,T,h3,h4,h5⟩:=h;rw[ao.aG];refine⟨by rw[hR.aI n hn];exact hz _ rfl,by rw[hR.aI n hn];exact λo=>hS _ _ (h2 o),fn,vs,T,by rw[hR.aI n hn];exact h3,by rw[fX,amS];exact h4,λi u c hu hc=> ?_⟩;rw[fX,amU]at hc;cases hx:cs[i]? with
  |none=>rw[hx]at hc;cases hc
  |some x=>rw[hx]at hc;cases hc;exact(h5 i u x hu hx).aG hR
 |dM T0 cs=>
  obtain⟨h1,h2,fn,vs,T,h3,h4,h5⟩:=h;rw[ao.aG];refine⟨by rw[hR.aI n hn];exact hz _ rfl,by rw[hR.aI n hn];exact λo=>hS _ _ (h2 o),fn,vs,T,by rw[hR.aI n hn];exact h3,by rw[fX,amS,hR.aI n hn];exact h4,λi u c hu hc=> ?_⟩;rw[fX,amU]at hc;cases hx:cs[i]? with
  |none=>rw[hx]at hc;cases hc
  |some x=>rw[hx]at hc;cases hc;exact(h5 i u x hu hx).aG hR
 |map kv=>
  obtain⟨h1,h2,es,c,h3,h4⟩:=h;exact⟨by rw[hR.aI n hn];exact hz _ rfl,by rw[hR.aI n hn];exact λo=>hS _ _ (h2 o),es,c,by rw[hR.aI n hn];exact h3,h4.keep (λb o h=>(hR.S b o).2 h) (λ_ _ _=>rfl)⟩
 |iI kv=>
  obtain⟨h1,h2,es,c,h3,h4⟩:=h;exact⟨by rw[hR.aI n hn];exact hz _ rfl,by rw[hR.aI n hn];exact λo=>hS _ _ (h2 o),es,c,by rw[hR.aI n hn];exact h3,h4.keep (λb o h=>(hR.S b o).2 h) (λ_ _ _=>rfl)⟩
 |byt e b=>
  obtain⟨h1,hm,h2⟩:=h;refine⟨(hR.fl n hn).trans h1,hm,?_⟩;rcases h2 with⟨h2,h0,A,h3⟩|⟨g,cap,cur,h2,h3,h4,h5,h6,h7,h8,h9,bk⟩
  ·exact .inl ⟨(hR.ow n hn).trans h2,h0,A,(hR.sg n hn).trans h3⟩
  ·exact .inr ⟨g,cap,cur,(hR.ow n hn).trans h2,(hR.sg n hn).trans h3,hz g h2,h5,h6,h7,h8,λo=>hS _ _ (h9 o),bk⟩
 |front e k len=>
  obtain⟨h1,hm,h2⟩:=h;refine⟨(hR.fl n hn).trans h1,hm,?_⟩;rcases h2 with⟨h2,A,h3⟩|⟨g,cap,cur,h2,h3,h4,h5,h6,h7,h8,h9⟩
  ·exact .inl ⟨(hR.ow n hn).trans h2,A,(hR.sg n hn).trans h3⟩
  ·exact .inr ⟨g,cap,cur,(hR.ow n hn).trans h2,(hR.sg n hn).trans h3,hz g h2,h5,h6,h7,h8,λo ho=>hS _ _ (h9 o ho)⟩
 |vec e k cs=>
  obtain⟨h1,hm,hk,h2⟩:=h;rw[ao.aG];refine⟨by rw[amS];exact(hR.fl n hn).trans h1,by rw[amS];exact hm,λc hc=> ?_,?_⟩
  ·obtain⟨x,hx,rfl⟩:=List.mem_map.1 hc;rw[fX,amS];exact hk x hx
  ·rcases h2 with⟨h2,e2,A,h3⟩|⟨g,cap,cur,h2,h3,h4,h5,h6,h7,h8,h9,bk⟩
   ·exact .inl ⟨(hR.ow n hn).trans h2,by rw[e2];rfl,A,(hR.sg n hn).trans h3⟩
   ·refine .inr ⟨g,cap,cur,(hR.ow n hn).trans h2,by rw[amS];exact(hR.sg n hn).trans h3,hz g h2,h5,by rw[amS];exact h6,h7,h8,λo=>hS _ _ (h9 o),λi j c x u hc hx hu=> ?_⟩;rw[amU]at hc;cases hy:cs[i]? with
    |none=>rw[hy]at hc;cases hc
    |some y=>
     rw[hy]at hc;cases hc
     rw[fX,amU]at hx;cases hw:y[j]? with
     |none=>rw[hw]at hx;cases hx
     |some z=>rw[hw]at hx;cases hx;exact(bk i j y z u hy hw hu).aG hR
theorem dB.sw{σ:Nat->Nat}{G G2:Gh}{w:anI}(hR:qz σ G G2){n:Nat}(hn:n<G.N){B:ao}(hb:B.aH G.N=true)(hz:∀b,B.dw G n=some b->¬G.Z b)(h:dB G2 w (σ n) (B.aG σ)):dB G w n B:=by
 have hS:∀b o,¬G2.S b o->¬G.S b o:=λb o h h2=>h ((hR.S b o).2 h2);cases B with
 |gone=>trivial
 |cells cs=>
  rw[ao.aG]at h;obtain⟨h1,h2,vs,T,h3,h4,h5⟩:=h;rw[hR.aI n hn]at h2 h3;rw[fX,amS]at h4;simp only[ao.aH,ane]at hb;exact⟨hz _ rfl,λo=>hS _ _ (h2 o),vs,T,h3,h4,λi u c hu hc=>aE.sw hR (h5 i u (c.aG σ) hu (by rw[fX,amU,hc];rfl)) c rfl (hb c (am0 hc))⟩
 |lp ls p as bd cs=>
  rw[ao.aG]at h;obtain⟨h1,h2,fn,vs,T,h3,h4,h5⟩:=h;rw[hR.aI n hn]at h2 h3;rw[fX,amS]at h4;simp only[ao.aH,ane]at hb;exact⟨hz _ rfl,λo=>hS _ _ (h2 o),fn,vs,T,h3,h4,λi u c hu hc=>aE.sw hR (h5 i u (c.aG σ) hu (by rw[fX,amU,hc];rfl)) c rfl (hb c (am0 hc))⟩
 |it sn cs=>
  rw[ao.aG]at h;obtain⟨h1,h2,fn,vs,T,h3,h4,h5⟩:=h;rw[hR.aI n hn]at h2 h3;rw[fX,amS]at h4;simp only[ao.aH,ane]at hb;exact⟨hz _ rfl,λo=>hS _ _ (h2 o),fn,vs,T,h3,h4,λi u c hu hc=>aE.sw hR (h5 i u (c.aG σ) hu (by rw[fX,amU,hc];rfl)) c rfl (hb c (am0 hc))⟩
 |dM T0 cs=>
  rw[ao.aG]at h;obtain⟨h1,h2,fn,vs,T,h3,h4,h5⟩:=h;rw[hR.aI n hn]at h2 h3 h4;rw[fX,amS]at h4;simp only[ao.aH,ane]at hb;exact⟨hz _ rfl,λo=>hS _ _ (h2 o),fn,vs,T,h3,h4,λi u c hu hc=>aE.sw hR (h5 i u (c.aG σ) hu (by rw[fX,amU,hc];rfl)) c rfl (hb c (am0 hc))⟩
 |map kv=>
  obtain⟨h1,h2,es,c,h3,h4⟩:=h;rw[hR.aI n hn]at h2 h3;exact⟨hz _ rfl,λo=>hS _ _ (h2 o),es,c,h3,h4.keep (λb o h=>(hR.S b o).1 h) (λ_ _ _=>rfl)⟩
 |iI kv=>
  obtain⟨h1,h2,es,c,h3,h4⟩:=h;rw[hR.aI n hn]at h2 h3;exact⟨hz _ rfl,λo=>hS _ _ (h2 o),es,c,h3,h4.keep (λb o h=>(hR.S b o).1 h) (λ_ _ _=>rfl)⟩
 |byt e b=>
  obtain⟨h1,hm,h2⟩:=h;rw[hR.fl n hn]at h1;rw[hR.ow n hn,hR.sg n hn]at h2;refine⟨h1,hm,?_⟩;rcases h2 with⟨h2,h0,A,h3⟩|⟨g,cap,cur,h2,h3,h4,h5,h6,h7,h8,h9,bk⟩
  ·exact .inl ⟨h2,h0,A,h3⟩
  ·exact .inr ⟨g,cap,cur,h2,h3,hz g h2,h5,h6,h7,h8,λo=>hS _ _ (h9 o),bk⟩
 |front e k len=>
  obtain⟨h1,hm,h2⟩:=h;rw[hR.fl n hn]at h1;rw[hR.ow n hn,hR.sg n hn]at h2;refine⟨h1,hm,?_⟩;rcases h2 with⟨h2,A,h3⟩|⟨g,cap,cur,h2,h3,h4,h5,h6,h7,h8,h9⟩
  ·exact .inl ⟨h2,A,h3⟩
  ·exact .inr ⟨g,cap,cur,h2,h3,hz g h2,h5,h6,h7,h8,λo ho=>hS _ _ (h9 o ho)⟩
 |vec e k cs=>
  rw[ao.aG]at h;obtain⟨h1,hm,hk,h2⟩:=h;rw[hR.fl n hn,amS]at h1;rw[amS]at hm;rw[hR.ow n hn,hR.sg n hn,amS]at h2;simp only[ao.aH,ane]at hb;refine⟨h1,hm,λc hc=> ?_,?_⟩
  ·have:=hk _ (List.mem_map.2 ⟨c,hc,rfl⟩)
   rwa [fX,amS]at this
  ·rcases h2 with⟨h2,e2,A,h3⟩|⟨g,cap,cur,h2,h3,h4,h5,h6,h7,h8,h9,bk⟩
   ·exact .inl ⟨h2,List.map_eq_nil_iff.1 e2,A,h3⟩
   ·refine .inr ⟨g,cap,cur,h2,h3,hz g h2,h5,h6,h7,h8,λo=>hS _ _ (h9 o),λi j c x u hc hx hu=> ?_⟩;exact aE.sw hR (bk i j (AV.fp σ c) (x.aG σ) u (by rw[amU,hc];rfl) (by rw[fX,amU,hx];rfl) hu) x rfl (hb c (am0 hc) x (am0 hx))
theorem W4:∀(l:anD Nat)(Bs h:anD ao),l.length<=Bs.length->(gw l Bs h).length=h.length+(Bs.length-l.length)
 |[],Bs,h,_=>by simp [gw]
 |j::l,[],h,hl=>by simp at hl
 |j::l,B::Bs,h,hl=>by rw[gw,W4 l Bs _ (by simpa using hl),List.length_set];simp
theorem Re:∀(l:anD Nat)(Bs h:anD ao)(n:Nat),l.length<=Bs.length->n<h.length->n ∉ l->(gw l Bs h)[n]?=h[n]?
 |[],Bs,h,n,_,hn,_=>by rw[gw,amX hn]
 |j::l,[],h,n,hl,_,_=>by simp at hl
 |j::l,B::Bs,h,n,hl,hn,hm=>by
  simp only[ani,not_or]at hm;rw[gw,Re l Bs _ n (by simpa using hl) (by rw[List.length_set];exact hn) hm.2,anm (Ne.symm hm.1)]
theorem W1:∀(l:anD Nat)(Bs h:anD ao)(i:Nat),l.length<=Bs.length->l.Nodup->(∀j∈l,j<h.length)->i<Bs.length->(gw l Bs h)[rn l h.length i]?=Bs[i]?
 |[],Bs,h,i,_,_,_,hi=>by rw[gw,rn,am3 (ant _ _),Nat.add_sub_cancel_left]
 |j::l,[],h,i,hl,_,_,_=>by simp at hl
 |j::l,B::Bs,h,0,hl,hd,aJ,_=>by
  rw[List.nodup_cons]at hd;rw[gw,rn,Re l Bs _ j (by simpa using hl) (by rw[List.length_set];exact aJ j (by simp)) hd.1,anh (aJ j (by simp))];rfl
 |j::l,B::Bs,h,i+1,hl,hd,aJ,hi=>by
  rw[List.nodup_cons]at hd;have:=W1 l Bs (h.set j B) i (by simpa using hl) hd.2 (λx hx=>by rw[List.length_set];exact aJ x (by simp [hx])) (by simpa using hi);rw[List.length_set]at this;rw[gw,rn,this];simp
def we(l:anD Nat)(base n:Nat):anF Nat:=if n∈l then some (l.idxOf n)else if base<=n then some (l.length+(n-base))else none
theorem LK{l:anD Nat}{base:Nat}(hd:l.Nodup)(aJ:∀j∈l,j<base)(i:Nat):we l base (rn l base i)=some i:=by
 unfold we;by_cases hi:i<l.length
 ·have e:l[i]?=some l[i]:=amR hi;rw[zG l base i _ e,if_pos (List.getElem_mem _),List.Nodup.idxOf_getElem hd i hi]
 ·rw[F0 l base i (by omega),if_neg (λh=>by have:=aJ _ h;omega),if_pos (ant _ _)]
  congr 1;omega
theorem Py{l:anD Nat}{base n i:Nat}(h:we l base n=some i):rn l base i=n:=by
 unfold we at h;split at h
 ·rename_i hm
  cases h
  have aJ:=List.idxOf_lt_length_of_mem hm;refine zG l base _ n ?_;rw[amR aJ,List.getElem_idxOf]
 ·split at h
  ·cases h
   rw[F0 _ _ _ (by omega)];omega
  ·cases h
theorem acD{l:anD Nat}{base n:Nat}(h:we l base n=none):n<base/\n ∉ l:=by
 unfold we at h;split at h
 ·cases h
 ·split at h
  ·cases h
  ·rename_i h1 h2;exact⟨by omega,h1⟩
def rW{α:Type}(o:anF Nat)(f:Nat->α)(d:α):α:=match o with|some i=>f i|none=>d
theorem Ty{H:anD ao}{l:anD Nat}{h:anD ao}
 (hd:l.Nodup) (aJ:∀j∈l,j<h.length) (hH:∀(i j:Nat),l[i]?=some j->h[j]?=(H[i]?).map (ao.aG (rn l h.length))) (hk:l.length=H.length)
 (hb:H.all (ao.aH H.length)=true) {G:Gh} {w:anI} (hi:bC G w h):
 ∃G0:Gh,G0.N=H.length/\bC G0 w H/\qz (rn l h.length) G0 G/\∀(G1:Gh)(w':anI)(H':anD ao),bx H.length G0 w G1 w'->H.length<=G1.N->bC G1 w' H'->
  ∃G2:Gh,bx G.N G w G2 w'/\G.N<=G2.N/\bC G2 w' (gw l (H'.map (ao.aG (rn l h.length))) h)/\qz (rn l h.length) G1 G2:=by
 obtain⟨σ,hσ⟩:∃σ,σ=rn l h.length:=⟨_,rfl⟩;rw[<-hσ]at hH ⊢;have JJ:h.length=G.N:=hi.len;obtain⟨own,dP⟩:∃own:Nat->Prop,own=λb=>∃j∈l,bz h G j=some b:=⟨_,rfl⟩;obtain⟨G0,kp⟩:∃G0:Gh,G0={N:=H.length,Z:=λb=>b<w.heap.size/\¬own b,S:=G.S,aI:=λi=>G.aI (σ i),sg:=λi=>G.sg (σ i),ow:=λi=>G.ow (σ i),fl:=λi=>G.fl (σ i),M:=G.M}:=⟨_,rfl⟩;have IJ:∀i,i<H.length->∃j,l[i]?=some j/\σ i=j/\j∈l:=λi dx=>by
  have jE:i<l.length:=by rw[hk];exact dx
  exact⟨l[i],amR jE,by rw[hσ];exact zG l _ i _ (amR jE),List.getElem_mem _⟩
 have rK:qz σ G0 G:=by
  subst kp;refine⟨λn hn=> ?_,λ_ _=>rfl,λ_ _=>rfl,λ_ _=>rfl,λ_ _=>rfl,λ_ _=>Iff.rfl⟩;obtain⟨j,_,e,hj⟩:=IJ n hn;rw[e,<-JJ];exact aJ j hj
 have bW:G0.N=H.length:=by rw[kp]
 have XJ:∀(i:Nat)(B:ao),H[i]?=some B->h[σ i]?=some (B.aG σ):=λi B hB=>by
  obtain⟨j,e1,e2,_⟩:=IJ i (amN.1 hB).1;rw[e2,hH i j e1,hB];rfl
 have Mx:∀(i:Nat)(B:ao)(b:Nat),H[i]?=some B->B.dw G0 i=some b->bz h G (σ i)=some b:=λi B b hB eI=>by
  rw[di (XJ i B hB),OG rK (by rw[bW];exact(amN.1 hB).1) B];exact eI
 have wR:∀(i:Nat)(B:ao)(b:Nat),H[i]?=some B->B.dw G0 i=some b->¬G0.Z b:=λi B b hB eI hz=>by
  rw[kp]at hz;refine hz.2 ?_;rw[dP];obtain⟨j,_,e2,hj⟩:=IJ i (amN.1 hB).1;exact⟨j,hj,by rw[<-e2];exact Mx i B b hB eI⟩
 have ahN:∀i i',σ i=σ i'->i=i':=λi i' e=>by
  have h1:=LK hd aJ i;have h2:=LK hd aJ i';rw[hσ]at e;rw[e,h2]at h1;exact(am6 h1).symm
 have tf:bC G0 w H:=by
  refine⟨bW.symm,λb hz=> ?_,λb o hs=> ?_,λi B hB=> ?_,λm n b h1 h2=> ?_,by rw[kp];exact hi.gl⟩
  ·rw[kp]at hz;exact hz.1
  ·rw[kp]at hs;exact hi.S b o hs
  ·have hiN:i<G0.N:=by rw[bW];exact(amN.1 hB).1
   rw[ane]at hb;exact dB.sw rK hiN (by rw[bW];exact hb B (am0 hB)) (λb eI=>wR i B b hB eI) (hi.cT (σ i) _ (XJ i B hB))
  ·obtain⟨B1,uD,kI⟩:=oB h1;obtain⟨B2,Mk,l4⟩:=oB h2;exact ahN m n (hi.inj _ _ b (Mx m B1 b uD kI) (Mx n B2 b Mk l4))
 refine⟨G0,bW,tf,rK,λG1 w' H' hE ga jx=> ?_⟩;have BU:H'.length=G1.N:=jx.len;obtain⟨ps,Bm⟩:∃ps,ps=we l h.length:=⟨_,rfl⟩;obtain⟨G2,gP⟩:∃G2:Gh,G2={N:=G.N+(G1.N-H.length),Z:=G.Z,S:=G1.S,aI:=λn=>rW (ps n) G1.aI (G.aI n),sg:=λn=>rW (ps n) G1.sg (G.sg n),ow:=λn=>rW (ps n) G1.ow (G.ow n),fl:=λn=>rW (ps n) G1.fl (G.fl n),M:=G.M}:=⟨_,rfl⟩;have G7:∀i,ps (σ i)=some i:=λi=>by rw[Bm,hσ];exact LK hd aJ i
 have Im:∀i,H.length<=i->σ i=G.N+(i-H.length):=λi ko=>by rw[hσ,F0 l _ i (by omega),JJ,hk]
 have als:∀i,i<H.length->σ i<G.N:=λi Jm=>by
  obtain⟨j,_,e,hj⟩:=IJ i Jm;rw[e,<-JJ];exact aJ j hj
 have QX:qz σ G1 G2:=by
  subst gP;refine⟨λn hn=> ?_,λn _=>by simp only[G7];rfl,λn _=>by simp only[G7];rfl,λn _=>by simp only[G7];rfl,λn _=>by simp only[G7];rfl,λ_ _=>Iff.rfl⟩;show σ n<G.N+(G1.N-H.length);by_cases dL:n<H.length
  ·have:=als n dL;omega
  ·rw[Im n (by omega)];omega
 have V1:∀b,G0.Z b->G1.Z b:=hE.Z.1.1;have QR:∀b,G.Z b->G0.Z b:=λb hz=>by
  rw[kp];refine⟨hi.z b hz,λho=> ?_⟩;rw[dP]at ho;obtain⟨j,_,ho⟩:=ho;obtain⟨B,hB,eI⟩:=oB ho;exact(hi.cT j B hB).kW eI hz
 have iP:bx G.N G w G2 w':=by
  refine⟨hE.size,λb o hs=> ?_,λb o hs=> ?_,λn hn=> ?_,λn hn=> ?_,gV (by rw[gP]) (by rw[gP]),λb hz=>hE.old b (QR b hz),hE.os,hE.tape,hE.output,λb o hs=> ?_⟩
  ·rw[gP];exact hE.S b o (by rw[kp];exact hs)
  ·exact hE.cell b o (by rw[kp];exact hs)
  ·rw[gP];show rW (ps n) G1.aI (G.aI n)=G.aI n;cases hp:ps n with
   |none=>rfl
   |some i=>
    have e:σ i=n:=by rw[hσ];rw[Bm]at hp;exact Py hp
    have dx:i<H.length:=Nat.lt_of_not_le λko=>by rw[Im i ko]at e;omega
    show G1.aI i=G.aI n;rw[hE.aI i dx,kp,<-e]
  ·rw[gP];show(rW (ps n) G1.fl (G.fl n)=G.fl n/\rW (ps n) G1.sg (G.sg n)=G.sg n)\/G.fl n<rW (ps n) G1.fl (G.fl n);cases hp:ps n with
   |none=>exact .inl ⟨rfl,rfl⟩
   |some i=>
    have e:σ i=n:=by rw[hσ];rw[Bm]at hp;exact Py hp
    have dx:i<H.length:=Nat.lt_of_not_le λko=>by rw[Im i ko]at e;omega
    have:=hE.fr i dx;rw[kp]at this;simp only[e]at this;exact this
  ·rw[gP]at hs;rcases hE.new b o hs with h1|h1
   ·rw[kp]at h1;exact .inl h1
   ·exact .inr λhz=>h1 (QR b hz)
 have hlen:(gw l (H'.map (ao.aG σ)) h).length=G2.N:=by
  rw[W4 _ _ _ (by rw[amS,hk,BU];omega),amS,BU,hk,JJ,gP]
 have aj8:∀i,i<G1.N->(gw l (H'.map (ao.aG σ)) h)[σ i]?=(H'[i]?).map (ao.aG σ):=λi dx=>by
  rw[<-amU,hσ];exact W1 l _ h i (by rw[amS,hk,BU];omega) hd aJ (by rw[amS,BU];exact dx)
 have IU:∀(n:Nat)(B:ao),(gw l (H'.map (ao.aG σ)) h)[n]?=some B->(∃i B',i<G1.N/\n=σ i/\H'[i]?=some B'/\B=B'.aG σ)\/(ps n=none/\n ∉ l/\h[n]?=some B):=λn B hB=>by
  have Xf:n<G2.N:=by rw[<-hlen];exact(amN.1 hB).1
  cases hp:ps n with
  |none=>
   rw[Bm]at hp;obtain⟨h1,h2⟩:=acD hp;exact .inr ⟨rfl,h2,by rw[<-Re l (H'.map (ao.aG σ)) h n (by rw[amS,hk,BU];omega) h1 h2];exact hB⟩
  |some i=>
   have e:σ i=n:=by rw[hσ];rw[Bm]at hp;exact Py hp
   have dx:i<G1.N:=Nat.lt_of_not_le λko=>by
    rw[Im i (by omega)]at e;rw[gP]at Xf;have:n<G.N+(G1.N-H.length):=Xf;omega
   rw[<-e,aj8 i dx]at hB;cases hx:H'[i]? with
   |none=>rw[hx]at hB;cases hB
   |some B'=>rw[hx]at hB;cases hB;exact .inl ⟨i,B',dx,e.symm,hx,rfl⟩
 have hold:∀(n b:Nat),n ∉ l->bz h G n=some b->G0.Z b:=λn b hn eI=>by
  rw[kp];refine⟨hi.gr eI,λho=> ?_⟩;rw[dP]at ho;obtain⟨j,hj,ho⟩:=ho;exact hn ((hi.inj n j b eI ho)▸hj)
 have Fw:∀(n b:Nat),bz (gw l (H'.map (ao.aG σ)) h) G2 n=some b->(∃i,n=σ i/\bz H' G1 i=some b/\¬G0.Z b)\/(n ∉ l/\bz h G n=some b/\G0.Z b):=λn b eI=>by
  obtain⟨B,hB,kI⟩:=oB eI;rcases IU n B hB with⟨i,B',dx,rfl,dk,rfl⟩|⟨hp,hn,dk⟩
  ·rw[OG QX dx]at kI;exact .inl ⟨i,rfl,(di dk).trans kI,λhz=>(jx.cT i B' dk).kW kI (V1 _ hz)⟩
  ·have e:B.dw G2 n=B.dw G n:=by
    subst gP;cases B<;>simp only[ao.dw,hp,rW]
   have:=(di dk).trans (e▸kI);exact .inr ⟨hn,this,hold n b hn this⟩
 refine⟨G2,iP,by rw[gP];exact ant _ _,⟨hlen,λb hz=> ?_,λb o hs=> ?_,λn B hB=> ?_,λm n b h1 h2=> ?_,hi.gl.keep iP⟩,QX⟩
 ·rw[gP]at hz;exact anb (hi.z b hz) hE.size
 ·rw[gP]at hs;exact jx.S b o hs
 ·rcases IU n B hB with⟨i,B',dx,rfl,dk,rfl⟩|⟨hp,hn,dk⟩
  ·refine dB.aG QX dx (λb eI hz=> ?_) (jx.cT i B' dk);have:=(jx.cT i B' dk).kW eI;rw[gP]at hz;exact this (V1 b (QR b hz))
  ·have n6:n<G.N:=by rw[<-hi.len];exact(amN.1 dk).1
   refine dB.keep n6 iP (by rw[gP];exact ant _ _) (by rw[gP];simp only[hp];exact⟨rfl,rfl,rfl⟩) (λb eI=> ?_) (hi.cT n B dk);have hz:=hold n b hn ((di dk).trans eI);refine⟨hE.old b hz,λo ji hs=> ?_⟩;rw[gP]at hs;rcases hE.new b o hs with h1|h1
   ·rw[kp]at h1;exact ji h1
   ·exact h1 hz
 ·rcases Fw m b h1 with⟨i,rfl,a1,a2⟩|⟨a0,a1,a2⟩<;>rcases Fw n b h2 with⟨j,rfl,b1,b2⟩|⟨b0,b1,b2⟩
  ·rw[jx.inj i j b a1 b1]
  ·exact absurd b2 a2
  ·exact absurd a2 b2
  ·exact hi.inj m n b a1 b1
theorem cp.VO{P:anG}{f:FuncId}{args:anD AV}{H:anD ao}{K:AV->anD ao->Prop}(hc:cp P f args H K){l:anD Nat}{h:anD ao}
 (hd:l.Nodup) (aJ:∀j∈l,j<h.length) (hH:∀(i j:Nat),l[i]?=some j->h[j]?=(H[i]?).map (ao.aG (rn l h.length))) (hk:l.length=H.length)
 (ha:args.all (AV.aH H.length)=true) (hb:H.all (ao.aH H.length)=true):
 cp P f (args.map (AV.aG (rn l h.length))) h λr' h'=>∃r H',K r H'/\r'=r.aG (rn l h.length)/\h'=gw l (H'.map (ao.aG (rn l h.length))) h:=by
 refine⟨hc.1,λG w vs hi wa hvr=> ?_⟩;obtain⟨G0,bW,tf,rK,Pu⟩:=Ty hd aJ hH hk hb hi;refine(hc.2 G0 w vs tf (by rw[wa,amS]) λi u c hu hx=> ?_).mono λe w' hp=> ?_
 ·rw[ane]at ha;exact aE.sw rK (hvr i u (c.aG (rn l h.length)) hu (by rw[amU,hx];rfl)) c rfl (by rw[bW];exact ha c (am0 hx))
 ·obtain⟨v,G1,r,H',rfl,hE,ga,jx,hv,hK⟩:=hp;rw[bW]at ga hE;obtain⟨G2,e1,e2,e3,e4⟩:=Pu G1 w' H' hE ga jx;exact⟨v,G2,r.aG _,_,rfl,e1,e2,e3,hv.aG e4,r,H',hK,rfl,rfl⟩
mutual
theorem xQ{σ τ:Nat->Nat}{k:Nat}(h:∀i,i<k->σ i=τ i):∀x:AV,x.aH k=true->x.aG σ=x.aG τ
 | .ptr n off,hb=>by rw[AV.aH]at hb;rw[AV.aG,AV.aG,h n (by rw[Bool.not_eq_true',<-Bool.not_eq_true,dy]at hb;omega)]
 | .own n xs,hb=>by rw[AV.aH]at hb;rw[AV.aG,AV.aG,h n (by rw[Bool.not_eq_true',<-Bool.not_eq_true,dy]at hb;omega)]
 | .row n off len cap q,hb=>by rw[AV.aH]at hb;rw[AV.aG,AV.aG,h n (by rw[Bool.not_eq_true',<-Bool.not_eq_true,dy]at hb;omega)]
 | .mp n,hb=>by rw[AV.aH]at hb;rw[AV.aG,AV.aG,h n (by rw[Bool.not_eq_true',<-Bool.not_eq_true,dy]at hb;omega)]
 | .cF n,hb=>by rw[AV.aH]at hb;rw[AV.aG,AV.aG,h n (by rw[Bool.not_eq_true',<-Bool.not_eq_true,dy]at hb;omega)]
 | .vec n o len L q,hb=>by rw[AV.aH]at hb;rw[AV.aG,AV.aG,h n (by rw[Bool.not_eq_true',<-Bool.not_eq_true,dy]at hb;omega)]
 | .db n i j L q,hb=>by rw[AV.aH]at hb;rw[AV.aG,AV.aG,h n (by rw[Bool.not_eq_true',<-Bool.not_eq_true,dy]at hb;omega)]
 | .agg cs,hb=>by rw[AV.aH]at hb;rw[AV.aG,AV.aG,sP h cs hb]
 | .aQ cs,hb=>by rw[AV.aH]at hb;rw[AV.aG,AV.aG,sP h cs hb]
 | .fn f cs,hb=>by rw[AV.aH]at hb;rw[AV.aG,AV.aG,sP h cs hb]
 | .d x,_=>by rw[AV.aG,AV.aG]
 | .ba xs i off,_=>by rw[AV.aG,AV.aG]
 | .full xs,_=>by rw[AV.aG,AV.aG]
 | .hid c,_=>by rw[AV.aG,AV.aG]
 | .dead,_=>by rw[AV.aG,AV.aG]
theorem sP{σ τ:Nat->Nat}{k:Nat}(h:∀i,i<k->σ i=τ i):∀l:anD AV,AV.ni k l=true->AV.fp σ l=AV.fp τ l
 |[],_=>by rw[AV.fp,AV.fp]
 |x::l,hb=>by
  rw[AV.ni,amP]at hb;rw[AV.fp,AV.fp,xQ h x hb.1,sP h l hb.2]
end
theorem La{σ τ:Nat->Nat}{k:Nat}(h:∀i,i<k->σ i=τ i)(B:ao)(hb:B.aH k=true):B.aG σ=B.aG τ:=by
 cases B with
 |cells cs=>rw[ao.aG,ao.aG,sP h cs (by rw[mM];exact hb)]
 |lp ls p as bd cs=>rw[ao.aG,ao.aG,sP h cs (by rw[mM];exact hb)]
 |it sn cs=>rw[ao.aG,ao.aG,sP h cs (by rw[mM];exact hb)]
 |dM T0 cs=>rw[ao.aG,ao.aG,sP h cs (by rw[mM];exact hb)]
 |vec e q cs=>
  rw[ao.aG,ao.aG]
  congr 1
  refine anj λc hc=>sP h c ?_;simp only[ao.aH,ane]at hb;rw[mM,ane];exact hb c hc
 |_=>rfl
theorem Xk:∀(l:anD Nat)(b c i:Nat),i<l.length->rn l b i=rn l c i
 |[],b,c,i,h=>by simp at h
 |a::l,b,c,0,_=>by rw[rn,rn]
 |a::l,b,c,i+1,h=>by rw[rn,rn];exact Xk l b c i (by simpa using h)
def ph:anD Nat->Bool
 |[]=>true
 |a::l=> !l.any (·==a)&&ph l
theorem WA:∀{l:anD Nat},ph l=true->l.Nodup
 |[],_=>List.nodup_nil
 |a::l,h=>by
  rw[ph,amP,Bool.not_eq_true',<-Bool.not_eq_true]at h;rw[List.nodup_cons];exact⟨λhm=>h.1 (List.any_eq_true.2 ⟨a,hm,by simp⟩),WA h.2⟩
theorem Ye:∀(l:anD Nat)(h Bs:anD ao),l.map (λj=>h[j]?)=Bs.map some->gw l Bs h=h
 |[],h,Bs,e=>by
  cases Bs with
  |nil=>rw[gw,am8]
  |cons=>simp at e
 |j::l,h,Bs,e=>by
  cases Bs with
  |nil=>simp at e
  |cons B Bs=>
   rw[anc,anc]at e;injection e with e1 e2;have hs:h.set j B=h:=by
     refine List.ext_getElem? λm=> ?_;by_cases em:j=m
     ·subst em;rw[anh (amN.1 e1).1,e1]
     ·rw[anm em]
   rw[gw,hs];exact Ye l h Bs e2
section
variable {P:anG} {f:FuncId} {dN:anD AV} {H:anD ao} {l:anD Nat} {h:anD ao}
theorem Sk{l:anD Nat}{h H:anD ao}{σ:Nat->Nat}(hb:l.map (λj=>h[j]?)=H.map λB=>some (B.aG σ)):l.length=H.length/\(∀j∈l,j<h.length)/\∀(i j:Nat),l[i]?=some j->h[j]?=(H[i]?).map (ao.aG σ):=by
 have h1:l.length=H.length:=by simpa using congrArg List.length hb
 have key:∀(i j:Nat),l[i]?=some j->∃B,H[i]?=some B/\h[j]?=some (B.aG σ):=λi j e=>by
  have aJ:i<H.length:=by rw[<-h1];exact(amN.1 e).1
  have:=congrArg (·[i]?) hb;simp only[amU,e,amR aJ,Option.map_some,Option.some.injEq]at this;exact⟨_,amR aJ,this⟩
 refine⟨h1,λj hj=> ?_,λi j e=> ?_⟩
 ·obtain⟨i,hi⟩:=List.mem_iff_getElem?.1 hj;obtain⟨B,_,h2⟩:=key i j hi;exact(amN.1 h2).1
 ·obtain⟨B,h2,h3⟩:=key i j e;rw[h2,h3];rfl
theorem cp.nv{r:AV}{H':anD ao}(hc:cp P f dN H λr1 h1=>r1=r/\h1=H')(hd:ph l=true)(hb:l.map (λj=>h[j]?)=H.map λB=>some (B.aG (rn l h.length)))(hl:(dN.all (AV.aH H.length)&&H.all (ao.aH H.length))=true):
 cp P f (dN.map (AV.aG (rn l h.length))) h λr1 h1=>r1=r.aG (rn l h.length)/\h1=gw l (H'.map (ao.aG (rn l h.length))) h:=by
 rw[amP]at hl;obtain⟨h1,h2,h3⟩:=Sk hb;exact(hc.VO (WA hd) h2 h3 h1 hl.1 hl.2).mono λr1 h1 ⟨r2,H2,⟨e1,e2⟩,e3,e4⟩=>by subst e1;subst e2;exact⟨e3,e4⟩
theorem cp.rq{r:AV}(hc:cp P f dN H λr1 h1=>r1=r/\h1=H)(hd:ph l=true)(hb:l.map (λj=>h[j]?)=H.map λB=>some (B.aG (rn l 0)))(hl:(dN.all (AV.aH H.length)&&H.all (ao.aH H.length)&&r.aH H.length)=true)(e:anD ao):
 cp P f (dN.map (AV.aG (rn l 0))) (h++e) λr1 h1=>r1=r.aG (rn l 0)/\h1=h++e:=by
 rw[amP,amP]at hl;obtain⟨⟨l1,l2⟩,l3⟩:=hl;obtain⟨h1,h2,_⟩:=Sk hb;have Mv:∀i,i<H.length->rn l (h++e).length i=rn l 0 i:=λi hi=>Xk l _ _ i (by rw[h1];exact hi);have kI:H.map (λB=>some (B.aG (rn l (h++e).length)))=H.map λB=>some (B.aG (rn l 0)):=by
   refine anj λB hB=> ?_;rw[ane]at l2;rw[La Mv B (l2 B hB)]
 have l4:l.map (λj=>(h++e)[j]?)=H.map λB=>some (B.aG (rn l (h++e).length)):=by
  rw[kI,<-hb];refine anj λj hj=> ?_;rw[amX (h2 j hj)]
 have:=hc.nv hd l4 (by rw[l1,l2];rfl);have ha:dN.map (AV.aG (rn l (h++e).length))=dN.map (AV.aG (rn l 0)):=by
  refine anj λx hx=> ?_;rw[ane]at l1;exact xQ Mv x (l1 x hx)
 rw[ha,xQ Mv r l3]at this;refine this.mono λr1 h1 ⟨e1,e2⟩=>⟨e1,?_⟩;rw[e2];refine Ye l _ _ ?_;rw[l4,List.map_map];rfl
end
end Go.Proofs.YtfdhojiehjfghaaGreatDoor
