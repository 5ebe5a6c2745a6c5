/-
  Part 2 of the proof: AbsLeave, AbsLoop, AbsZero, AbsIter, AbsCode, AbsWalk, GrowF, AbsDraw, AbsFrame.
-/
import Derived.Test.YtnnapanbbbcalaaGreatDoorPp1
import Derived.Lib.AppendZeros
import Derived.Maps.RangeRun
namespace Go.Proofs.YtnnapanbbbcalaaGreatDoor
open Go.RowKit
theorem aH.zm{G:Gh}{w:amY}{u:amX}{x:AV}(Z:Nat->Prop)(M:Nat)(h:aH G w u x):aH {G with Z:=Z,M:=M} w u x:=by
 induction h with
 |agg vs cs hl _ ih=>exact .agg vs cs hl ih
 |aY vs cs hl _ ih=>exact .aY vs cs hl ih
 |fn f vs cs hl _ ih=>exact .fn f vs cs hl ih
 |own n xs h hp hle hf=>exact .own n xs h hp hle hf
 |ptr n off h=>exact .ptr (G:={G with Z:=Z,M:=M}) n off h
 |row n off len cap k h hl hm=>exact .row (G:={G with Z:=Z,M:=M}) n off len cap k h hl hm
 |mp n h=>exact .mp (G:={G with Z:=Z,M:=M}) n h
 |cp n h=>exact .cp (G:={G with Z:=Z,M:=M}) n h
 |vec n o len L k h hs hL hf=>exact .vec (G:={G with Z:=Z,M:=M}) n o len L k h hs hL hf
 |dD n i j L k h hs hL hf=>exact .dD (G:={G with Z:=Z,M:=M}) n i j L k h hs hL hf
 |hid h h1=>exact .hid h h1
 |d h=>exact .d h
 |bp xs i off b o u x hx hS hu=>exact .bp xs i off b o u x hx hS hu
 |full xs hp hf=>exact .full xs hp hf
 |dead u=>exact .dead u
theorem ep.zm{G:Gh}{w:amY}{n:Nat}{B:aq}(Z:Nat->Prop)(M:Nat)(hz:∀b,Z b->G.Z b)(h:ep G w n B):ep {G with Z:=Z,M:=M} w n B:=by
 cases B with
 |gone=>trivial
 |cells cs=>
  obtain⟨h1,h2,vs,T,h3,h4,h5⟩:=h;exact⟨λk=>h1 (hz _ k),h2,vs,T,h3,h4,λi u c hu hc=>(h5 i u c hu hc).zm Z M⟩
 |lp ls p as bd cs=>
  obtain⟨h1,h2,fn,vs,T,h3,h4,h5⟩:=h;exact⟨λk=>h1 (hz _ k),h2,fn,vs,T,h3,h4,λi u c hu hc=>(h5 i u c hu hc).zm Z M⟩
 |it sn cs=>
  obtain⟨h1,h2,fn,vs,T,h3,h4,h5⟩:=h;exact⟨λk=>h1 (hz _ k),h2,fn,vs,T,h3,h4,λi u c hu hc=>(h5 i u c hu hc).zm Z M⟩
 |eR T0 cs=>
  obtain⟨h1,h2,fn,vs,T,h3,h4,h5⟩:=h;exact⟨λk=>h1 (hz _ k),h2,fn,vs,T,h3,h4,λi u c hu hc=>(h5 i u c hu hc).zm Z M⟩
 |map kv=>
  obtain⟨h1,h2,es,c,h3,h4⟩:=h;exact⟨λk=>h1 (hz _ k),h2,es,c,h3,h4⟩
 |iC kv=>
  obtain⟨h1,h2,es,c,h3,h4⟩:=h;exact⟨λk=>h1 (hz _ k),h2,es,c,h3,h4⟩
 |front e k len=>
  obtain⟨h1,hm,h2⟩:=h;refine⟨h1,hm,?_⟩;rcases h2 with h2|⟨g,cap,cur,h2,h3,h4,h5⟩
  ·exact .inl h2
  ·exact .inr ⟨g,cap,cur,h2,h3,λk=>h4 (hz _ k),h5⟩
 |iy e b2=>
  obtain⟨h1,hm,h2⟩:=h;refine⟨h1,hm,?_⟩;rcases h2 with h2|⟨g,cap,cur,h2,h3,h4,h5⟩
  ·exact .inl h2
  ·exact .inr ⟨g,cap,cur,h2,h3,λk=>h4 (hz _ k),h5⟩
 |vec e k cs=>
  obtain⟨h1,hm,hk,h2⟩:=h;refine⟨h1,hm,hk,?_⟩;rcases h2 with h2|⟨g,cap,cur,h2,h3,h4,h5,h6,h7,h8,h9,aW⟩
  ·exact .inl h2
  ·exact .inr ⟨g,cap,cur,h2,h3,λk=>h4 (hz _ k),h5,h6,h7,h8,h9,λi j c x u hc hx hu=>(aW i j c x u hc hx hu).zm Z M⟩
theorem FQ{h:amT aq}{G:Gh}{n:Nat}(Z:Nat->Prop)(M:Nat):bR h {G with Z:=Z,M:=M} n=bR h G n:=by
 unfold bR;cases h[n]? with
 |none=>rfl
 |some B=>cases B<;>rfl
theorem bU.zm{G:Gh}{w:amY}{h:amT aq}(hi:bU G w h)(Z:Nat->Prop)(M:Nat)(hz:∀b,Z b->G.Z b)(hM:M<=w.heap.size):bU {G with Z:=Z,M:=M} w h:=
 ⟨hi.len,λb hb=>hi.z b (hz b hb),hi.S,λn B hB=>(hi.dk n B hB).zm Z M hz,λm n b h1 h2=>hi.inj m n b (by rw[<-FQ Z M];exact h1) (by rw[<-FQ Z M];exact h2),⟨hi.gl.1,hM⟩⟩
def ra(l:amT Nat)(w:amY):amY:=l.foldl (λw D=>w.putObj D (.deferred none)) w
theorem Rj:∀(l:amT Nat)(w:amY),(∀D∈l,w.heap[D]?=some (.deferred (some [])))->l.Nodup->
 (ra l w).heap.size=w.heap.size/\(∀b,b ∉ l->(ra l w).heap[b]?=w.heap[b]?)/\(∀b o,(ra l w).cell? ⟨b,o,none⟩=w.cell? ⟨b,o,none⟩)/\(ra l w).os=w.os/\(ra l w).tape=w.tape/\(ra l w).output=w.output
 |[],w,_,_=>⟨rfl,λ_ _=>rfl,λ_ _=>rfl,rfl,rfl,rfl⟩
 |D::l,w,hd,hn=>by
  rw[List.nodup_cons]at hn;have hD:=hd D amb;have aN:=(amk.1 hD).1;obtain⟨h1,h2,h3,h4,h5,h6⟩:=Rj l (w.putObj D (.deferred none)) (λE hE=>by
    have cQ:E≠D:=λe=>hn.1 (e▸hE);rw[World.putObj_heap_other cQ];exact hd E (ame _ hE)) hn.2
  refine⟨h1.trans (by simp),λb hb=> ?_,λb o=> ?_,h4,h5,h6⟩
  ·exact(h2 b λh=>hb (ame _ h)).trans (World.putObj_heap_other λe=>hb (e▸amb))
  ·refine(h3 b o).trans ?_;by_cases e:b=D
   ·subst e;unfold World.cell?;simp only[World.putObj_heap_same aN,hD]
   ·exact World.cell?_of_block (World.putObj_heap_other e)
theorem Si{F:Fence}{n:Nat}{P:amW}{fn:Func}{tmps:Array amX}{R:Ending->amY->Prop}:∀(l:amT Nat)(w:amY),(∀D∈l,w.heap[D]?=some (.deferred (some [])))->l.Nodup->
 LeavesIn F n P fn tmps R [] .returning (ra l w)->LeavesInM F n P fn tmps R (l.map λD=>{target:= .collected D,args:= #[]}) .returning w
 |[],w,_,_,h=>h
 |D::l,w,hd,hn,h=>by
  rw[List.nodup_cons]at hn;exact⟨by simp, .inl ⟨D,_,rfl,run_takeDeferred (hd D amb),Si l _ (λE hE=>by
    have cQ:E≠D:=λe=>hn.1 (e▸hE);rw[World.putObj_heap_other cQ];exact hd E (ame _ hE)) hn.2 h⟩⟩
theorem ak7{N0:Nat}{G G1:Gh}{w w':amY}{a':Act}{s1:St}(hE:bN N0 {G with M:=w.heap.size} w G1 w')(hN:N0<=G1.N)(hz:∀b,G.Z b->b<w.heap.size)(hMw:G.M<=w.heap.size)(hs:c8 G1 w' a' s1):
 ∃(w2:amY)(G2:Gh),(∀(F:Fence)(n:Nat)(P:amW)(fn:Func)(R:Ending->amY->Prop),(∃v,(results fn a'.tmps).run P w2= .ok v w2/\R (.returned v) w2)->LeavesInM F n P fn a'.tmps R a'.defers .returning w')/\
  bN N0 G w G2 w2/\G2.N=G1.N/\c8 G2 w2 {a' with defers:=[]} s1:=by
 obtain⟨l,l1,l2,l3⟩:=hs.df;have hd:∀D∈l,w'.heap[D]?=some (.deferred (some [])):=λD hD=>(l3 D hD).2.2;obtain⟨h1,h2,h3,h4,h5,h6⟩:=Rj l w' hd l1;have hM:G1.M=w.heap.size:=hE.Z.2;have jE:∀b,G.Z b->b ∉ l:=λb hb hl=>by
  have:=(l3 b hl).1;have:=hz b hb;omega
 obtain⟨G2,iw⟩:∃G2:Gh,G2={G1 with Z:=G.Z,M:=G.M}:=⟨_,rfl⟩;have uU:∀b,G.Z b->G1.Z b:=hE.Z.1.1;have kF:bU G2 w' s1.h:=by rw[iw];exact hs.inv.zm _ _ uU (amn hMw hE.size)
 have ie:bN N0 G w G2 w':=by
  rw[iw];exact⟨hE.size,hE.S,hE.cell,hE.aR,hE.fr,hY rfl,hE.old,hE.os,hE.tape,hE.output,hE.new⟩
 have jo:bN G2.N G2 w' G2 (ra l w'):=⟨by rw[h1];exact amg _,λ_ _ h=>h,λb o _=>h3 b o,λ_ _=>rfl,λ_ _=> .inl ⟨rfl,rfl⟩,hY rfl,λb hb=>h2 b (jE b (by rw[iw]at hb;exact hb)),h4,h5,h6,λ_ _ h=> .inl h⟩;have Je:bU G2 (ra l w') s1.h:=⟨kF.len,λb hb=>by rw[h1];exact kF.z b hb,λb o hb=>by rw[h1];exact kF.S b o hb,λn B hB=>ep.keep (kF.lt hB) jo (amg _) ⟨rfl,rfl,rfl⟩ (λb hb=>⟨h2 b λhl=>(hs.inv.dk n B hB).lr (by rw[iw]at hb;cases B<;>exact hb) (l3 b hl).2.1,λ_ h=>h⟩) (kF.dk n B hB),kF.inj,kF.gl.keep jo⟩;refine⟨ra l w',G2,λF n P fn R h=> ?_,ie.trans (jo.less (by rw[iw];exact hN)),by rw[iw],⟨hs.size,λi=>aH.keep jo (amg _) (by rw[iw];exact(hs.tmp i).zm _ _),Je,rb.nil _ _⟩⟩;rw[l2];exact Si l w' hd l1 h
section
variable {G:Gh} {w:amY} {h:amT aq}
theorem aag(hi:bU G w h)(fn:FuncId)(tm:Array amX)(D p:Nat)(as bd:Code)(cs:amT AV)(hl:tm.size=cs.length)(hr:∀(i:Nat)(u:amX)(c:AV),tm[i]?=some u->cs[i]?=some c->aH G w u c):bN G.N G w (G.de w.heap.size) (w.alloc (.loop {state:= .ready,pending:=none,fn:=fn,tmps:=tm,params:= #[p],assign:=as,body:=bd,defers:=D}))/\bU (G.de w.heap.size) (w.alloc (.loop {state:= .ready,pending:=none,fn:=fn,tmps:=tm,params:= #[p],assign:=as,body:=bd,defers:=D})) (h++[.lp .ready p as bd cs])/\aH (G.de w.heap.size) (w.alloc (.loop {state:= .ready,pending:=none,fn:=fn,tmps:=tm,params:= #[p],assign:=as,body:=bd,defers:=D})) (.func (.yield w.heap.size) #[] #[]) (.cp h.length):=by
 have hE:=sk G w hi.z hi.S (.loop {state:= .ready,pending:=none,fn:=fn,tmps:=tm,params:= #[p],assign:=as,body:=bd,defers:=D});have hN:G.N<=(G.de w.heap.size).N:=Nat.le_succ _;have gr:(G.de w.heap.size).aR h.length=w.heap.size:=by simp [Gh.de,hi.len]
 have lx:∀n(B:aq),n<G.N->B.dV (G.de w.heap.size) n=B.dV G n:=λn B hn=>by
  cases B<;>simp [aq.dV,Gh.de,Nat.ne_of_lt hn]
 have fQ:∀n,n<G.N->bR (h++[.lp .ready p as bd cs]) (G.de w.heap.size) n=bR h G n:=λn hn=>by
  have aN:n<h.length:=by rw[hi.len];exact hn
  unfold bR;rw[amf aN,al9 aN];exact lx n _ hn
 have sV:bR (h++[.lp .ready p as bd cs]) (G.de w.heap.size) h.length=some w.heap.size:=by
  rw[dJ (B:= .lp .ready p as bd cs) (by simp)];exact congrArg some gr
 refine⟨hE,⟨by simp [Gh.de,hi.len],λb hb=>amt (hi.z b hb) hE.size,λb o hs=>amt (hi.S b o hs) hE.size,λn B hB=> ?_,λm n b hm hn=> ?_,hi.gl.keep hE⟩,?_⟩
 ·by_cases hn:n<h.length
  ·rw[amf hn]at hB;have eW:n<G.N:=hi.len▸hn;exact ep.keep eW hE hN ⟨rfl,rfl,rfl⟩ (λb hb=>⟨Below.heap_alloc w _ _ (hi.ownlt (n:=n) ((dJ hB).trans hb)),λo h=>h⟩) (hi.dk n B hB)
  ·have ku:n=h.length:=by
    have:=(al5.1 hB).1;simp at this;omega
   subst ku;simp at hB;subst hB;exact⟨by rw[gr];exact λhz=>amJ _ (hi.z _ hz),λo hs=>by rw[gr]at hs;exact amJ _ (hi.S _ _ hs),fn,tm,D,by rw[gr];exact World.alloc_heap_new w _,hl,λi u c hu hc=>(hr i u c hu hc).keep hE hN⟩
 ·have key:∀n b,bR (h++[.lp .ready p as bd cs]) (G.de w.heap.size) n=some b->(n<G.N/\bR h G n=some b)\/(n=h.length/\b=w.heap.size):=λn b hn=>by
   by_cases aN:n<G.N
   ·exact .inl ⟨aN,by rw[<-fQ n aN];exact hn⟩
   ·by_cases e:n=h.length
    ·subst e;rw[sV]at hn;cases hn;exact .inr ⟨rfl,rfl⟩
    ·rw[ux (amB (by simp;have:=hi.len;omega))]at hn;cases hn
  rcases key m b hm with⟨_,iu⟩|⟨rfl,rfl⟩<;>rcases key n _ hn with⟨_,eW⟩|⟨rfl,hb⟩
  ·exact hi.inj m n b iu eW
  ·have:=hi.ownlt iu;omega
  ·have:=hi.ownlt eW;omega
  ·rfl
 ·have:=aH.cp (G:=G.de w.heap.size) (w:=w.alloc (.loop {state:= .ready,pending:=none,fn:=fn,tmps:=tm,params:= #[p],assign:=as,body:=bd,defers:=D})) h.length (by simp [Gh.de,hi.len])
  rwa [gr]at this
theorem PR{k:Nat}{B B':aq}{ob wZ:Obj}(hi:bU G w h)(hk:h[k]?=some B)(tc:B.dV G k=some (G.aR k))(hS:∀o,¬G.S (G.aR k) o)(me:w.heap[G.aR k]?=some ob)(hn:B'= .gone\/B'.dV G k=some (G.aR k))
 (hB:∀w',(∀b o,G.S b o->w'.cell? ⟨b,o,none⟩=w.cell? ⟨b,o,none⟩)->w'.heap[G.aR k]?=some wZ->bN G.N G w G w'->ep G w' k B'):bN G.N G w G (w.putObj (G.aR k) wZ)/\bU G (w.putObj (G.aR k) wZ) (h.set k B'):=by
 have aN:=(amk.1 me).1;have hZ:¬G.Z (G.aR k):=(hi.dk k B hk).lr tc;have iN:∀b,b≠G.aR k->(w.putObj (G.aR k) wZ).heap[b]?=w.heap[b]?:=λb hb=>World.putObj_heap_other hb;have ik:∀b o,G.S b o->(w.putObj (G.aR k) wZ).cell? ⟨b,o,none⟩=w.cell? ⟨b,o,none⟩:=λb o hs=>World.cell?_of_block (iN b (λe=>hS o (e▸hs)));have hE:bN G.N G w G (w.putObj (G.aR k) wZ):=⟨by simp,λ_ _ h=>h,ik,λ_ _=>rfl,λ_ _=> .inl ⟨rfl,rfl⟩,hY rfl,λb hb=>iN b (λe=>hZ (e▸hb)),rfl,rfl,rfl,λ_ _ h=> .inl h⟩;refine⟨hE,?_⟩;have hkl:=(al5.1 hk).1;have lW:(h.set k B')[k]?=some B':=by rw[amy hkl]
 have eG:∀m,m≠k->(h.set k B')[m]?=h[m]?:=λm hm=>by rw[amD (Ne.symm hm)]
 have lF:bR h G k=some (G.aR k):=(dJ hk).trans tc;have eF:∀m b,bR (h.set k B') G m=some b->bR h G m=some b:=λm b hb=>by
  by_cases e:m=k
  ·subst e;rw[dJ lW]at hb;rcases hn with rfl|hn
   ·cases hb
   ·rw[hn]at hb;cases hb;exact lF
  ·unfold bR at hb ⊢;rw[eG m e]at hb;exact hb
 refine⟨by rw[List.length_set];exact hi.len,λb hb=>amt (hi.z b hb) hE.size,λb o hs=>amt (hi.S b o hs) hE.size,λm C hC=> ?_,λm m' b h1 h2=>hi.inj m m' b (eF m b h1) (eF m' b h2),hi.gl.keep hE⟩;by_cases e:m=k
 ·subst e;rw[lW]at hC;cases hC
  exact hB _ ik (World.putObj_heap_same aN) hE
 ·rw[eG m e]at hC;have cQ:∀b,bR h G m=some b->b≠G.aR k:=λb hb eb=>e (hi.inj m k b hb (by rw[eb];exact lF));exact ep.keep (hi.lt hC) hE (amg _) ⟨rfl,rfl,rfl⟩ (λb hb=>⟨iN b (cQ _ ((dJ hC).trans hb)),λo h=>h⟩) (hi.dk m C hC)
theorem IU{k:Nat}{ls:LS}{p:Nat}{as bd:Code}{cs:amT AV}(hi:bU G w h)(hk:h[k]?=some (.lp ls p as bd cs)):
 (∀o,¬G.S (G.aR k) o)/\∃(fn:FuncId)(tm:Array amX)(D:Nat),w.heap[G.aR k]?=some (.loop {state:=ls.st,pending:=ls.pd,fn:=fn,tmps:=tm,params:= #[p],assign:=as,body:=bd,defers:=D})/\tm.size=cs.length/\(∀(i:Nat)(u:amX)(c:AV),tm[i]?=some u->cs[i]?=some c->aH G w u c)/\
   ∀(Ax:LS),bN G.N G w G (w.putObj (G.aR k) (.loop {state:=Ax.st,pending:=Ax.pd,fn:=fn,tmps:=tm,params:= #[p],assign:=as,body:=bd,defers:=D}))/\bU G (w.putObj (G.aR k) (.loop {state:=Ax.st,pending:=Ax.pd,fn:=fn,tmps:=tm,params:= #[p],assign:=as,body:=bd,defers:=D})) (h.set k (.lp Ax p as bd cs)):=by
 obtain⟨h1,h2,fn,tm,D,h3,h4,h5⟩:=hi.dk k _ hk;refine⟨h2,fn,tm,D,h3,h4,h5,λAx=>PR hi hk rfl h2 h3 (.inr rfl) λw' hc fa hE=>⟨h1,h2,fn,tm,D,fa,h4,λi u c hu fV=>(h5 i u c hu fV).keep hE (amg _)⟩⟩
theorem aaa{k:Nat}{ls:LS}{p:Nat}{as bd:Code}{cs:amT AV}(hi:bU G w h)(hk:h[k]?=some (.lp ls p as bd cs))(ob:Obj):bN G.N G w G (w.putObj (G.aR k) ob)/\bU G (w.putObj (G.aR k) ob) (h.set k .gone):=by
 obtain⟨h1,h2,fn,tm,D,h3,h4,h5⟩:=hi.dk k _ hk;exact PR hi hk rfl h2 h3 (.inl rfl) λ_ _ _ _=>trivial
theorem alH(hi:bU G w h):bN G.N G w {G with Z:=λb=>G.Z b\/b=w.heap.size} (w.alloc (.deferred (some [])))/\bU {G with Z:=λb=>G.Z b\/b=w.heap.size} (w.alloc (.deferred (some []))) h:=by
 have hE:bN G.N G w {G with Z:=λb=>G.Z b\/b=w.heap.size} (w.alloc (.deferred (some []))):=
  ⟨by simp,λ_ _ h=>h,λb _ h=>World.cell?_alloc_lt _ _ _ (hi.S _ _ h),λ_ _=>rfl,λ_ _=> .inl ⟨rfl,rfl⟩,⟨⟨λ_ h=> .inl h,λb h=>h.imp id λe=>Nat.le_of_eq e.symm⟩,rfl⟩,λb hb=>Below.heap_alloc w _ b (hi.z b hb),rfl,rfl,rfl,λ_ _ h=> .inl h⟩
 refine⟨hE,hi.len,λb hb=> ?_,λb o hs=>amt (hi.S b o hs) hE.size,λn B hB=> ?_,λm n b h1 h2=>hi.inj m n b (by rw[<-FQ (λb=>G.Z b\/b=w.heap.size) G.M];exact h1) (by rw[<-FQ (λb=>G.Z b\/b=w.heap.size) G.M];exact h2),hi.gl.keep hE⟩
 ·rcases hb with hb|rfl
  ·exact amt (hi.z b hb) hE.size
  ·simp
 ·exact ep.keep (hi.lt hB) hE (amg _) ⟨rfl,rfl,rfl⟩ (λb hb=>⟨Below.heap_alloc w _ _ (hi.ownlt (n:=n) ((dJ hB).trans hb)),λo h=>h⟩) (hi.dk n B hB)
end
end Go.Proofs.YtnnapanbbbcalaaGreatDoor
namespace Go.Proofs.YtnnapanbbbcalaaGreatDoor
open Go.RowKit Go.Lib
def AV.isNil:AV->Bool
 | .d (.v (.slice none 0 0))=>true
 |_=>false
theorem akG{x:AV}(h:x.isNil=true):x= .d (.v (.slice none 0 0)):=by
 unfold AV.isNil at h;split at h
 ·rfl
 ·cases h
def yE(P:amW)(op:Op)(ρ:Operand->AV)(h:amT aq):amV (AV×amT aq):=
 match op with
 | .slice T x lo hi none=>match eX P T,tw ρ 0 lo,tw ρ 0 hi with
   |some _,some 0,some 0=>bif (ρ x).isNil then some (.d (.v (.slice none 0 0)),h)else none
   |_,_,_=>none
 | .call c=>match c.callee with
   | .builtin .cap=>match c.args.toList,c.argTypes.toList with
     |[x],[T]=>bif (ρ x).isNil&&(eX P T).isSome then some (.d (.v (.int .i64 0)),h)else none
     |_,_=>none
   | .builtin .append=>match c.args.toList,c.argTypes.toList with
     |[x,y],[T,U]=>match eX P T,qZ P U,ρ y with
      |some (e,k),some _, .d (.v (.int _ (.ofNat m)))=>match iz P e,qk P e with
       |some z,some dd=>bif (ρ x).isNil&&cq 1 m&&cq 1 k&&z.cells.toList.length==k&&cq m maxLen&&cq (m*dd) 140737488355328 then some (.vec h.length 0 m m k,h++[.vec e k (List.replicate m (z.cells.toList.map λu=> .d (.v u)))])else none
       |_,_=>none
      |_,_,_=>none
     |_,_=>none
   |_=>none
 |_=>none
section
variable {P:amW} {r:amV Nat} {n N0:Nat} {G:Gh} {w:amY} {a:Act} {s:St} {o:Oper} {K:St->Prop} {Q:Exit->Act->amY->Prop}
theorem ahy{x:Operand}{T:TypeId}(c:Call)(hc:c.callee= .builtin .cap)(h1:c.args.toList=[x])(h2:c.argTypes.toList=[T])(ho:o.op= .call c):
 (execOp a.eval o).run P w=((Builtin.cap_ #[T] o.type #[a.eval x]).run P w).andThen λv w'=> .ok (.value v) w':=by
 have e1:c.args= #[x]:=by rw[<-Array.toList_inj];exact h1
 have e2:c.argTypes= #[T]:=by rw[<-Array.toList_inj];exact h2
 unfold execOp;simp only[ho,resolve,hc,e1,e2,invoke,builtin,Sem.run_bind,Sem.run_pure,Result.andThen_ok,List.map_toArray,amu,List.map_nil]
theorem WS(hs:c8 G w a s){x:amV Operand}(h:tw (ev s) 0 x=some 0):Bj a x 0 0:=by
 cases x with
 |none=>rfl
 |some y=>exact Kn (d:=0) hs h (Int.le_refl _)
theorem aa2{x:AV}{h':amT aq}(hs:c8 G w a s)(cv:N0<=G.N)(hx:yE P o.op (ev s) s.h=some (x,h'))(hK:K ((s.wh h').put o.dst x)):o.wpIn (WF r) n P a w (iF N0 G w K) Q:=by
 have dp:=hs.ev;have nil:∀{y:Operand},(ev s y).isNil=true->a.eval y= .slice none 0 0:=fun{y} h=>by
  have:=dp y;rw[akG h]at this;exact this.val
 unfold yE at hx;split at hx
 next T y lo hi ho=>
  split at hx
  ·next ek e1 e2 e3=>
   obtain⟨hb,he⟩:=mo hx;cases he
   obtain⟨fJ,fZ⟩:=jN e1;refine fx (by rw[ho];simp) hs cv (v:= .slice none 0 0) ?_ (.d (.v _)) hK;have kr:=DH (P:=P) (x6:=true) (WS hs e2) (WS hs e3) (amg _) (amg 0) w;unfold execOp;simp [ho,nil hb,Instr.sliceAt,Instr.slice,run_underlying fJ,kr,mn fZ]
  ·cases hx
 next c ho=>
  split at hx
  ·next hc=>
   split at hx
   ·next y T e1 e2=>
    obtain⟨hb,he⟩:=mo hx;cases he
    rw[al7]at hb;cases hT:eX P T with
    |none=>rw[hT]at hb;cases hb.2
    |some ek=>
     obtain⟨fJ,fZ⟩:=jN hT;refine fx (by rw[ho];simp) hs cv (v:= .int .i64 0) ?_ (.d (.v _)) hK;rw[ahy c hc e1 e2 ho,nil hb.1];simp [Builtin.cap_,run_underlying fJ,goInt]
   ·cases hx
  ·next hc=>
   split at hx
   ·next y z T U e1 e2=>
    split at hx
    ·next e k kn kq m f1 f2 f3=>
     split at hx
     ·next zz dd g1 g2=>
      obtain⟨hb,he⟩:=mo hx;cases he
      simp only[al7,dq,beq_iff_eq]at hb;obtain⟨⟨⟨⟨⟨jQ,kr⟩,FW⟩,qg⟩,MF⟩,Nj⟩:=hb;clear hx;obtain⟨fJ,fZ⟩:=jN f1;obtain⟨i,kY,jP⟩:∃i,P.info? e=some i/\i.size=k:=by
       unfold gu at fZ;cases hq:P.info? e with
       |none=>rw[hq]at fZ;cases fZ
       |some i=>rw[hq]at fZ;exact⟨i,rfl,amo fZ⟩
      have hz:i.zero=some zz:=by unfold iz at g1;rw[kY]at g1;exact g1
      have hbt:i.bytes=dd:=by unfold qk at g2;rw[kY]at g2;exact amo g2
      subst jP;subst hbt;have hy:=dp z;rw[f3]at hy;have ey:a.eval z= .int kq (m:Nat):=hy.val;have dK:=run_append_nil_zeros (P:=P) w T U o.type e i zz kq kn fJ (Jn f2) kY hz m (by omega) (by omega) (by have:=MF;simp [maxLen]at this;omega) (by omega);have jE:zz.cells.size=i.size:=by rw[<-amC];exact qg
      have gh:(List.replicate m (zz.cells.toList.map λu=>AV.d (.v u))).length=m:=amF;obtain⟨cap,jZ⟩:∃cap,cap=grownCap w m 0 e:=⟨_,rfl⟩;have kI:m<=cap:=by rw[jZ];exact grownCap_ge _ _ _ _
      have hle:cap<=maxLen:=by rw[jZ];exact grownCap_le_maxLen _ _ _ _ MF
      rw[<-jZ]at dK;obtain⟨cur,j8⟩:∃cur,cur=Builtin.zeroCells zz.cells m++Builtin.zeroCells zz.cells (cap-m):=⟨_,rfl⟩;rw[<-j8]at dK;have gO:cur.size=cap*i.size:=by
        rw[j8,Array.size_append,size_zeroCells,size_zeroCells,jE,<-Nat.add_mul]
        congr 1
        omega
      obtain⟨G',q1,q2,q3,q4⟩:=Pa (e:=e) (k:=i.size) (cap:=cap) (cs:=List.replicate m (zz.cells.toList.map λu=>AV.d (.v u))) (cur:=cur) hs.inv (by rw[gh];exact kI) hle gO (λc hc=>by
       rw[List.eq_of_mem_replicate hc,ama];exact qg) w.drew ⟨rfl,rfl,rfl,rfl⟩ (λa' b c x u hc hx hu=>by
       have:=List.eq_of_mem_replicate (ami hc);subst this;rw[amc]at hx;cases hq:zz.cells.toList[b]? with
       |none=>rw[hq]at hx;cases hx
       |some y=>
        rw[hq]at hx;cases hx
        have jl:b<i.size:=by rw[<-qg];exact(al5.1 hq).1
        have Ky:a'<m:=by have:=(al5.1 hc).1;rwa [gh]at this
        have aN:a'*i.size+b<m*i.size:=mL Ky jl;rw[j8,Array.getElem?_append_left (by rw[size_zeroCells,jE];exact aN)]at hu;unfold Builtin.zeroCells at hu;rw[Array.getElem?_map,Array.getElem?_range,jE,if_pos aN]at hu;simp only[Option.map_some,Option.some.injEq]at hu;rw[(IT (i:=a') jl).2]at hu;have om:zz.cells[b]?=some y:=by rw[<-ams];exact hq
        rw[getElem!_pos zz.cells b (by rw[jE];exact jl)]at hu;rw[amr (by rw[jE];exact jl)]at om;cases om
        subst hu;exact .d (.v _))
      rw[gh]at q4;refine l8 (by rw[ho];simp) hs cv (by rw[BK c hc e1 e2 ho,nil jQ,ey,dK];rfl) q1 q2 q3 (q4 m (amg _)) hK
     ·cases hx
    ·cases hx
   ·cases hx
  ·cases hx
 next=>cases hx
end
end Go.Proofs.YtnnapanbbbcalaaGreatDoor
namespace Go.Proofs.YtnnapanbbbcalaaGreatDoor
open Go.RowKit
section
variable {G:Gh} {w:amY} {h:amT aq}
theorem aci(hi:bU G w h){b mb c:Nat}(hr:aH G w (.map (some b)) (.mp mb)):bN G.N G w (G.de w.heap.size) (w.alloc (.mapIter (some b) c #[] c))/\bU (G.de w.heap.size) (w.alloc (.mapIter (some b) c #[] c)) (h++[.it (c,[]) [.mp mb]])/\aH (G.de w.heap.size) (w.alloc (.mapIter (some b) c #[] c)) (.pointer (some ⟨w.heap.size,0,none⟩)) (.ptr h.length 0):=by
 have hE:=sk G w hi.z hi.S (.mapIter (some b) c #[] c);have hN:G.N<=(G.de w.heap.size).N:=Nat.le_succ _;have gr:(G.de w.heap.size).aR h.length=w.heap.size:=by simp [Gh.de,hi.len]
 have lx:∀n(B:aq),n<G.N->B.dV (G.de w.heap.size) n=B.dV G n:=λn B hn=>by
  cases B<;>simp [aq.dV,Gh.de,Nat.ne_of_lt hn]
 have fQ:∀n,n<G.N->bR (h++[.it (c,[]) [.mp mb]]) (G.de w.heap.size) n=bR h G n:=λn hn=>by
  have aN:n<h.length:=by rw[hi.len];exact hn
  unfold bR;rw[amf aN,al9 aN];exact lx n _ hn
 have sV:bR (h++[.it (c,[]) [.mp mb]]) (G.de w.heap.size) h.length=some w.heap.size:=by
  rw[dJ (B:= .it (c,[]) [.mp mb]) (by simp)];exact congrArg some gr
 refine⟨hE,⟨by simp [Gh.de,hi.len],λb hb=>amt (hi.z b hb) hE.size,λb o hs=>amt (hi.S b o hs) hE.size,λn B hB=> ?_,λm n b hm hn=> ?_,hi.gl.keep hE⟩,?_⟩
 ·by_cases hn:n<h.length
  ·rw[amf hn]at hB;have eW:n<G.N:=hi.len▸hn;exact ep.keep eW hE hN ⟨rfl,rfl,rfl⟩ (λb hb=>⟨Below.heap_alloc w _ _ (hi.ownlt (n:=n) ((dJ hB).trans hb)),λo h=>h⟩) (hi.dk n B hB)
  ·have ku:n=h.length:=by
    have:=(al5.1 hB).1;simp at this;omega
   subst ku;simp at hB;subst hB;exact⟨by rw[gr];exact λhz=>amJ _ (hi.z _ hz),λo hs=>by rw[gr]at hs;exact amJ _ (hi.S _ _ hs),b, #[.map (some b)],(),by rw[gr];exact World.alloc_heap_new w _,⟨rfl,rfl⟩,λi u c hu hc=>by
    match i with
    |0=>cases hu;cases hc;exact hr.keep hE hN
    |i+1=>simp at hu⟩
 ·have key:∀n b,bR (h++[.it (c,[]) [.mp mb]]) (G.de w.heap.size) n=some b->(n<G.N/\bR h G n=some b)\/(n=h.length/\b=w.heap.size):=λn b hn=>by
   by_cases aN:n<G.N
   ·exact .inl ⟨aN,by rw[<-fQ n aN];exact hn⟩
   ·by_cases e:n=h.length
    ·subst e;rw[sV]at hn;cases hn;exact .inr ⟨rfl,rfl⟩
    ·rw[ux (amB (by simp;have:=hi.len;omega))]at hn;cases hn
  rcases key m b hm with⟨_,iu⟩|⟨rfl,rfl⟩<;>rcases key n _ hn with⟨_,eW⟩|⟨rfl,hb⟩
  ·exact hi.inj m n b iu eW
  ·have:=hi.ownlt iu;omega
  ·have:=hi.ownlt eW;omega
  ·rfl
 ·have:=aH.ptr (G:=G.de w.heap.size) (w:=w.alloc (.mapIter (some b) c #[] c)) h.length 0 (by simp [Gh.de,hi.len])
  rwa [gr]at this
theorem UT(hi:bU G w h)(e:TypeId):bU (G.de w.heap.size) (w.alloc (.cells #[.pointer none, .slice none 0 0] e)) (h++[.eR e [.d (.v (.slice none 0 0))]])/\aH (G.de w.heap.size) (w.alloc (.cells #[.pointer none, .slice none 0 0] e)) (.pointer (some ⟨w.heap.size,0,none⟩)) (.ptr h.length 0):=by
 have hE:=sk G w hi.z hi.S (.cells #[.pointer none, .slice none 0 0] e);have hN:G.N<=(G.de w.heap.size).N:=Nat.le_succ _;have gr:(G.de w.heap.size).aR h.length=w.heap.size:=by simp [Gh.de,hi.len]
 have lx:∀n(B:aq),n<G.N->B.dV (G.de w.heap.size) n=B.dV G n:=λn B hn=>by
  cases B<;>simp [aq.dV,Gh.de,Nat.ne_of_lt hn]
 have fQ:∀n,n<G.N->bR (h++[.eR e [.d (.v (.slice none 0 0))]]) (G.de w.heap.size) n=bR h G n:=λn hn=>by
  have aN:n<h.length:=by rw[hi.len];exact hn
  unfold bR;rw[amf aN,al9 aN];exact lx n _ hn
 have sV:bR (h++[.eR e [.d (.v (.slice none 0 0))]]) (G.de w.heap.size) h.length=some w.heap.size:=by
  rw[dJ (B:= .eR e [.d (.v (.slice none 0 0))]) (by simp)];exact congrArg some gr
 refine⟨⟨by simp [Gh.de,hi.len],λb hb=>amt (hi.z b hb) hE.size,λb o hs=>amt (hi.S b o hs) hE.size,λn B hB=> ?_,λm n b hm hn=> ?_,hi.gl.keep hE⟩,?_⟩
 ·by_cases hn:n<h.length
  ·rw[amf hn]at hB;have eW:n<G.N:=hi.len▸hn;exact ep.keep eW hE hN ⟨rfl,rfl,rfl⟩ (λb hb=>⟨Below.heap_alloc w _ _ (hi.ownlt (n:=n) ((dJ hB).trans hb)),λo h=>h⟩) (hi.dk n B hB)
  ·have ku:n=h.length:=by
    have:=(al5.1 hB).1;simp at this;omega
   subst ku;simp at hB;subst hB;exact⟨by rw[gr];exact λhz=>amJ _ (hi.z _ hz),λo hs=>by rw[gr]at hs;exact amJ _ (hi.S _ _ hs),(), #[.slice none 0 0], .pointer none,by rw[gr];exact World.alloc_heap_new w _,⟨rfl, .inl rfl,λv hv=>Or.inl (by simpa using hv)⟩,λi u c hu hc=>by
    match i with
    |0=>cases hu;cases hc;exact .d (.v _)
    |i+1=>simp at hu⟩
 ·have key:∀n b,bR (h++[.eR e [.d (.v (.slice none 0 0))]]) (G.de w.heap.size) n=some b->(n<G.N/\bR h G n=some b)\/(n=h.length/\b=w.heap.size):=λn b hn=>by
   by_cases aN:n<G.N
   ·exact .inl ⟨aN,by rw[<-fQ n aN];exact hn⟩
   ·by_cases e:n=h.length
    ·subst e;rw[sV]at hn;cases hn;exact .inr ⟨rfl,rfl⟩
    ·rw[ux (amB (by simp;have:=hi.len;omega))]at hn;cases hn
  rcases key m b hm with⟨_,iu⟩|⟨rfl,rfl⟩<;>rcases key n _ hn with⟨_,eW⟩|⟨rfl,hb⟩
  ·exact hi.inj m n b iu eW
  ·have:=hi.ownlt iu;omega
  ·have:=hi.ownlt eW;omega
  ·rfl
 ·have:=aH.ptr (G:=G.de w.heap.size) (w:=w.alloc (.cells #[.pointer none, .slice none 0 0] e)) h.length 0 (by simp [Gh.de,hi.len])
  rwa [gr]at this
theorem FV{n mb:Nat}{sn:Nat×amT Nat}(hi:bU G w h)(hb:h[n]?=some (.it sn [.mp mb])):(∀o,¬G.S (G.aR n) o)/\w.heap[G.aR n]?=some (.mapIter (some (G.aR mb)) sn.1 sn.2.toArray sn.1)/\aH G w (.map (some (G.aR mb))) (.mp mb):=by
 obtain⟨h1,h2,fn,vs,_,h3,⟨_,h4⟩,h5⟩:=hi.dk n _ hb;have:=h5 0 (.map (some fn)) (.mp mb) (by rw[h4];rfl) rfl;cases this with
 |mp _ aN=>exact⟨h2,h3, .mp mb aN⟩
theorem S7(hi:bU G w h):bN G.N G w G w.drew/\bU G w.drew h:=by
 have hE:bN G.N G w G w.drew:=⟨amg _,λ_ _ h=>h,λ_ _ _=>rfl,λ_ _=>rfl,λ_ _=> .inl ⟨rfl,rfl⟩,hY rfl,λ_ _=>rfl,rfl,rfl,rfl,λ_ _ h=> .inl h⟩;exact⟨hE,hi.len,hi.z,hi.S,λn B hB=>ep.keep (hi.lt hB) hE (amg _) ⟨rfl,rfl,rfl⟩ (λ_ _=>⟨rfl,λ_ h=>h⟩) (hi.dk n B hB),hi.inj,hi.gl.keep hE⟩
end
def MX(P:amW)(o:Oper)(K:St->Prop)(s:St):Prop:=
 match o.op with
 | .range T m=>match uE P T,ev s m with
   |some _, .mp mb=>match s.h[mb]? with
    |some (.iC kv)=>K ((s.wh (s.h++[.it (kv.length,[]) [.mp mb]])).put o.dst (.ptr s.h.length 0))
    |_=>False
   |_,_=>False
 | .next it false=>match ev s it with
   | .ptr m 0=>match s.h[m]? with
     |some (.it sn [.mp mb])=>match s.h[mb]? with
      |some (.iC kv)=>sn.1=kv.length/\(∀b p,kv[b]?=some p->b ∉ sn.2->K ((s.wh (s.h.set m (.it (sn.1,sn.2++[b]) [.mp mb]))).put o.dst (.aY [.d (.v (.bool true)), .d (.v (.string p.1)), .d p.2])))/\((∀b,b<kv.length->b∈sn.2)->K (s.put o.dst (.aY [.d (.v (.bool false))])))
      |_=>False
     |_=>False
   |_=>False
 | .entry it=>match ev s it with
   | .ptr m 0=>match s.h[m]? with
     |some (.it sn [.mp mb])=>match s.h[mb]? with
      |some (.iC kv)=>sn.1=kv.length/\∃l b p,sn.2=l++[b]/\kv[b]?=some p/\K (s.put o.dst (.aY [.d (.v (.string p.1)), .d p.2]))
      |_=>False
     |_=>False
   |_=>False
 | .alloc e=>match iz P e with
   |some z=>z.cells= #[.pointer none, .slice none 0 0]/\K ((s.wh (s.h++[.eR e [.d (.v (.slice none 0 0))]])).put o.dst (.ptr s.h.length 0))
   |none=>False
 | .box e x=>ev s x= .agg [.d (.v (.pointer none)), .d (.v (.slice none 0 0))]/\K ((s.wh (s.h++[.eR e [.d (.v (.slice none 0 0))]])).put o.dst (.ptr s.h.length 0))
 |_=>False
section
variable {P:amW} {r:amV Nat} {n N0:Nat} {G:Gh} {w:amY} {a:Act} {s:St} {o:Oper} {K:St->Prop} {Q:Exit->Act->amY->Prop}
theorem OV{mb:Nat}{kv:amT (amU×D)}(hi:bU G w s.h)(hb:s.h[mb]?=some (.iC kv)):∃es:Array MapEntry,w.heap[G.aR mb]?=some (.map es kv.length)/\vQ G.S w es kv.length kv:=by
 obtain⟨_,_,es,c,h1,h2⟩:=hi.dk mb _ hb;have:c=kv.length:=h2.ok.Cj.trans h2.all.symm;subst this;exact⟨es,h1,h2⟩
theorem vQ.mem{S:Nat->Nat->Prop}{es:Array MapEntry}{c:Nat}{kv:amT (amU×D)}(h:vQ S w es c kv){e:MapEntry}(he:e∈es.toList):es[e.born]?=some e/\e.born<kv.length:=by
 obtain⟨i,hi,rfl⟩:=List.getElem_of_mem he;have hs:es[i]?=some es.toList[i]:=by simp
 have hb:=h.ok.born i _ hs;rw[hb];exact⟨hs,by rw[h.all];simpa using hi⟩
theorem ZN(hs:c8 G w a s)(cv:N0<=G.N)(hx:MX P o K s):o.wpIn (WF r) n P a w (iF N0 G w K) Q:=by
 have dp:=hs.ev;have ptr:∀{y:Operand}{n:Nat},ev s y= .ptr n 0->a.eval y= .pointer (some ⟨G.aR n,0,none⟩):=fun{y n} h=>by
  have:=dp y;rw[h]at this;generalize a.eval y=u at this;cases this;rfl
 unfold MX at hx;split at hx
 next T m ho=>
  split at hx
  ·next ke mb e1 e2=>
   split at hx
   ·next kv hb=>
    obtain⟨es,h1,h2⟩:=OV hs.inv hb;have hv:=dp m;rw[e2]at hv;have ea:a.eval m= .map (some (G.aR mb)):=by
     generalize a.eval m=u at hv;cases hv;rfl
    rw[ea]at hv;obtain⟨i1,i2,i3⟩:=aci (c:=kv.length) hs.inv hv;obtain⟨k0,el⟩:=ke;refine l8 (by rw[ho];simp) hs cv (v:= .pointer (some ⟨w.heap.size,0,none⟩)) (w':=w.alloc (.mapIter (some (G.aR mb)) kv.length #[] kv.length)) ?_ i1 (Nat.le_succ _) i2 i3 hx;unfold execOp;simp [ho,ea,Instr.range,run_underlying (BI e1),MapKept.run_getObj_map h1,Result.andThen]
   ·cases hx
  ·cases hx
 next it ho=>
  split at hx
  ·next m e1=>
   split at hx
   ·next sn mb hn=>
    split at hx
    ·next kv hb=>
     obtain⟨hc,hK1,hK2⟩:=hx;obtain⟨es,h1,h2⟩:=OV hs.inv hb;obtain⟨t1,t2,t3⟩:=FV hs.inv hn;rw[hc]at t2;have hr:=run_next_at (P:=P) w o.type _ _ _ _ _ _ _ t2 h1 (λx hx=>(h2.mem hx).2) (amg _);rcases hr with⟨h0,hr⟩|⟨e',sC,w1,Ah,hr⟩
     ·refine fx (by rw[ho];simp) hs cv (v:= .tuple #[.bool false]) ?_ (.aY _ _ rfl λi u c hu hc=> ?_) (hK2 λb gC=> ?_)
      ·unfold execOp;simp [ho,ptr e1,hr]
      ·match i with
       |0=>cases hu;cases hc;exact .d (.v _)
       |i+1=>simp at hu
      ·have aN:b<es.size:=by rw[<-h2.all];exact gC
       have FF:es[b]?=some es[b]:=amr aN;have CB:=h2.ok.born b _ FF;have KM:leftOf es sn.2.toArray= #[]:=Array.eq_empty_of_size_eq_zero h0;unfold leftOf at KM;rw[Array.filter_eq_empty_iff]at KM;have:=KM es[b] (Array.getElem_mem aN);rw[CB]at this
       simpa using this
     ·have hm:e'∈es.toList/\e'.born ∉ sn.2:=by
       unfold leftOf at sC;simp only[Array.toList_filter,List.mem_filter]at sC;exact⟨sC.1,by simpa using sC.2⟩
      obtain⟨q1,q2⟩:=h2.mem hm.1;obtain⟨p,p1,p2,p3⟩:=h2.ord _ _ q1;have hK:=hK1 e'.born p p1 hm.2;obtain⟨ie,vN⟩:bN G.N G w G w1/\bU G w1 s.h:=by
       rcases Ah with rfl|rfl
       ·exact⟨bN.refl _ _ _,hs.inv⟩
       ·exact S7 hs.inv
      obtain⟨t1',t2',_⟩:=FV vN hn;obtain⟨z1,z2,z3,z4,z5,z6,z7⟩:=vN.dk m _ hn;obtain⟨jo,FB⟩:=PR (B':= .it (sn.1,sn.2++[e'.born]) [.mp mb]) (wZ:= .mapIter (some (G.aR mb)) kv.length (sn.2.toArray.push e'.born) kv.length) vN hn rfl t1' t2' (.inr rfl) λw' fV fa hE=>by
       have hvv:=(FV vN hn).2.2;refine⟨z1,z2,G.aR mb, #[.map (some (G.aR mb))],(),?_,⟨rfl,rfl⟩,λi u c hu hc=> ?_⟩
       ·rw[fa];simp [hc]
       ·match i with
        |0=>cases hu;cases hc;exact hvv.keep hE (amg _)
        |i+1=>simp at hu
      refine l8 (by rw[ho];simp) hs cv (v:= .tuple #[.bool true,e'.key,e'.val]) ?_ (ie.trans jo) (amg _) FB (.aY _ _ rfl λi u c hu hc=> ?_) hK
      ·unfold execOp;simp only[ho,ptr e1];simp [hr];rfl
      ·match i with
       |0=>cases hu;cases hc;exact .d (.v _)
       |1=>cases hu;cases hc;rw[p2];exact .d (.v _)
       |2=>cases hu;cases hc;exact .d (p3.keep (ie.trans jo).S (ie.trans jo).cell)
       |i+3=>simp at hu
    ·cases hx
   ·cases hx
  ·cases hx
 next it ho=>
  split at hx
  ·next m e1=>
   split at hx
   ·next sn mb hn=>
    split at hx
    ·next kv hb=>
     obtain⟨hc,l,b,p,hl,hp,hK⟩:=hx;obtain⟨es,h1,h2⟩:=OV hs.inv hb;obtain⟨t1,t2,t3⟩:=FV hs.inv hn;have aN:b<es.size:=by rw[<-h2.all];exact(al5.1 hp).1
     have FF:es[b]?=some es[b]:=amr aN;have CB:=h2.ok.born b _ FF;obtain⟨p',p1,p2,p3⟩:=h2.ord _ _ FF;rw[hp]at p1;cases p1
     have jV:(es.toList.map (·.born)).Nodup:=by
      have e:es.toList.map (·.born)=List.range es.size:=by
       apply List.ext_getElem?;intro i;rw[amc,ams];by_cases hi:i<es.size
       ·rw[amr hi,Option.map_some,h2.ok.born i _ (amr hi),List.getElem?_range hi]
       ·rw[Array.getElem?_eq_none (by omega),amB (by simp;omega)];rfl
      rw[e];exact List.nodup_range
     have hr:=run_entry_at (P:=P) w (G.aR m) (G.aR mb) sn.1 l.toArray es kv.length es[b] (by rw[t2,hl,CB,hc];simp) h1 (by simp) jV;refine fx (by rw[ho];simp) hs cv (v:= .tuple #[es[b].key,es[b].val]) ?_ (.aY _ _ rfl λi u c hu hc=> ?_) hK
     ·unfold execOp;simp [ho,ptr e1,hr]
     ·match i with
      |0=>cases hu;cases hc;rw[p2];exact .d (.v _)
      |1=>cases hu;cases hc;exact .d p3
      |i+2=>simp at hu
    ·cases hx
   ·cases hx
  ·cases hx
 next e ho=>
  split at hx
  ·next z hz=>
   obtain⟨hc,hK⟩:=hx;obtain⟨i1,i2⟩:=UT hs.inv e;exact l8 (by rw[ho];simp) hs cv (by unfold execOp;simp [ho,Instr.alloc,DT hz,newVar,newRow,hc]) (sk G w hs.inv.z hs.inv.S _) (Nat.le_succ _) i1 i2 hK
  ·cases hx
 next e x ho=>
  obtain⟨hx1,hK⟩:=hx;have hc:(a.eval x).cells= #[.pointer none, .slice none 0 0]:=by
   have hv:=dp x;rw[hx1]at hv;generalize a.eval x=u at hv;cases hv with|agg vs _ hl hr=>
   obtain⟨l⟩:=vs
   match l,hl with
   |[p,q],_=>
    have h0:=(hr 0 p _ rfl rfl).val;have h1:=(hr 1 q _ rfl rfl).val;subst h0;subst h1;rfl
  obtain⟨i1,i2⟩:=UT hs.inv e;exact l8 (by rw[ho];simp) hs cv (by unfold execOp;simp [ho,Instr.box,newVar,newRow,hc]) (sk G w hs.inv.z hs.inv.S _) (Nat.le_succ _) i1 i2 hK
 ·cases hx
end
def iT(ops:Array Oper)(o:Oper)(s:St)(yes no:Prop):Prop:=
 match o.guard with
 |none=>yes
 |some (j,want)=>match (ops[j]?).bind (·.dst)with
  |some d=>match bq s.t d with
   | .d (.v (.bool b))=>(b=want->yes)/\(b= !want->no)
   | .d (.v (.tuple _))=>no
   |_=>False
  |none=>False
structure bB(P:Program)(r:Option Nat)(N0:Nat)(c:Code)(Q:Exit->St->Prop)(s:St):Prop where
 run:∀(G:Gh)(w:World)(a:Act)(n:Nat),c8 G w a s->N0<=G.N->c.wpIn (WF r) n P (λe a' w'=>iF N0 G w (Q e) a' w') a w
def ig(K:St->Prop)(Q:Exit->St->Prop):Exit->St->Prop
 | .normal,s=>K s
 |e,s=>Q e s
def lK:Nat->amT AV->amT (Nat×AV)
 |_,[]=>[]
 |k,x::l=>(k,x)::lK (k+1) l
theorem L0:∀(l:amT AV)(k i:Nat),bq (lK k l) i=if k<=i then(l[i-k]?).getD .dead else .dead
 |[],k,i=>by simp [lK,bq]
 |x::l,k,i=>by
  rw[lK,kZ,L0 l (k+1) i];by_cases h:i=k
  ·subst h;simp
  ·rw[if_neg h];by_cases h2:k<=i
   ·rw[if_pos (by omega),if_pos h2,show i-k=i-(k+1)+1 by omega,amG]
   ·rw[if_neg (by omega),if_neg h2]
def YS(P:amW)(k:Nat)(x:AV)(h:amT aq)(C:Bool->amT aq->Prop):Prop:=
 ∀(G:Gh)(w:amY)(v:amX)(r:amV Nat)(n:Nat),bU G w h->aH G w v x->k<G.N/\∃(p:Nat)(as bd:Code)(fn:FuncId)(tm:Array amX)(D:Nat),
  w.heap[G.aR k]?=some (.loop {state:= .ready,pending:=none,fn:=fn,tmps:=tm,params:= #[p],assign:=as,body:=bd,defers:=D})/\
  RoundIn (WF r) n P (G.aR k) fn (tm.setIfInBounds p v) as bd w λe w'=>∃(b:Bool)(G':Gh)(h':amT aq),e= .returned (.bool b)/\bN G.N G w G' w'/\G.N<=G'.N/\bU G' w' h'/\C b h'
def ZW(C:Bool->amT aq->Prop)(k:Nat):Exit->St->Prop
 | .normal,s2=>∃p as bd kQ,s2.h[k]?=some (.lp .busy p as bd kQ)/\C true (s2.h.set k (.lp .ready p as bd kQ))
 | .ret,s2=>∃p as bd kQ,s2.h[k]?=some (.lp .busy p as bd kQ)/\C false (s2.h.set k (.lp (.done .ret) p as bd kQ))
 | .exit i,s2=>∃p as bd kQ,s2.h[k]?=some (.lp .busy p as bd kQ)/\C false (s2.h.set k (.lp (.done (.exit i)) p as bd kQ))
 |_,_=>False
def F2(P:amW)(o:Oper)(K:St->Prop)(s:St):Prop:=
 match o.op with
 | .call c=>match c.callee with
   | .value f=>match ev s f,c.args.toList.map (ev s)with
     | .cp k,[x]=>YS P k x s.h λb h'=>K ((s.wh h').put o.dst (.d (.v (.bool b))))
     |_,_=>False
   |_=>False
 |_=>False
def ajr(P:amW)(o:Oper)(K:St->Prop)(s:St):Prop:=∃x h',yE P o.op (ev s) s.h=some (x,h')/\K ((s.wh h').put o.dst x)
def oz(P:amW)(o:Oper)(K:St->Prop)(s:St):Prop:=HU P o K s\/CU P o K s\/qK P o K s\/F2 P o K s\/ajr P o K s\/MX P o K s
def sH(P:amW)(ops:Array Oper):amT Oper->(St->Prop)->St->Prop
 |[],K,s=>K s
 |o::rest,K,s=>iT ops o s (oz P o (sH P ops rest K) s) (sH P ops rest K (s.put o.dst (.d (.v undef))))
def qc(id:Nat)(Q:Exit->St->Prop):Exit->St->Prop
 | .exit qi,s=>bif qi==id then Q .normal s else Q (.exit qi) s
 |e,s=>Q e s
section
variable {P:amW} {r:amV Nat} {n N0:Nat} {G:Gh} {w:amY} {a:Act} {s:St} {o:Oper} {Q:Exit->St->Prop}
theorem iF.mono{K K':St->Prop}(h:∀s,K s->K' s){a':Act}{w':amY}(hn:iF N0 G w K a' w'):iF N0 G w K' a' w':=
 let ⟨G',s',h1,h2,h3,h4⟩:=hn;⟨G',s',h1,h2,h3,h _ h4⟩
theorem iF.trans{K:St->Prop}{G1:Gh}{w1:amY}(hE:bN N0 G w G1 w1){a':Act}{w':amY}(hn:iF N0 G1 w1 K a' w'):iF N0 G w K a' w':=
 let ⟨G',s',h1,h2,h3,h4⟩:=hn;⟨G',s',hE.trans h1,h2,h3,h4⟩
theorem bB.mono{c:Code}{Q':Exit->St->Prop}(h:bB P r N0 c Q s)(hq:∀e s,Q e s->Q' e s):bB P r N0 c Q' s:=
 ⟨λG w a n hs hN=>wpIn_mono (h.run G w a n hs hN) λe _ _ hn=>hn.mono (hq e)⟩
theorem Oo{ops:Array Oper}{yes no:Prop}(hs:c8 G w a s)(h:iT ops o s yes no):if Region.wanted o (yielded ops a.tmps)then yes else no:=by
 unfold iT at h;split at h
 ·rename_i hg
  rw[if_pos (by simp [Region.wanted,hg])];exact h
 ·rename_i j want hg
  split at h
  ·rename_i d hd
   have hv:=hs.tmp d;split at h
   ·rename_i b hb
    rw[hb]at hv;have e:=hv.bool;have hy:yielded ops a.tmps j=some b:=by
      unfold yielded;rw[hd,al4];by_cases aN:d<a.tmps.size
      ·rw[amr aN];have:a.tmps.getD d undef=a.tmps[d]:=by simp [Array.getD,aN]
       rw[this]at e;rw[e]
      ·have:a.tmps.getD d undef=undef:=by simp [Array.getD,aN]
       rw[this]at e;cases e
    by_cases we:b=want
    ·rw[if_pos (by simp [Region.wanted,hg,hy,we])];exact h.1 we
    ·rw[if_neg (by simp [Region.wanted,hg,hy,we])];exact h.2 (by cases b<;>cases want<;>simp_all)
   ·rename_i vs hb
    rw[hb]at hv;have e:=hv.val;have hy:yielded ops a.tmps j=none:=by
      unfold yielded;rw[hd,al4];by_cases aN:d<a.tmps.size
      ·rw[amr aN];have:a.tmps.getD d undef=a.tmps[d]:=by simp [Array.getD,aN]
       rw[this]at e;rw[e]
      ·rw[Array.getElem?_eq_none (Nat.le_of_not_lt aN)]
    rw[if_neg (by simp [Region.wanted,hg,hy])];exact h
   ·exact h.elim
  ·exact h.elim
theorem YS.mono{k:Nat}{x:AV}{h:amT aq}{C C':Bool->amT aq->Prop}(hy:YS P k x h C)(hc:∀b h',C b h'->C' b h'):YS P k x h C':=λG w v r n hi hv=>
 let ⟨h0,p,as,bd,fn,tm,D,h1,h2⟩:=hy G w v r n hi hv
 ⟨h0,p,as,bd,fn,tm,D,h1,h2.mono λ_ _ ⟨b,G',h',a1,a2,a3,a4,a5⟩=>⟨b,G',h',a1,a2,a3,a4,hc _ _ a5⟩⟩
theorem afA{k:Nat}{x:AV}{h:amT aq}{C:Bool->amT aq->Prop}
 (hA:∃p as bd cs,h[k]?=some (.lp .ready p as bd cs)/\p<cs.length/\∀(l:Nat),bB P (some l) h.length as (ig (λs1=>∃p1 rD sc vo,s1.h[k]?=some (.lp .ready p1 rD sc vo)/\bB P (some l) h.length bd (ZW C k) ⟨s1.n,s1.t,s1.h.set k (.lp .busy p1 rD sc vo)⟩) (λ_ _=>False)) ⟨cs.length,(p,x)::lK 0 cs,h⟩):YS P k x h C:=by
 intro G w v r n hi M5;obtain⟨p,as,bd,cs,hk,hp,hA⟩:=hA;have yD:k<G.N:=hi.lt hk;obtain⟨hS,fn,tm,D,h3,h4,h5,alZ⟩:=IU hi hk;refine⟨yD,p,as,bd,fn,tm,D,h3,?_⟩;refine roundIn_of_wpIn (F:=WF r) trivial ?_;have oh:c8 G w {tmps:=tm.setIfInBounds p v,defers:=[]} ⟨cs.length,(p,x)::lK 0 cs,h⟩:=by
  refine⟨by simp [h4],λi=> ?_,hi,rb.nil _ _⟩;show aH _ _ _ (bq ((p,x)::lK 0 cs) i);rw[kZ];split
  ·next e=>
   subst e;have:(tm.setIfInBounds i v).getD i undef=v:=by simp [Array.getD,h4,hp]
   rw[this];exact M5
  ·next e=>
   rw[L0];simp only[Nat.zero_le,if_true,Nat.sub_zero];cases fV:cs[i]? with
   |none=>exact .dead _
   |some y=>
    have aN:i<tm.size:=by rw[h4];exact(al5.1 fV).1
    have:(tm.setIfInBounds p v).getD i undef=tm[i]:=by
     simp [Array.getD,aN,Ne.symm e]
    rw[this];exact h5 i _ y (amr aN) fV
 have JZ:=hA (G.aR k);rw[hi.len]at JZ;refine wpIn_mono (JZ.run G w _ n oh (amg _)) λe1 a1 w1 wC=> ?_;obtain⟨G1,s1,ie,fU,eV,rF⟩:=wC;cases e1 with
 |normal=>
  obtain⟨p1,rD,sc,vo,jI,jQ⟩:=rF;have DJ:G1.aR k=G.aR k:=ie.aR k yD;obtain⟨_,Z6,tm1,D1,g3,g4,g5,Vv⟩:=IU eV.inv jI;obtain⟨gE,gI⟩:=Vv .busy;rw[DJ]at g3 gE gI;refine⟨_,run_beginRound g3 rfl,?_⟩;have xJ:c8 G1 (w1.putObj (G.aR k) (.loop {state:= .busy,pending:=none,fn:=Z6,tmps:=tm1,params:= #[p1],assign:=rD,body:=sc,defers:=D1})) a1 ⟨s1.n,s1.t,s1.h.set k (.lp .busy p1 rD sc vo)⟩:=eV.move gE (amg _) gI;refine wpIn_mono (jQ.run G1 _ a1 n xJ fU) λe3 a3 w3 hn3=> ?_;obtain⟨G3,s3,Wv,V8,hs3,qN⟩:=hn3;have fin:∀(jump:amV Code)(ls:LS)(b:Bool)(p:Nat)(as bd:Code)(kQ:amT AV),s3.h[k]?=some (.lp .busy p as bd kQ)->ls.pd=jump->ls.st=(if jump.isNone then .ready else .done)->jump.isNone=b->C b (s3.h.set k (.lp ls p as bd kQ))->
   ∃v w',(Instr.endRound (G.aR k) jump).run P w3= .ok v w'/\∃(b:Bool)(G':Gh)(h':amT aq),(Ending.returned v:Ending)= .returned (.bool b)/\bN G.N G w G' w'/\G.N<=G'.N/\bU G' w' h'/\C b h':=λjump ls b p as bd kQ Fm q1 q2 q3 hK=>by
   have hr3:G3.aR k=G.aR k:=(Wv.aR k yD).trans DJ;obtain⟨_,fn3,tm3,D3,z3,z4,z5,alg⟩:=IU hs3.inv Fm;obtain⟨zE,zI⟩:=alg ls;rw[hr3]at z3 zE zI;subst q1;have DY:=run_endRound (P:=P) ls.pd z3;rw[<-q2]at DY;refine⟨_,_,DY,b,G3,_,by rw[q3],?_,V8,zI,hK⟩;exact(ie.trans ((gE.less fU).trans Wv)).trans (zE.less V8)
  cases e3 with
  |normal=>obtain⟨p2,BR,E7,kQ,y1,y2⟩:=qN;exact fin none .ready true p2 BR E7 kQ y1 rfl rfl rfl y2
  |ret=>obtain⟨p2,BR,E7,kQ,y1,y2⟩:=qN;exact fin (some .ret) (.done .ret) false p2 BR E7 kQ y1 rfl rfl rfl y2
  |exit i=>obtain⟨p2,BR,E7,kQ,y1,y2⟩:=qN;exact fin (some (.exit i)) (.done (.exit i)) false p2 BR E7 kQ y1 rfl rfl rfl y2
  |_=>exact qN.elim
 |_=>exact rF.elim
theorem ahJ{K:St->Prop}{Q:Exit->Act->amY->Prop}(hs:c8 G w a s)(hN:N0<=G.N)(h:F2 P o K s):o.wpIn (WF r) n P a w (iF N0 G w K) Q:=by
 unfold F2 at h;split at h
 ·next c ho=>
  split at h
  ·next f hc=>
   split at h
   ·next k x hf hx=>
    have hv:=hs.ev f;rw[hf]at hv;have ea:a.eval f= .func (.yield (G.aR k)) #[] #[]:=by
     generalize a.eval f=u at hv;cases hv;rfl
    obtain⟨p1,p2⟩:=vX hs c.args;obtain⟨v,rl⟩:∃v,c.args.map a.eval= #[v]:=by
     have:(c.args.map a.eval).size=1:=by rw[p1,hx];rfl
     exact⟨(c.args.map a.eval)[0],Array.ext (by simp [this]) λi h1 h2=>by
      have:i=0:=by simp at h2;exact h2
      subst this;rfl⟩
    have M5:aH G w v x:=p2 0 v x (by rw[rl];rfl) (by rw[hx];rfl);obtain⟨yD,p,as,bd,fn,tm,D,h3,hA⟩:=h G w v r (n-1) hs.inv M5;have jV:∀c',o.op≠ .defer c':=λc' e=>by rw[ho]at e;cases e
    have hy:=run_yield (P:=P) (args:= #[v]) h3 rfl;have dK:(o.semAt (WF r).round a.eval).run P w= .ok (.round (G.aR k) fn (tm.setIfInBounds p v) as bd) w:=by
     rw[Oper.semAt_eq _ _ _ jV];unfold execOp;simp only[ho,resolve,hc,ea];simp [Deferred.ofValue,invoke,rl,hy]
    unfold Oper.wpIn;refine⟨λg hg=>trivial,?_⟩;rw[dK,Oper.uponIn_round];refine⟨λh=>(by simp [WF,Fence.wide]at h),hA.mono λe w' hp=> ?_⟩;obtain⟨b,G',h',rfl,hE,kJ,dY,hK⟩:=hp;exact⟨G',_,hE.less hN,amn hN kJ,(hs.move hE kJ dY).put (.d (.v _)) o.dst,hK⟩
   ·exact h.elim
  ·exact h.elim
 ·exact h.elim
theorem acX{K:St->Prop}{Q:Exit->Act->amY->Prop}(hs:c8 G w a s)(hN:N0<=G.N)(h:oz P o K s):o.wpIn (WF r) n P a w (iF N0 G w K) Q:=by
 rcases h with h|h|h|h|⟨x,h',h,hK⟩|h
 ·exact M7 hs hN (.inl h)
 ·exact M7 hs hN (.inr (.inl h))
 ·exact M7 hs hN (.inr (.inr h))
 ·exact ahJ hs hN h
 ·exact aa2 hs hN h hK
 ·exact ZN hs hN h
theorem LR{ops:Array Oper}{K:St->Prop}{Q':Exit->Act->amY->Prop}(hQ:∀a' w',iF N0 G w K a' w'->Q' .normal a' w'):∀(l:amT Oper)(k:Nat),(∀j,l[j]?=ops[k+j]?)->∀(G1:Gh)(w1:amY)(a:Act)(s:St),
 bN N0 G w G1 w1->N0<=G1.N->c8 G1 w1 a s->sH P ops l K s->wpOpsIn (WF r) n P ops Q' (List.range' k l.length) a w1
 |[],k,_,G1,w1,a,s,hE,hN,hs,h=>hQ _ _ ⟨G1,s,hE,hN,hs,h⟩
 |o::l,k,hl,G1,w1,a,s,hE,hN,hs,h=>by
  have h0:ops[k]?=some o:=by simpa using (hl 0).symm
  have zW:∀j,l[j]?=ops[k+1+j]?:=λj=>by have:=hl (j+1);simpa [Nat.add_assoc,Nat.add_comm 1 j]using this
  have hg:=Oo hs h;simp only[al8,List.range'_succ,wpOpsIn,h0];split
  ·rename_i hw
   rw[if_pos hw]at hg;exact Oper.wpIn_mono (λa' w' hn=>by
     obtain⟨G2,s2,e2,n2,xp,k2⟩:=hn;exact LR hQ l (k+1) zW G2 w' a' s2 (hE.trans e2) n2 xp k2) (acX hs hN hg)
  ·rename_i hw
   rw[if_neg hw]at hg;exact⟨λ_ _=>trivial,LR hQ l (k+1) zW G1 w1 _ _ hE hN (hs.put (.d (.v undef)) o.dst) hg⟩
theorem e9{id:Nat}{ops:Array Oper}(h:sH P ops ops.toList (Q .normal) s):bB P r N0 (.region id ops false) Q s:=by
 constructor
 intro G w a n hs hN;refine wpIn_region ?_;rw[List.range_eq_range',<-amC];exact LR (G:=G) (w:=w) (K:=Q .normal) (λ_ _ h=>h) ops.toList 0 (by simp) G w a s (bN.refl _ _ _) hN hs h
theorem ct(h:Q .normal s):bB P r N0 .skip Q s:=⟨λG _ _ _ hs hN=>wpIn_skip ⟨G,s,bN.refl _ _ _,hN,hs,h⟩⟩
theorem cU(h:Q .ret s):bB P r N0 .ret Q s:=⟨λG _ _ _ hs hN=>wpIn_ret ⟨G,s,bN.refl _ _ _,hN,hs,h⟩⟩
theorem kW{id:Nat}(h:Q (.exit id) s):bB P r N0 (.exit id) Q s:=⟨λG _ _ _ hs hN=>wpIn_exit ⟨G,s,bN.refl _ _ _,hN,hs,h⟩⟩
theorem au{x y:Code}(h:bB P r N0 x (ig (λs'=>bB P r N0 y Q s') Q) s):bB P r N0 (.seq x y) Q s:=by
 constructor
 intro G w a n hs hN;refine wpIn_seq (wpIn_mono (h.run G w a n hs hN) λe a1 w1 hn=> ?_);obtain⟨G1,s1,hE,fU,eV,hq⟩:=hn;cases e with
 |normal=>exact wpIn_mono (hq.run G1 w1 a1 n eV fU) λ_ _ _ hn=>hn.trans hE
 |_=>exact⟨G1,s1,hE,fU,eV,hq⟩
theorem M6{c:Operand}{x y:Code}{t:Bool}(hc:ev s c= .d (.v (.bool t)))(h1:t=true->bB P r N0 x Q s)(h2:t=false->bB P r N0 y Q s):bB P r N0 (.cond c x y) Q s:=by
 constructor
 intro G w a n hs hN;have hb:=hs.ev c;rw[hc]at hb;exact wpIn_cond_split hb.bool (λe=>(h1 e).run G w a n hs hN) (λe=>(h2 e).run G w a n hs hN)
theorem dn{id:Nat}{c:Code}(h:bB P r N0 c (qc id Q) s):bB P r N0 (.block id c) Q s:=by
 constructor
 intro G w a n hs hN;refine wpIn_block (wpIn_mono (h.run G w a n hs hN) λe a1 w1 hn=> ?_);obtain⟨G1,s1,hE,fU,eV,hq⟩:=hn;cases e with
 |exit qi=>
  by_cases he:qi=id
  ·simp only[qc,he,BEq.rfl,cond_true]at hq;simp only[Exit.inBlock,if_pos he];exact⟨G1,s1,hE,fU,eV,hq⟩
  ·have hbe:(qi==id)=false:=by simpa using he
   simp only[qc,hbe,cond_false]at hq;simp only[Exit.inBlock,if_neg he];exact⟨G1,s1,hE,fU,eV,hq⟩
 |_=>exact⟨G1,s1,hE,fU,eV,hq⟩
theorem QC{F:Fence}{c:Code}{Q:Exit->Act->amY->Prop}{ι:Type}(I:ι->Act->amY->Prop)(μ:ι->Nat)(i0:ι)(h₀:I i0 a w)
 (round:∀i a w,I i a w->c.wpIn F n P (Exit.then (λa' w'=>∃i',I i' a' w'/\μ i'<μ i) Q) a w):(Code.loop c).wpIn F n P Q a w:=by
 intro b k cs zR hb hr;have key:∀j i a w,μ i=j->I i a w->
  ∃e a' w',Q e a' w'/\ArrivesIn (Machine.fenced P F) P (lone (b.atR a (.code c:: .inLoop c::k)) cs w) b k cs e a' w':=by
  intro j
  induction j using Nat.strongRecOn with
  |_ j ih=>
   intro i a w hn hI;obtain⟨e,a₁,w₁,hq,tz⟩:=round i a w hI b (.inLoop c::k) cs zR hb hr;cases e with
   |normal=>
    obtain⟨i',hI₁,aN⟩:=hq;obtain⟨e₂,a₂,w₂,hq₂,afd⟩:=ih (μ i') (hn▸aN) i' a₁ w₁ rfl hI₁;exact⟨e₂,a₂,w₂,hq₂, .of_steps (StepsIn.trans tz (.one (fenced_calm hb hr rfl) stepR_inLoop)) afd⟩
   |exit id=>exact⟨_,a₁,w₁,hq, .pass (x:= .inLoop c) rfl (λ_ _=> .inl (by simp)) tz⟩
   |goto l=>exact⟨_,a₁,w₁,hq, .pass (x:= .inLoop c) rfl (λ_ _=> .inl (by simp)) tz⟩
   |ret=>exact⟨_,a₁,w₁,hq, .pass (x:= .inLoop c) rfl (λ_ _=> .inl (by simp)) tz⟩
   |panic ch=>exact⟨_,a₁,w₁,hq, .pass (x:= .inLoop c) rfl (λ_ _=> .inl (by simp)) tz⟩
   |outgrown=>exact⟨_,a₁,w₁,hq, .pass (x:= .inLoop c) rfl (λ_ _=> .inl (by simp)) tz⟩
 obtain⟨e,a',w',hq,tz⟩:=key _ i0 a w rfl h₀;exact⟨e,a',w',hq, .of_steps (.one (fenced_calm hb hr rfl) stepR_loop) tz⟩
end
mutual
def AV.bz(m:Nat):AV->AV
 | .own n xs=>bif cq m n then .d (.sl xs)else .own n xs
 | .agg cs=> .agg (AV.pH m cs)
 | .aY cs=> .aY (AV.pH m cs)
 | .fn f cs=> .fn f (AV.pH m cs)
 |x=>x
def AV.pH(m:Nat):amT AV->amT AV
 |[]=>[]
 |x::l=>x.bz m::AV.pH m l
end
mutual
def AV.aG(m:Nat):AV->Bool
 | .own n _| .ptr n _| .row n _ _ _ _| .mp n| .cp n| .vec n _ _ _ _| .dD n _ _ _ _=> !cq m n
 | .agg cs=>AV.ky m cs
 | .aY cs=>AV.ky m cs
 | .fn _ cs=>AV.ky m cs
 |_=>true
def AV.ky(m:Nat):amT AV->Bool
 |[]=>true
 |x::l=>x.aG m&&AV.ky m l
end
theorem EL(m:Nat):∀l,AV.pH m l=l.map (AV.bz m)
 |[]=>by simp [AV.pH]
 |x::l=>by simp [AV.pH,EL m l]
theorem mW(m:Nat):∀l,AV.ky m l=l.all (AV.aG m)
 |[]=>by simp [AV.ky]
 |x::l=>by simp [AV.ky,mW m l]
def aq.bz(m:Nat):aq->aq
 | .cells cs=> .cells (cs.map (AV.bz m))
 | .lp ls p as bd cs=> .lp ls p as bd (cs.map (AV.bz m))
 | .it sn cs=> .it sn (cs.map (AV.bz m))
 | .eR T cs=> .eR T (cs.map (AV.bz m))
 | .vec e k cs=> .vec e k (cs.map (·.map (AV.bz m)))
 |B=>B
def aq.aG(m:Nat):aq->Bool
 | .cells cs=>cs.all (AV.aG m)
 | .lp _ _ _ _ cs=>cs.all (AV.aG m)
 | .it _ cs=>cs.all (AV.aG m)
 | .eR _ cs=>cs.all (AV.aG m)
 | .vec _ _ cs=>cs.all (·.all (AV.aG m))
 |_=>true
theorem aH.bz{G:Gh}{w:amY}(m:Nat){u:amX}{x:AV}(h:aH G w u x):aH G w u (x.bz m):=by
 have fK:∀(vs:Array amX)(cs:amT AV),(∀(i:Nat)(u:amX)(c:AV),vs[i]?=some u->cs[i]?=some c->aH G w u (c.bz m))->∀(i:Nat)(u:amX)(c:AV),vs[i]?=some u->(AV.pH m cs)[i]?=some c->aH G w u c:=by
  intro vs cs ih i u c hu hc;rw[EL,amc]at hc;cases hx:cs[i]? with
  |none=>rw[hx]at hc;cases hc
  |some x=>rw[hx]at hc;cases hc;exact ih i u x hu hx
 induction h with
 |agg vs cs hl _ ih=>rw[AV.bz];exact .agg vs _ (by rw[EL,ama];exact hl) (fK vs cs ih)
 |aY vs cs hl _ ih=>rw[AV.bz];exact .aY vs _ (by rw[EL,ama];exact hl) (fK vs cs ih)
 |fn f vs cs hl _ ih=>rw[AV.bz];exact .fn f vs _ (by rw[EL,ama];exact hl) (fK vs cs ih)
 |own n xs h hp hle hf=>
  rw[AV.bz,cond_eq_ite];split
  ·exact .d hp
  ·exact .own n xs h hp hle hf
 |d h=>simp only[AV.bz];exact .d h
 |ptr n off h=>simp only[AV.bz];exact .ptr n off h
 |bp xs i off b o u x hx hS hu=>simp only[AV.bz];exact .bp xs i off b o u x hx hS hu
 |full xs hp hf=>simp only[AV.bz];exact .full xs hp hf
 |row n off len cap k h hl hm=>simp only[AV.bz];exact .row n off len cap k h hl hm
 |mp n h=>simp only[AV.bz];exact .mp n h
 |cp n h=>simp only[AV.bz];exact .cp n h
 |vec n o len L k h hs hL hf=>simp only[AV.bz];exact .vec n o len L k h hs hL hf
 |dD n i j L k h hs hL hf=>simp only[AV.bz];exact .dD n i j L k h hs hL hf
 |hid h h1=>simp only[AV.bz];exact .hid h h1
 |dead u=>simp only[AV.bz];exact .dead u
def Gh.cut(G:Gh)(m:Nat):Gh:={G with N:=m}
theorem aH.cut{G:Gh}{w:amY}{m:Nat}{u:amX}{x:AV}(h:aH G w u x)(hb:x.aG m=true):aH (G.cut m) w u x:=by
 induction h with
 |agg vs cs hl _ ih=>
  rw[AV.aG,mW,amv]at hb;exact .agg vs cs hl λi u c hu hc=>ih i u c hu hc (hb c (ami hc))
 |aY vs cs hl _ ih=>
  rw[AV.aG,mW,amv]at hb;exact .aY vs cs hl λi u c hu hc=>ih i u c hu hc (hb c (ami hc))
 |fn f vs cs hl _ ih=>
  rw[AV.aG,mW,amv]at hb;exact .fn f vs cs hl λi u c hu hc=>ih i u c hu hc (hb c (ami hc))
 |own n xs h hp hle hf=>rw[AV.aG]at hb;exact .own n xs (show n<m by rw[Bool.not_eq_true',<-Bool.not_eq_true,dq]at hb;omega) hp hle hf
 |ptr n off h=>rw[AV.aG]at hb;exact .ptr (G:=G.cut m) n off (show n<m by rw[Bool.not_eq_true',<-Bool.not_eq_true,dq]at hb;omega)
 |row n off len cap k h hl hm=>rw[AV.aG]at hb;exact .row (G:=G.cut m) n off len cap k (show n<m by rw[Bool.not_eq_true',<-Bool.not_eq_true,dq]at hb;omega) hl hm
 |mp n h=>rw[AV.aG]at hb;exact .mp (G:=G.cut m) n (show n<m by rw[Bool.not_eq_true',<-Bool.not_eq_true,dq]at hb;omega)
 |cp n h=>rw[AV.aG]at hb;exact .cp (G:=G.cut m) n (show n<m by rw[Bool.not_eq_true',<-Bool.not_eq_true,dq]at hb;omega)
 |vec n o len L k h hs hL hf=>rw[AV.aG]at hb;exact .vec (G:=G.cut m) n o len L k (show n<m by rw[Bool.not_eq_true',<-Bool.not_eq_true,dq]at hb;omega) hs hL hf
 |dD n i j L k h hs hL hf=>rw[AV.aG]at hb;exact .dD (G:=G.cut m) n i j L k (show n<m by rw[Bool.not_eq_true',<-Bool.not_eq_true,dq]at hb;omega) hs hL hf
 |hid h h1=>exact .hid (G:=G.cut m) h h1
 |d h=>exact .d h
 |bp xs i off b o u x hx hS hu=>exact .bp xs i off b o u x hx hS hu
 |full xs hp hf=>exact .full xs hp hf
 |dead u=>exact .dead u
def St.mask(s:St)(live:amT Nat)(m:Nat):St:={s with t:=live.map λk=>(k,(bq s.t k).bz m),h:=(s.h.take m).map (aq.bz m)}
def St.A3(s:St)(live:amT Nat)(m:Nat):Prop:=m<=s.h.length/\(live.all λk=>((bq s.t k).bz m).aG m)=true/\(((s.h.take m).map (aq.bz m)).all (aq.aG m))=true
theorem rp(f:Nat->AV):∀(live:amT Nat)(i:Nat),bq (live.map λk=>(k,f k)) i=if i∈live then f i else .dead
 |[],i=>by simp [bq]
 |k::l,i=>by
  simp only[amu,kZ,rp f l i,amz];by_cases h:i=k
  ·subst h;simp
  ·simp [h]
theorem MV{G:Gh}{w:amY}{h:amT aq}(hi:bU G w h){m:Nat}(hm:m<=h.length)(hb:(((h.take m).map (aq.bz m)).all (aq.aG m))=true):bU (G.cut m) w ((h.take m).map (aq.bz m)):=by
 have eG:∀(n:Nat)(B:aq),((h.take m).map (aq.bz m))[n]?=some B->n<m/\∃B',h[n]?=some B'/\B=B'.bz m/\(B'.bz m).aG m=true:=λn B hB=>by
  have uk:=amv.1 hb B (ami hB);rw[amc,List.getElem?_take]at hB;split at hB
  ·rename_i hn
   cases hx:h[n]? with
   |none=>rw[hx]at hB;cases hB
   |some B'=>rw[hx]at hB;cases hB;exact⟨hn,B',rfl,rfl,uk⟩
  ·cases hB
 have eF:∀n b,bR ((h.take m).map (aq.bz m)) (G.cut m) n=some b->bR h G n=some b:=λn b hb=>by
  obtain⟨B,hB,hb⟩:=m3 hb;obtain⟨_,B',h1,rfl,_⟩:=eG n B hB;rw[dJ h1,<-hb];cases B'<;>rfl
 refine⟨by simp [Gh.cut];omega,hi.z,hi.S,λn B hB=> ?_,λi j b h1 h2=>hi.inj i j b (eF i b h1) (eF j b h2),hi.gl⟩;obtain⟨hn,B',h1,rfl,uk⟩:=eG n B hB;have dN:=hi.dk n B' h1;cases B' with
 |gone=>trivial
 |front e k len=>exact dN
 |iy e b=>exact dN
 |map kv=>exact dN
 |iC kv=>exact dN
 |vec e k cs=>
  obtain⟨c1,c2,c3,c4⟩:=dN;refine⟨by rw[ama];exact c1,by rw[ama];exact c2,λc hc=> ?_,?_⟩
  ·obtain⟨x,hx,rfl⟩:=List.mem_map.1 hc;rw[ama];exact c3 x hx
  ·rcases c4 with⟨d1,d2,A,d3⟩|⟨g,cap,cur,d1,d2,d3,d4,d5,d6,d7,d8,d9⟩
   ·exact .inl ⟨d1,by rw[d2];rfl,A,d3⟩
   ·refine .inr ⟨g,cap,cur,d1,by rw[ama];exact d2,d3,d4,by rw[ama];exact d5,d6,d7,d8,λi j c x u hc hx hu=> ?_⟩;simp only[aq.bz,aq.aG,amv]at uk;rw[amc]at hc;cases hy:cs[i]? with
    |none=>rw[hy]at hc;cases hc
    |some y=>
     rw[hy]at hc;cases hc
     have hz:=hx;rw[amc]at hx;cases hw:y[j]? with
     |none=>rw[hw]at hx;cases hx
     |some z=>
      rw[hw]at hx;cases hx
      exact((d9 i j y z u hy hw hu).bz m).cut (uk _ (List.mem_map.2 ⟨y,ami hy,rfl⟩) _ (ami hz))
 |cells cs=>
  obtain⟨c1,c2,vs,T,c3,c4,c5⟩:=dN;refine⟨c1,c2,vs,T,c3,by rw[ama];exact c4,λi u c hu hc=> ?_⟩;have mK:=ami hc;rw[amc]at hc;cases hx:cs[i]? with
  |none=>rw[hx]at hc;cases hc
  |some x=>
   rw[hx]at hc;cases hc
   exact((c5 i u x hu hx).bz m).cut (amv.1 uk _ mK)
 |lp ls p as bd cs=>
  obtain⟨c1,c2,fn,vs,T,c3,c4,c5⟩:=dN;refine⟨c1,c2,fn,vs,T,c3,by rw[ama];exact c4,λi u c hu hc=> ?_⟩;have mK:=ami hc;rw[amc]at hc;cases hx:cs[i]? with
  |none=>rw[hx]at hc;cases hc
  |some x=>
   rw[hx]at hc;cases hc
   exact((c5 i u x hu hx).bz m).cut (amv.1 uk _ mK)
 |it sn cs=>
  obtain⟨c1,c2,fn,vs,T,c3,c4,c5⟩:=dN;refine⟨c1,c2,fn,vs,T,c3,by rw[ama];exact c4,λi u c hu hc=> ?_⟩;have mK:=ami hc;rw[amc]at hc;cases hx:cs[i]? with
  |none=>rw[hx]at hc;cases hc
  |some x=>
   rw[hx]at hc;cases hc
   exact((c5 i u x hu hx).bz m).cut (amv.1 uk _ mK)
 |eR T0 cs=>
  obtain⟨c1,c2,fn,vs,T,c3,c4,c5⟩:=dN;refine⟨c1,c2,fn,vs,T,c3,by rw[ama];exact c4,λi u c hu hc=> ?_⟩;have mK:=ami hc;rw[amc]at hc;cases hx:cs[i]? with
  |none=>rw[hx]at hc;cases hc
  |some x=>
   rw[hx]at hc;cases hc
   exact((c5 i u x hu hx).bz m).cut (amv.1 uk _ mK)
theorem pE(N:Nat)(G:Gh)(w:amY)(m:Nat):bN N G w (G.cut m) w:=
 ⟨amg _,λ_ _ h=>h,λ_ _ _=>rfl,λ_ _=>rfl,λ_ _=> .inl ⟨rfl,rfl⟩,hY rfl,λ_ _=>rfl,rfl,rfl,rfl,λ_ _ h=> .inl h⟩
section
variable {P:amW} {r:amV Nat} {n N0:Nat} {G:Gh} {w:amY} {a:Act} {s:St} {o:Oper} {Q:Exit->St->Prop}
theorem c8.mask(hs:c8 G w a s){live:amT Nat}{m:Nat}(h:s.A3 live m):c8 (G.cut m) w a (s.mask live m):=by
 obtain⟨h1,h2,h3⟩:=h;refine⟨hs.size,λi=> ?_,MV hs.inv h1 h3,hs.df⟩;show aH _ _ _ (bq (live.map λk=>(k,(bq s.t k).bz m)) i);rw[rp (λk=>(bq s.t k).bz m)];split
 ·rename_i hi
  exact((hs.tmp i).bz m).cut (amv.1 h2 i hi)
 ·exact .dead _
theorem GJ{c:Code}{ι:Type}(live:amT Nat)(m:Nat)(st:ι->St)(I:ι->Prop)(μ:ι->Nat)(i0:ι)(hm:N0<=m)(bW:s.A3 live m)(h0:s.mask live m=st i0)(hI:I i0)
 (round:∀i,I i->bB P r N0 c (ig (λs'=>s'.A3 live m/\∃i',s'.mask live m=st i'/\I i'/\μ i'<μ i) Q) (st i)):bB P r N0 (.loop c) Q s:=by
 constructor
 intro G w a n hs _;refine QC (λ(i:ι) a' w'=>∃G',I i/\bN N0 G w G' w'/\N0<=G'.N/\c8 G' w' a' (st i)) μ i0 ⟨G.cut m,hI,pE _ _ _ _,hm,h0▸hs.mask bW⟩ ?_;rintro i a' w' ⟨G',hi,hE,hN,cM⟩;refine wpIn_mono ((round i hi).run G' w' a' n cM hN) λe a1 w1 hn=> ?_;obtain⟨G1,s1,ie,fU,eV,hq⟩:=hn;cases e with
 |normal=>
  obtain⟨ahX,i',h1,h2,h3⟩:=hq;exact⟨i',⟨G1.cut m,h2,(hE.trans ie).trans (pE _ _ _ _),hm,h1▸eV.mask ahX⟩,h3⟩
 |_=>exact⟨G1,s1,hE.trans ie,fU,eV,hq⟩
def mU(P:amW)(s:St):amT ResultVar->(amT AV->Prop)->Prop
 |[],C=>C []
 | .tmp t::l,C=>mU P s l λxs=>C (bq s.t t::xs)
 | .cell p t::l,C=>n8 P t s.h (bq s.t p) λx=>mU P s l λxs=>C (x::xs)
def jO:amT AV->AV
 |[x]=>x
 |l=> .aY l
def qe(P:amW)(fn:Func)(m:Nat)(K:AV->amT aq->Prop)(s:St):Prop:=
 mU P s fn.results.toList λl=>m<=s.h.length/\((jO l).bz m).aG m=true/\(((s.h.take m).map (aq.bz m)).all (aq.aG m))=true/\K ((jO l).bz m) ((s.h.take m).map (aq.bz m))
def Jp(P:amW)(fn:Func)(m:Nat)(K:AV->amT aq->Prop):Exit->St->Prop
 | .normal,s=>qe P fn m K s
 | .ret,s=>qe P fn m K s
 |_,_=>False
theorem ajl{C:amT AV->Prop}(hs:c8 G w a s)(g:ResultVar->Sem amX)(hg1:∀t,g (.tmp t)=pure (a.tmps.getD t undef))(Ey:∀p t,g (.cell p t)=(do loadVar t (<-asAddr (a.tmps.getD p undef)))):
 ∀(l:amT ResultVar),mU P s l C->∃(vs:amT amX)(xs:amT AV),(l.mapM g).run P w= .ok vs w/\vs.length=xs.length/\(∀(i:Nat)(u:amX)(c:AV),vs[i]?=some u->xs[i]?=some c->aH G w u c)/\C xs:=by
 intro l
 induction l generalizing C with
 |nil=>exact λh=>⟨[],[],by simp,rfl,λi u c hu=>by simp at hu,h⟩
 |cons x l ih=>
  intro h;cases x with
  |tmp t=>
   obtain⟨vs,xs,h1,h2,h3,h4⟩:=ih h;refine⟨a.tmps.getD t undef::vs,bq s.t t::xs,by simp only[List.mapM_cons,hg1,Sem.run_bind,Sem.run_pure,Result.andThen_ok,h1],by simp [h2],λi u c hu hc=> ?_,h4⟩
   match i with
   |0=>simp only[List.getElem?_cons_zero,Option.some.injEq]at hu hc;subst hu;subst hc;exact hs.tmp t
   |i+1=>exact h3 i u c (by simpa using hu) (by simpa using hc)
  |cell p t=>
   obtain⟨u0,x0,r1,r2,r3⟩:=Yf (P:=P) hs.inv (hs.tmp p) h;obtain⟨vs,xs,h1,h2,h3,h4⟩:=ih r3;have hv:=hs.tmp p;have e:∃ad,a.tmps.getD p undef= .pointer (some ad):=by
    have h':n8 P t s.h (bq s.t p) λx=>mU P s l λxs=>C (x::xs):=h;generalize a.tmps.getD p undef=v at hv r1;generalize bq s.t p=y at hv h';cases hv with
    |ptr=>exact⟨_,rfl⟩
    |bp=>exact⟨_,rfl⟩
    |_=>exact(show False from h').elim
   obtain⟨ad,e⟩:=e;rw[e]at r1;have r1':(loadVar t ad).run P w= .ok u0 w:=by simpa [Instr.loadAt,Instr.sureAddr]using r1
   have ha:(asAddr (a.tmps.getD p undef)).run P w= .ok ad w:=by rw[e];rfl
   refine⟨u0::vs,x0::xs,by simp only[List.mapM_cons,Ey,Sem.run_bind,Sem.run_pure,Result.andThen_ok,h1,ha,r1'],by simp [h2],λi u c hu hc=> ?_,h4⟩
   match i with
   |0=>simp only[List.getElem?_cons_zero,Option.some.injEq]at hu hc;subst hu;subst hc;exact r2
   |i+1=>exact h3 i u c (by simpa using hu) (by simpa using hc)
theorem afG:∀(vs:amT amX)(xs:amT AV),vs.length=xs.length->(∀(i:Nat)(u:amX)(c:AV),vs[i]?=some u->xs[i]?=some c->aH G w u c)->aH G w (if h:vs.toArray.size=1 then vs.toArray[0]else .tuple vs.toArray) (jO xs)
 |[v],[x],_,h=>h 0 v x rfl rfl
 |[],[],_,_=> .aY _ _ rfl λi u c hu=>by simp at hu
 |v::u::vs,x::y::xs,hl,h=>by
  have:¬(v::u::vs).toArray.size=1:=by simp
  rw[dif_neg this];exact .aY _ _ (by simpa using hl) λi p q hp hq=>h i p q (by simpa using hp) hq
 |[],_::_,hl,_=>by simp at hl
 |_::_,[],hl,_=>by simp at hl
 |[_],_::_::_,hl,_=>by simp at hl
 |_::_::_,[_],hl,_=>by simp at hl
theorem acL{fn:Func}{m:Nat}{K:AV->amT aq->Prop}(hs:c8 G w a s)(h:qe P fn m K s):∃v G' r h',(results fn a.tmps).run P w= .ok v w/\bN N0 G w G' w/\m<=G'.N/\bU G' w h'/\aH G' w v r/\K r h':=by
 obtain⟨g,hg⟩:∃g:ResultVar->Sem amX,results fn a.tmps=(do let vs <-fn.results.mapM g;pure (if h:vs.size=1 then vs[0]else .tuple vs))/\(∀t,g (.tmp t)=pure (a.tmps.getD t undef))/\(∀p t,g (.cell p t)=(do loadVar t (<-asAddr (a.tmps.getD p undef)))):=
  ⟨_,rfl,λ_=>rfl,λ_ _=>rfl⟩
 obtain⟨vs,xs,h1,h2,h3,h4,h5,h6,h7⟩:=ajl hs g hg.2.1 hg.2.2 fn.results.toList h;have hr:(results fn a.tmps).run P w= .ok (if h:vs.toArray.size=1 then vs.toArray[0]else .tuple vs.toArray) w:=by
  rw[hg.1,Sem.run_bind,Array.mapM_eq_mapM_toList];have e:∀X:Sem (amT amX),(Functor.map List.toArray X:Sem _)=X>>=λl=>pure l.toArray:=λ_=>rfl;rw[e,Sem.run_bind,h1];rfl
 have hv:=afG vs xs h2 h3;exact⟨_,G.cut m,_,_,hr,pE _ _ _ _,amg _,MV hs.inv h4 h6,(hv.bz m).cut h5,h7⟩
theorem tD{f:FuncId}{fn:Func}{c:Code}{args:amT AV}{h:amT aq}{K:AV->amT aq->Prop}(m:Nat)(hf:P.funcs[f]?=some fn)(hb:fn.body=some c)(hn:(fn.name== "runtime.NumGoroutine")=false)(hm:h.length<=m)
 (hw:bB P none h.length c (Jp P fn m K) {n:=args.length+(fn.ntmps-args.length),t:=lK 0 args,h:=h}):cZ P f args h K:=by
 refine⟨by unfold Fz;rw[hf];simp [hb];simpa using hn,λG w vs hi hl hr=> ?_⟩;refine callsIn_wide (n:=8).1 (callsIn_of_wp_marks (F:=Fence.wide) hf hb trivial ?_);have hs:c8 {G with M:=w.heap.size} w {tmps:=vs++Array.replicate (fn.ntmps-vs.size) undef,defers:=[]} {n:=args.length+(fn.ntmps-args.length),t:=lK 0 args,h:=h}:=by
  refine⟨by simp [hl],λi=> ?_,hi.zm G.Z _ (λ_ h=>h) (amg _),rb.nil _ _⟩;show aH _ _ _ (bq (lK 0 args) i);rw[L0];simp only[Nat.zero_le,if_true,Nat.sub_zero];cases hx:args[i]? with
  |none=>exact .dead _
  |some x=>
   have aN:i<vs.size:=by rw[hl];exact(al5.1 hx).1
   have:(vs++Array.replicate (fn.ntmps-vs.size) undef).getD i undef=vs[i]:=by
    simp [Array.getElem?_append_left aN,amr aN]
   simp only[this,Option.getD_some];exact(hr i _ x (amr aN) hx).zm G.Z _
 refine wpIn_mono (hw.run _ w _ 8 hs (by rw[hi.len];exact amg _)) λe a' w' hn=> ?_;obtain⟨G1,s1,hE,fU,eV,hq⟩:=hn;have key:qe P fn m K s1->LeavesInM Fence.wide 8 P fn a'.tmps (λe w'=>∃v G' r h',e= .returned v/\bN G.N G w G' w'/\G.N<=G'.N/\bU G' w' h'/\aH G' w' v r/\K r h') a'.defers .returning w':=λhq=>by
  obtain⟨w2,G2,k1,k2,k3,k4⟩:=ak7 hE fU hi.z hi.gl.2 eV;obtain⟨v,G',r,h',r1,r2,r3,r4,r5,r6⟩:=acL (N0:=h.length) k4 hq;exact k1 _ _ _ _ _ ⟨v,r1,v,G',r,h',rfl,by rw[<-hi.len];exact k2.trans r2,by rw[<-hi.len];exact amn hm r3,r4,r5,r6⟩
 cases e with
 |normal=>exact key hq
 |ret=>exact key hq
 |_=>exact hq.elim
end
end Go.Proofs.YtnnapanbbbcalaaGreatDoor
namespace Go.Proofs.YtnnapanbbbcalaaGreatDoor
open Go.RowKit
section
variable {P:amW} {r:amV Nat} {N0:Nat} {s:St} {Q:Exit->St->Prop}
end
theorem cZ.frame{P:amW}{f:FuncId}{args:amT AV}{K:AV->Prop}(hc:cZ P f args [] λr h=>h=[]/\K r)(ha:args.all (AV.aG 0)=true)(hK:∀r,K r->r.aG 0=true)(h:amT aq):
 cZ P f args h λr h'=>h'=h/\K r:=by
 refine⟨hc.1,λG w vs hi hl hr=> ?_⟩;have rY:bU {G with N:=0,Z:=λb=>b<w.heap.size} w []:=⟨rfl,λb hb=>hb,hi.S,λn B hB=>by simp at hB,λm n b h1=>by simp [bR]at h1,hi.gl⟩;refine(hc.2 {G with N:=0,Z:=λb=>b<w.heap.size} w vs rY hl λi u c hu hx=> ?_).mono λe w' hp=> ?_
 ·have:=(hr i u c hu hx).cut (amv.1 ha c (ami hx));clear hc;generalize hG:({G with N:=0,Z:=λb=>b<w.heap.size}:Gh)=G0;have e:∀{v y},aH (G.cut 0) w v y->aH G0 w v y:=by
   intro v y hv;subst hG
   induction hv with
   |agg vs cs hl _ ih=>exact .agg vs cs hl ih
   |aY vs cs hl _ ih=>exact .aY vs cs hl ih
   |fn f vs cs hl _ ih=>exact .fn f vs cs hl ih
   |own n xs h hp hle hf=>exact absurd h (amx _)
   |ptr n off h=>exact absurd h (amx _)
   |row n off len cap k h hl hm=>exact absurd h (amx _)
   |mp n h=>exact absurd h (amx _)
   |cp n h=>exact absurd h (amx _)
   |vec n o len L k h=>exact absurd h (amx _)
   |dD n i j L k h=>exact absurd h (amx _)
   |hid h h1=>exact .hid h h1
   |d h=>exact .d h
   |bp xs i off b o u x hx hS hu=>exact .bp xs i off b o u x hx hS hu
   |full xs hp hf=>exact .full xs hp hf
   |dead u=>exact .dead u
  exact e this
 ·obtain⟨v,G',r,h',rfl,hE,hN,dY,hv,rfl,hk⟩:=hp;have al2:G'.N=0:=dY.len.symm;have fQ:∀b o,G'.S b o->G.S b o\/w.heap.size<=b:=λb o hs=>(hE.new b o hs).imp id Nat.le_of_not_lt;have jo:bN G.N G w {G with S:=G'.S} w':=
   ⟨hE.size,hE.S,hE.cell,λ_ _=>rfl,λ_ _=> .inl ⟨rfl,rfl⟩,hY rfl,λb hb=>hE.old b (hi.z b hb),hE.os,hE.tape,hE.output,λb o hs=>(fQ b o hs).imp id λkI hz=>by have:=hi.z b hz;omega⟩
  refine⟨v,{G with S:=G'.S},r,h,rfl,jo,amg _,⟨hi.len,λb hb=>amt (hi.z b hb) hE.size,dY.S,λn B hB=> ?_,λm n b h1 h2=>hi.inj m n b h1 h2,hi.gl.keep jo⟩,?_,rfl,hk⟩
  ·refine ep.keep (hi.lt hB) jo (amg _) ⟨rfl,rfl,rfl⟩ (λb hb=> ?_) (hi.dk n B hB);have aN:=hi.ownlt (n:=n) (b:=b) ((dJ hB).trans hb);refine⟨hE.old _ aN,λo jw hs=> ?_⟩;rcases fQ _ o hs with hs|hs
   ·exact jw hs
   ·omega
  ·have hr:=hK r hk;clear hk jo
   induction hv with
   |agg vs cs hl _ ih=>
    rw[AV.aG,mW,amv]at hr;exact .agg vs cs hl λi u c hu hc=>ih i u c hu hc (hr c (ami hc))
   |aY vs cs hl _ ih=>
    rw[AV.aG,mW,amv]at hr;exact .aY vs cs hl λi u c hu hc=>ih i u c hu hc (hr c (ami hc))
   |fn f vs cs hl _ ih=>
    rw[AV.aG,mW,amv]at hr;exact .fn f vs cs hl λi u c hu hc=>ih i u c hu hc (hr c (ami hc))
   |own n xs h hp hle hf=>simp [AV.aG,cq]at hr
   |ptr n off h=>simp [AV.aG,cq]at hr
   |row n off len cap k h hl hm=>simp [AV.aG,cq]at hr
   |mp n h=>simp [AV.aG,cq]at hr
   |cp n h=>simp [AV.aG,cq]at hr
   |vec n o len L k h=>simp [AV.aG,cq]at hr
   |dD n i j L k h=>simp [AV.aG,cq]at hr
   |hid h h1=>exact .hid h h1
   |d h=>exact .d h
   |bp xs i off b o u x hx hS hu=>exact .bp xs i off b o u x hx hS hu
   |full xs hp hf=>exact .full xs hp hf
   |dead u=>exact .dead u
def ga(P:amW)(f:FuncId)(args:amT AV)(K:AV->Prop):Prop:=cZ P f args [] λr h=>h=[]/\K r
theorem ga.use{P:amW}{f:FuncId}{args:amT AV}{r:AV}{h:amT aq}{C:AV->amT aq->Prop}(hc:ga P f args (·=r))(ha:args.all (AV.aG 0)=true)(hr:r.aG 0=true)(hC:C r h):cZ P f args h C:=
 (hc.frame ha (λ_ e=>e▸hr) h).mono λ_ _ ⟨e1,e2⟩=>by subst e1;subst e2;exact hC
def aku:amT FuncId:=[64,86,222]
def aeN:amT FuncId:=[53,54,63,64,67,92,94,95,136,156,159,237]
def oS:Operand->Bool
 | .func g=>aku.any (·==g)
 |_=>false
def cz(o:Oper):Nat:=
 match o.op with
 | .move _| .assign _| .pick .. | .nilCheck _| .fieldAddr .. | .field .. | .indexAddr .. | .index .. | .build .. | .buildSlice .. | .slice .. | .extract .. | .makeFunc .. | .binOp .. | .unOp .. | .convert .. =>0
 | .load .. | .lookup .. =>1
 | .alloc _| .box .. =>2
 | .store .. | .makeMap .. | .mapUpdate .. =>3
 | .call c=>match c.callee with
   | .builtin .len| .builtin .max| .builtin .min=>0
   | .builtin .append=>5
   | .value f=>bif oS f then 6 else 4
   |_=>9
 |_=>9
def Q8(P:amW)(g:FuncId)(args:amT AV)(h:amT aq)(C:AV->Prop):Prop:=∃r,C r/\∀e,cZ P g args (h++e) λr' h'=>r'=r/\h'=h++e
def A7(P:amW)(o:Oper)(K:St->Prop)(s:St):Prop:=
 match o.op with
 | .call c=>match c.callee with
   | .value f=>match ev s f with
     | .fn g dg=>Q8 P g (c.args.toList.map (ev s)++dg) s.h λr=>K (s.put o.dst r)
     | .hid q=>∃g as,q.app (c.args.toList.map (ev s))=some (g,as)/\Q8 P g as s.h λr=>K (s.put o.dst r)
     |_=>False
   |_=>qK P o K s
 |_=>qK P o K s
def jH(o:Oper):Bool:=
 match o.op with
 | .indexAddr .. | .fieldAddr .. | .nilCheck .. | .load .. | .store .. =>true
 | .call c=>match c.callee with
   | .builtin .len=>true
   |_=>false
 |_=>false
def GV(o:Oper):Bool:=match o.op with
 | .call c=>match c.callee with
   | .value (.tmp _)=>true
   | .value (.func g)=>aeN.any (·==g)
   |_=>false
 |_=>false
def sY(o:Oper):Bool:=match o.op with
 | .call c=>match c.callee with
   | .builtin .append=>true
   |_=>false
 |_=>false
def nf(m:Bool)(o:Oper):Bool:=m&&(GV o||sY o)
def vj(m:Bool)(P:amW)(o:Oper)(K:St->Prop)(s:St):Prop:=
 A7 P o K s\/(nf m o=true/\∃x h1,K ((s.wh h1).put o.dst x)/\∀C:AV->amT aq->Prop,C x h1->cW P o (ev s) s.h C)\/((jH o=true/\(m&&cz o==0)=false\/(m&&sY o)=true)/\HU P o K s)\/(cz o=6/\∃x e0,K ((s.wh (s.h++e0)).put o.dst x)/\∀C:AV->amT aq->Prop,C x (s.h++e0)->cW P o (ev s) s.h C)
def jv(P:amW)(o:Oper)(ρ:Operand->AV)(h:amT aq)(C:AV->amT aq->Prop):Prop:=
 cW P o ρ h C\/((jH o=true\/sY o=true)/\∃a x h' p,im P o.op ρ h a=some (x,h',p)/\p/\C x h')
def uS(m:Bool)(P:amW)(ops:Array Oper):amT Oper->(St->Prop)->St->Prop
 |[],K,s=>K s
 |o::rest,K,s=>iT ops o s (vj m P o (uS m P ops rest K) s) (uS m P ops rest K (s.put o.dst (.d (.v undef))))
abbrev SH(P:amW)(o:Oper)(K:St->Prop)(s:St):Prop:=vj false P o K s
abbrev EO(P:amW)(ops:Array Oper)(l:amT Oper)(K:St->Prop)(s:St):Prop:=uS false P ops l K s
section
variable {P:amW} {o:Oper} {ρ ρ':Operand->AV} {h:amT aq} {C:AV->amT aq->Prop}
theorem Nu(x:amV Operand)(hx:∀y∈x.toArray,ρ y=ρ' y)(d:Nat)(F:Nat->Prop):jS ρ x d F=jS ρ' x d F:=by
 cases x with
 |none=>rfl
 |some y=>simp only[jS,hx y (by simp)]
theorem aaC(hρ:∀x∈o.op.operands,ρ x=ρ' x):cW P o ρ h C=cW P o ρ' h C:=by
 obtain⟨dst,op,type,pos,after,guard⟩:=o;have Wo:∀ps:Array (Nat×Operand),(∀x∈ps.map (·.2),ρ x=ρ' x)->(ps.toList.map λp=>(p.1,ρ p.2))=(ps.toList.map λp=>(p.1,ρ' p.2)):=λps hp=>
  amA λp hm=>by rw[hp p.2 (Array.mem_map.2 ⟨p,Array.mem_toList_iff.1 hm,rfl⟩)]
 have fK:∀l:Array Operand,(∀x∈l,ρ x=ρ' x)->l.toList.map ρ=l.toList.map ρ':=λl hl=>amA λx hm=>hl x (Array.mem_toList_iff.1 hm);cases op with
 |build t ps=>simp only[cW,Wo ps λx hx=>hρ x (by simpa [Op.operands]using hx)]
 |buildSlice t n ps=>simp only[cW,Wo ps λx hx=>hρ x (by simpa [Op.operands]using hx)]
 |makeFunc fn first captured=>
  cases fn with
  |func f=>simp only[cW,fK captured λx hx=>hρ x (by simp [Op.operands,hx]),fK first λx hx=>hρ x (by simp [Op.operands,hx])]
  |_=>rfl
 |slice t x lo hi mx=>
  have e1:ρ x=ρ' x:=hρ x (by simp [Op.operands]);have e2:=λd F=>Nu (ρ:=ρ) (ρ':=ρ') lo (λy hy=>hρ y (by simp at hy;simp [Op.operands,hy])) d F;have e3:=λd F=>Nu (ρ:=ρ) (ρ':=ρ') hi (λy hy=>hρ y (by simp at hy;simp [Op.operands,hy])) d F;have e4:=λd F=>Nu (ρ:=ρ) (ρ':=ρ') mx (λy hy=>hρ y (by simp at hy;simp [Op.operands,hy])) d F;cases lo<;>cases hi<;>cases mx<;>simp only[cW,ug,e1,e2,e3,e4]
 |call c=>
  have ha:c.args.toList.map ρ=c.args.toList.map ρ':=fK c.args λx hx=>hρ x (by simp [Op.operands,Call.operands,hx]);have hm:∀x,x∈c.args.toList->ρ x=ρ' x:=λx hx=>hρ x (by simp [Op.operands,Call.operands];right;exact Array.mem_toList_iff.1 hx);cases hc:c.callee with
  |value f=>
   have hf:ρ f=ρ' f:=hρ f (by simp [Op.operands,Call.operands,hc]);simp only[cW,hc,hf,ha]
  |invoke=>simp only[cW,hc]
  |builtin b=>
   cases b with
   |len=>
    simp only[cW,hc];split
    ·rename_i x _ heq _
     rw[hm x (by rw[heq];simp)]
    ·rfl
   |append=>
    simp only[cW,hc];split
    ·rename_i x y _ _ heq _
     rw[hm x (by rw[heq];simp),hm y (by rw[heq];simp)]
    ·rfl
   |max=>simp only[cW,hc,ha]
   |min=>simp only[cW,hc,ha]
   |_=>simp only[cW,hc]
 |makeMap t r=>cases r<;>rfl
 |lookup t a b ok=>simp only[cW,pJ,hρ a (by simp [Op.operands]),hρ b (by simp [Op.operands])]
 |mapUpdate t a b c=>simp only[cW,pJ,hρ a (by simp [Op.operands]),hρ b (by simp [Op.operands]),hρ c (by simp [Op.operands])]
 |pick c a b=>simp only[cW,hρ c (by simp [Op.operands]),hρ a (by simp [Op.operands]),hρ b (by simp [Op.operands])]
 |store t a b=>simp only[cW,hρ a (by simp [Op.operands]),hρ b (by simp [Op.operands])]
 |binOp op t a b u=>simp only[cW,hρ a (by simp [Op.operands]),hρ b (by simp [Op.operands])]
 |indexAddr t a b=>simp only[cW,hρ a (by simp [Op.operands]),hρ b (by simp [Op.operands])]
 |index t a b=>simp only[cW,hρ a (by simp [Op.operands]),hρ b (by simp [Op.operands])]
 |move a|assign a|box t a|load t a|nilCheck a|fieldAddr t a f|field t a f|extract a i|unOp op t a|convert t u a=>simp only[cW,hρ a (by simp [Op.operands])]
 |_=>rfl
theorem aiR(hv:jH o=true\/sY o=true)(hρ:∀x∈o.op.operands,ρ x=ρ' x)(a:VA):im P o.op ρ h a=im P o.op ρ' h a:=by
 obtain⟨dst,op,type,pos,after,guard⟩:=o;cases op with
 |store t a b=>simp only[im,hρ a (by simp [Op.operands]),hρ b (by simp [Op.operands])]
 |indexAddr t a b=>simp only[im,hρ a (by simp [Op.operands]),hρ b (by simp [Op.operands])]
 |load t a|nilCheck a|fieldAddr t a f=>simp only[im,hρ a (by simp [Op.operands])]
 |call c=>
  have hm:∀x,x∈c.args.toList->ρ x=ρ' x:=λx hx=>hρ x (by simp [Op.operands,Call.operands];right;exact Array.mem_toList_iff.1 hx);cases hc:c.callee with
  |builtin b=>
   cases b with
   |len=>
    simp only[im,hc];split
    ·rename_i x _ heq _
     rw[hm x (by rw[heq];simp)]
    ·rfl
   |append=>
    simp only[im,hc];split
    ·rename_i x y _ _ heq _
     rw[hm x (by rw[heq];simp),hm y (by rw[heq];simp)]
    ·rfl
   |_=>simp [jH,sY,hc]at hv
  |_=>simp [jH,sY,hc]at hv
 |_=>simp [jH,sY]at hv
theorem M4(hρ:∀x∈o.op.operands,ρ x=ρ' x):jv P o ρ h C=jv P o ρ' h C:=by
 unfold jv;rw[aaC hρ];by_cases hv:jH o=true\/sY o=true
 ·simp only[aiR hv hρ]
 ·simp only[hv,false_and]
end
def ajS:aq->Bool
 | .cells _| .map _| .vec .. =>true
 |_=>false
def nw:amV aq->amV (Nat×Nat)
 |some (.vec _ k cs)=>some (k,cs.length)
 |_=>none
def ja(h h':amT aq):Prop:=∀(m:Nat)(q:Nat×Nat),nw h[m]?=some q->nw h'[m]?=some q
def iH(h h':amT aq):Prop:=∀m:Nat,nw h[m]?=nw h'[m]?
theorem iH.i{h h':amT aq}(e:iH h h'):ja h h':=λm q hq=>by rw[<-e m];exact hq
theorem iH.j{h h':amT aq}(e:iH h h'):ja h' h:=λm q hq=>by rw[e m];exact hq
theorem ja.refl(h:amT aq):ja h h:=λ_ _ e=>e
theorem ja.trans{a b c:amT aq}(x:ja a b)(y:ja b c):ja a c:=λm q e=>y m q (x m q e)
theorem ja.app(h e:amT aq):ja h (h++e):=λm q hq=>by
 by_cases hl:m<h.length
 ·rw[amf hl];exact hq
 ·rw[amB (by omega)]at hq;cases hq
theorem iH.app{h:amT aq}{B:aq}(hB:nw (some B)=none):iH h (h++[B]):=λm=>by
 by_cases hl:m<h.length
 ·rw[amf hl]
 ·rw[aml (by omega),amB (by omega:h.length<=m)];by_cases h0:m-h.length=0
  ·rw[h0];exact hB.symm
  ·rw[amB (by simp;omega)]
theorem iH.set{h:amT aq}{n:Nat}{B B':aq}(hn:h[n]?=some B)(hB:nw (some B)=nw (some B')):iH h (h.set n B'):=λm=>by
 by_cases e:n=m
 ·subst e;rw[amy (al5.1 hn).1,hn];exact hB
 ·rw[amD e]
def jb(h h':amT aq):Prop:=∀(n:Nat)(B:aq),h[n]?=some B->ajS B=true->h'[n]?=some B
theorem jb.app(h e:amT aq):jb h (h++e):=λn cs hn _=>by
 rw[amf (al5.1 hn).1];exact hn
theorem jb.refl(h:amT aq):jb h h:=λ_ _ hn _=>hn
theorem adv{P:amW}{ρ:Operand->AV}{h h1:amT aq}{T:TypeId}{m i:Operand}{ok:Bool}{x:AV}{p:Sd}(hx:pJ P (.lookup T m i ok) ρ h=some (x,h1,p)):h1=h/\∀h',jb h h'->pJ P (.lookup T m i ok) ρ h'=some (x,h',p):=by
 simp only[pJ]at hx ⊢;split at hx
 ·next k e hT=>
  split at hx
  ·next z hz=>
   split at hx
   ·next b s' hm hi=>
    split at hx
    ·next kv hn=>
     cases hc:ia P k with
     |false=>rw[hc]at hx;cases hx
     |true=>
      rw[hc]at hx;cases hx
      refine⟨rfl,λh' hh=> ?_⟩;rw[hh b _ hn rfl];simp only[cond_true]
    ·cases hx
   ·cases hx
  ·cases hx
 ·cases hx
theorem RK{h:amT aq}{n e k:Nat}{cs:amT (amT AV)}(hn:h[n]?=some (.vec e k cs)):nw h[n]?=some (k,cs.length):=by rw[hn];rfl
theorem Wq{h:amT aq}{n k l:Nat}(hq:nw h[n]?=some (k,l)):∃e cs,h[n]?=some (.vec e k cs)/\cs.length=l:=by
 unfold nw at hq;split at hq
 ·next e k' cs e1=>cases hq;exact⟨e,cs,e1,rfl⟩
 ·cases hq
theorem ahU{P:amW}{o:Oper}{ρ:Operand->AV}{h h1:amT aq}{a:VA}{x:AV}{p:Prop}(hv:jH o=true)(hk:cz o=0)(hx:im P o.op ρ h a=some (x,h1,p))(hp:p):h1=h/\∀h',ja h h'->∃p',im P o.op ρ h' a=some (x,h',p')/\p':=by
 obtain⟨dst,op,type,pos,after,guard⟩:=o;cases op with
 |indexAddr T y i=>
  simp only[im]at hx ⊢;split at hx
  ·next n o len L k z e k' i' e1 e2 e3=>
   split at hx
   ·next e4 k2 cs hn=>
    obtain⟨hb,he⟩:=mo hx;cases he
    rw[al7,beq_iff_eq,beq_iff_eq]at hb;obtain⟨rfl,rfl⟩:=hb;refine⟨rfl,λh' hh=> ?_⟩;obtain⟨e5,cs5,q1,q2⟩:=Wq (hh n _ (RK hn));simp only[q1,amO,Bool.and_self,cond_true];exact⟨_,rfl,by rw[q2];exact hp.1,hp.2⟩
   ·cases hx
  ·cases hx
 |fieldAddr T y f=>
  simp only[im]at hx ⊢;split at hx
  ·next e1 e2=>cases hx;exact⟨rfl,λh' _=>⟨_,rfl,trivial⟩⟩
  ·cases hx
 |nilCheck y=>
  simp only[im]at hx ⊢;split at hx
  ·next e1=>cases hx;exact⟨rfl,λh' _=>⟨_,rfl,trivial⟩⟩
  ·cases hx
 |call c=>
  cases hc:c.callee with
  |builtin b=>
   cases b with
   |len=>
    simp only[im,hc]at hx ⊢;split at hx
    ·split at hx
     ·next n o len L k e1=>
      split at hx
      ·next e2 k2 cs hn=>
       obtain⟨hb,he⟩:=mo hx;cases he
       rw[al7,beq_iff_eq]at hb;obtain⟨jQ,rfl⟩:=hb;refine⟨rfl,λh' hh=> ?_⟩;obtain⟨e5,cs5,q1,q2⟩:=Wq (hh n _ (RK hn));simp only[q1,jQ,amO,Bool.and_self,cond_true];exact⟨_,rfl,by rw[q2];exact hp⟩
      ·cases hx
     ·cases hx
    ·cases hx
   |_=>simp [jH,hc]at hv
  |_=>simp [jH,hc]at hv
 |load t y=>simp [cz]at hk
 |store t y z=>simp [cz]at hk
 |_=>simp [jH]at hv
theorem aeZ{P:amW}{o:Oper}{ρ:Operand->AV}{h h1:amT aq}{a:VA}{x:AV}{p:Prop}(hv:jH o=true)(hk:cz o=1)(hx:im P o.op ρ h a=some (x,h1,p))(hp:p):h1=h/\∀h',jb h h'->∃p',im P o.op ρ h' a=some (x,h',p')/\p':=by
 obtain⟨dst,op,type,pos,after,guard⟩:=o;cases op with
 |load t y=>
  simp only[im]at hx ⊢;split at hx
  ·next n i j L k c e1=>
   split at hx
   ·next e2 k' cs z hn hz=>
    obtain⟨hb,he⟩:=mo hx;cases he
    refine⟨rfl,λh' hh=> ?_⟩;simp only[hh n _ hn rfl,hz,hb,cond_true];exact⟨_,rfl,hp⟩
   ·cases hx
  ·cases hx
 |indexAddr T y i=>simp [cz]at hk
 |fieldAddr T y f=>simp [cz]at hk
 |nilCheck y=>simp [cz]at hk
 |call c=>
  cases hc:c.callee with
  |builtin b=>cases b<;>simp [cz,hc]at hk
  |value f=>cases l6:oS f<;>simp [cz,hc,l6]at hk
  |invoke=>simp [cz,hc]at hk
 |store t y z=>simp [cz]at hk
 |_=>simp [jH]at hv
theorem akX{P:amW}{o:Oper}{ρ:Operand->AV}{h h1:amT aq}{a:VA}{x:AV}{p:Prop}(hv:jH o=true)(hk:cz o=3)(hx:im P o.op ρ h a=some (x,h1,p))(hp:p):iH h h1:=by
 obtain⟨dst,op,type,pos,after,guard⟩:=o;cases op with
 |store t y z=>
  simp only[im]at hx;split at hx
  ·next n i j L k c cD e1=>
   split at hx
   ·next e k' cs q hn hz=>
    obtain⟨hb,he⟩:=mo hx;cases he
    simp only[al7,beq_iff_eq]at hb;refine iH.set hn ?_;simp only[nw,List.length_set,hp.2.2,hb.1.1.1.1]
   ·cases hx
  ·cases hx
 |load t y=>simp [cz]at hk
 |indexAddr T y i=>simp [cz]at hk
 |fieldAddr T y f=>simp [cz]at hk
 |nilCheck y=>simp [cz]at hk
 |call c=>
  cases hc:c.callee with
  |builtin b=>cases b<;>simp [cz,hc]at hk
  |value f=>cases l6:oS f<;>simp [cz,hc,l6]at hk
  |invoke=>simp [cz,hc]at hk
 |_=>simp [jH]at hv
def jG(m:Bool)(o:Oper):Nat:=bif nf m o then 7 else cz o
def ew(m:Bool)(P:amW)(o:Oper)(ρ:Operand->AV)(h:amT aq)(x:AV)(h1:amT aq):Prop:=
 match jG m o with
 |0=>h1=h/\∀h',(m=true\/ja h h')->∀C:AV->amT aq->Prop,C x h'->jv P o ρ h' C
 |1=>h1=h/\∀h',jb h h'->∀C:AV->amT aq->Prop,C x h'->jv P o ρ h' C
 |2=>∃B,nw (some B)=none/\x= .ptr h.length 0/\h1=h++[B]/\∀h'(C:AV->amT aq->Prop),C (.ptr h'.length 0) (h'++[B])->jv P o ρ h' C
 |3=>iH h h1/\∀C:AV->amT aq->Prop,C x h1->jv P o ρ h C
 |4=>h1=h/\∀e(C:AV->amT aq->Prop),C x (h++e)->jv P o ρ (h++e) C
 |5=>(jb h h1/\jb h1 h/\iH h h1)/\∀C:AV->amT aq->Prop,C x h1->jv P o ρ h C
 |6=>∃e0,h1=h++e0/\∀C:AV->amT aq->Prop,C x h1->jv P o ρ h C
 |7=>∀C:AV->amT aq->Prop,C x h1->jv P o ρ h C
 |_=>False
section
variable {P:amW} {o:Oper} {ρ ρ':Operand->AV} {h:amT aq} {C:AV->amT aq->Prop}
theorem aaI{p:AV}{K:amT AV->Nat->Prop}(hp:sR h p K):∃cs off,K cs off/\∀h',jb h h'->∀K':amT AV->Nat->Prop,K' cs off->sR h' p K':=by
 unfold sR at hp ⊢;split at hp
 ·rename_i n off
  split at hp
  ·rename_i cs gO
   refine⟨cs,off,hp,λh' hh K' hk=> ?_⟩;rw[hh n _ gO rfl];exact hk
  ·exact hp.elim
 ·rename_i xs i off
  split at hp
  ·rename_i cs gO
   refine⟨_,off,hp,λh' _ K' hk=> ?_⟩;exact hk
  ·exact hp.elim
 ·exact hp.elim
theorem ab0{t:Nat}{p:AV}{K:AV->Prop}(hp:n8 P t h p K):∃x,K x/\∀h',jb h h'->∀K':AV->Prop,K' x->n8 P t h' p K':=by
 unfold n8 at hp ⊢;obtain⟨cs,off,h1,h2⟩:=aaI hp;split at h1
 ·rw[bV]at h1;refine⟨_,h1.2,λh' hh K' ic=>h2 h' hh _ ?_⟩;exact bV.2 ⟨h1.1,ic⟩
 ·split at h1
  ·rename_i c hc
   refine⟨c,h1,λh' hh K' ic=>h2 h' hh _ ?_⟩;simp only[hc];exact ic
  ·exact h1.elim
 ·exact h1.elim
theorem tJ{x:amV Operand}{d:Nat}{F:Nat->Prop}(hx:jS ρ x d F):∃m,F m/\∀F':Nat->Prop,F' m->jS ρ x d F':=by
 cases x with
 |none=>exact⟨d,hx,λ_ h=>h⟩
 |some y=>
  simp only[jS]at hx;split at hx
  ·rename_i z hz
   exact⟨_,hx.2,λF' hF=>by simp only[jS,hz];exact⟨hx.1,hF⟩⟩
  ·exact hx.elim
theorem acE(hk:cz o=0)(hc:cW P o ρ h C):∃x,C x h/\∀h'(C':AV->amT aq->Prop),C' x h'->cW P o ρ h' C':=by
 have uc:∀(F:(AV->Prop)->Prop),(∀K,F K->∃x,K x/\∀K',K' x->F K')->F (λx=>C x h)->(∀h' C',cW P o ρ h' C'=F (λx=>C' x h'))->∃x,C x h/\∀h'(C':AV->amT aq->Prop),C' x h'->cW P o ρ h' C':=λF hF h0 he=>by
  obtain⟨x,h1,h2⟩:=hF _ h0;exact⟨x,h1,λh' C' dH=>by rw[he];exact h2 _ dH⟩
 obtain⟨dst,op,type,pos,after,guard⟩:=o;cases op with
 |move a=>exact⟨ρ a,hc,λ_ _ h=>h⟩
 |assign a=>exact⟨ρ a,hc,λ_ _ h=>h⟩
 |pick c a b=>
  simp only[cW]at hc;split at hc
  ·rename_i t ht
   cases t with
   |true=>exact⟨ρ a,hc.1 rfl,λh' C' dH=>by simp only[cW,ht];exact⟨λ_=>dH,λe=>by cases e⟩⟩
   |false=>exact⟨ρ b,hc.2 rfl,λh' C' dH=>by simp only[cW,ht];exact⟨λe=>(by cases e),λ_=>dH⟩⟩
  ·exact hc.elim
 |nilCheck a=>
  simp only[cW]at hc;split at hc
  ·rename_i m off e;exact⟨_,hc,λh' C' dH=>by simp only[cW,e];exact dH⟩
  ·rename_i xs i off e;exact⟨_,hc,λh' C' dH=>by simp only[cW,e];exact dH⟩
  ·rename_i f cs e;exact⟨_,hc,λh' C' dH=>by simp only[cW,e];exact dH⟩
  ·exact hc.elim
 |fieldAddr t a f=>
  simp only[cW]at hc;split at hc
  ·rename_i fo k g hf
   split at hc
   ·rename_i m off e;exact⟨_,hc,λh' C' dH=>by simp only[cW,hf,e];exact dH⟩
   ·rename_i xs i off e;exact⟨_,hc,λh' C' dH=>by simp only[cW,hf,e];exact dH⟩
   ·exact hc.elim
  ·exact hc.elim
 |field t a f=>
  refine uc (vr P t (ρ a) f) (λK hK=> ?_) hc (λ_ _=>rfl);unfold vr at hK ⊢;split at hK
  ·rw[bV]at hK;exact⟨_,hK.2,λK' eN=>bV.2 ⟨hK.1,eN⟩⟩
  ·split at hK
   ·rename_i c fV;exact⟨c,hK,λK' eN=>eN⟩
   ·exact hK.elim
  ·exact hK.elim
 |indexAddr t a b=>
  refine uc (rZ P t (ρ a) (ρ b)) (λK hK=> ?_) hc (λ_ _=>rfl);unfold rZ at hK ⊢;split at hK
  ·rename_i e k hT
   split at hK
   ·rename_i n off len cap k'
    split at hK
    ·rename_i z hz
     rw[bV]at hK;obtain⟨h1,h2,h3,h4⟩:=hK;exact⟨_,h4,λK' eN=>bV.2 ⟨h1,h2,h3,eN⟩⟩
    ·exact hK.elim
   ·split at hK
    ·rename_i xs z lH hz
     obtain⟨h0,hK⟩:=hK;split at hK
     ·rename_i c fV
      exact⟨_,hK.2,λK' eN=>⟨h0,hK.1,eN⟩⟩
     ·exact hK.elim
    ·exact hK.elim
  ·split at hK
   ·rename_i n e k b' off z hT hz
    obtain⟨h1,h2,h3⟩:=hK;exact⟨_,h3,λK' eN=>⟨h1,h2,eN⟩⟩
   ·rename_i n e k xs i' off z hT hz
    rw[bV]at hK;obtain⟨h0,h1,h2,h3⟩:=hK;split at h3
    ·rename_i c fV
     split at h3
     ·rename_i d hd
      exact⟨_,h3,λK' eN=>bV.2 ⟨h0,h1,h2,eN⟩⟩
     ·exact h3.elim
    ·exact h3.elim
   ·exact hK.elim
 |index t a b=>
  simp only[cW]at hc;split at hc
  ·rename_i bb z e1 e2
   rw[bV]at hc;obtain⟨h1,h2,h3⟩:=hc;split at h3
   ·rename_i c fV
    exact⟨_,h3,λh' C' dH=>by simp only[cW,e1,e2];exact bV.2 ⟨h1,h2,by simp only[fV];exact dH⟩⟩
   ·exact h3.elim
  ·exact hc.elim
 |build t ps=>
  refine uc (wc P t (ps.toList.map λp:Nat×Operand=>(p.1,ρ p.2))) (λK hK=> ?_) hc (λ_ _=>rfl);unfold wc at hK ⊢;split at hK
  ·split at hK
   ·rename_i cs gO
    rw[bV]at hK;exact⟨_,hK.2,λK' eN=>bV.2 ⟨hK.1,eN⟩⟩
   ·exact hK.elim
  ·exact hK.elim
 |buildSlice t n ps=>
  refine uc (vU P t n (ps.toList.map λp:Nat×Operand=>(p.1,ρ p.2))) (λK hK=> ?_) hc (λ_ _=>rfl);unfold vU at hK ⊢;split at hK
  ·split at hK
   ·split at hK
    ·rename_i cs gO
     split at hK
     ·rename_i ds qY
      rw[bV]at hK;exact⟨_,hK.2,λK' eN=>bV.2 ⟨hK.1,eN⟩⟩
     ·exact hK.elim
    ·exact hK.elim
   ·exact hK.elim
  ·exact hK.elim
 |slice t a lo hi mx=>
  refine uc (ug P t ρ (ρ a) lo hi mx) (λK hK=> ?_) hc (λ_ _=>rfl);unfold ug at hK ⊢;split at hK
  ·split at hK
   ·rw[bV]at hK;obtain⟨h0,hK⟩:=hK;obtain⟨m1,hK,j1⟩:=tJ hK;obtain⟨h1,hK⟩:=hK;obtain⟨m2,hK,j2⟩:=tJ hK;obtain⟨h2,hK⟩:=hK;exact⟨_,hK,λK' eN=>bV.2 ⟨h0,j1 _ ⟨h1,j2 _ ⟨h2,eN⟩⟩⟩⟩
   ·split at hK
    ·rw[bV]at hK;obtain⟨h0,hK⟩:=hK;obtain⟨m1,hK,j1⟩:=tJ hK;rw[bV]at hK;obtain⟨h1,hK⟩:=hK;obtain⟨m2,hK,j2⟩:=tJ hK;rw[bV]at hK;obtain⟨h2,hK⟩:=hK;exact⟨_,hK,λK' eN=>by rw[bV];exact⟨h0,j1 _ (by rw[bV];exact⟨h1,j2 _ (by rw[bV];exact⟨h2,eN⟩)⟩)⟩⟩
    ·exact hK.elim
   ·split at hK
    ·obtain⟨h0,hK⟩:=hK;obtain⟨m1,hK,j1⟩:=tJ hK;obtain⟨h1,hK⟩:=hK;obtain⟨m2,hK,j2⟩:=tJ hK;obtain⟨h2,hK⟩:=hK;exact⟨_,hK,λK' eN=>⟨h0,j1 _ ⟨h1,j2 _ ⟨h2,eN⟩⟩⟩⟩
    ·exact hK.elim
  ·split at hK
   ·split at hK
    ·obtain⟨h0,hK⟩:=hK;obtain⟨m1,hK,j1⟩:=tJ hK;obtain⟨h1,hK⟩:=hK;obtain⟨m2,hK,j2⟩:=tJ hK;obtain⟨h2,hK⟩:=hK;exact⟨_,hK,λK' eN=>⟨h0,j1 _ ⟨h1,j2 _ ⟨h2,eN⟩⟩⟩⟩
    ·exact hK.elim
   ·exact hK.elim
 |extract a i=>
  simp only[cW]at hc;split at hc
  ·rename_i cs e
   split at hc
   ·rename_i c fV;exact⟨c,hc,λh' C' dH=>by simp only[cW,e,fV];exact dH⟩
   ·exact hc.elim
  ·exact hc.elim
 |makeFunc fn first dg=>
  cases fn with
  |func f=>
   simp only[cW]at hc;split at hc
   ·rename_i e;exact⟨_,hc,λh' C' dH=>by simp only[cW,e];exact dH⟩
   ·exact hc.elim
  |_=>exact hc.elim
 |binOp op t a b u=>
  refine uc (wX P t op (ρ a) (ρ b)) (λK hK=> ?_) hc (λ_ _=>rfl);unfold wX at hK ⊢;split at hK
  ·split at hK
   ·rw[bV]at hK;exact⟨_,hK.2.2,λK' eN=>bV.2 ⟨hK.1,hK.2.1,eN⟩⟩
   ·split at hK
    ·exact⟨_,hK.2,λK' eN=>⟨hK.1,eN⟩⟩
    ·split at hK
     ·rw[bV]at hK;exact⟨_,hK.2,λK' eN=>bV.2 ⟨hK.1,eN⟩⟩
     ·exact hK.elim
  ·split at hK
   ·exact⟨_,hK,λK' eN=>eN⟩
   ·split at hK
    ·exact⟨_,hK.2,λK' eN=>⟨hK.1,eN⟩⟩
    ·exact hK.elim
  ·split at hK
   ·rw[bV]at hK;exact⟨_,hK.2,λK' eN=>bV.2 ⟨hK.1,eN⟩⟩
   ·exact hK.elim
  ·split at hK
   ·split at hK
    ·exact⟨_,hK,λK' eN=>eN⟩
    ·exact hK.elim
   ·exact hK.elim
  ·exact hK.elim
 |unOp op t a=>
  refine uc (xe op (ρ a)) (λK hK=> ?_) hc (λ_ _=>rfl);unfold xe at hK ⊢;split at hK
  ·split at hK
   ·exact⟨_,hK,λK' eN=>eN⟩
   ·exact hK.elim
  ·exact hK.elim
 |convert t u a=>
  refine uc (wB P t u (ρ a)) (λK hK=> ?_) hc (λ_ _=>rfl);unfold wB at hK ⊢;split at hK
  ·split at hK
   ·exact⟨_,hK,λK' eN=>eN⟩
   ·exact hK.elim
  ·rw[bV]at hK;exact⟨_,hK.2,λK' eN=>bV.2 ⟨hK.1,eN⟩⟩
  ·split at hK
   ·rw[bV]at hK;obtain⟨h1,ns,h2,h3⟩:=hK;exact⟨_,h3,λK' eN=>bV.2 ⟨h1,ns,h2,eN⟩⟩
   ·exact hK.elim
 |call c=>
  simp only[cz]at hk;cases fm:c.callee with
  |value f=>cases l6:oS f<;>simp [fm,l6]at hk
  |invoke=>simp [fm]at hk
  |builtin b=>
   cases b with
   |len=>
    simp only[cW,fm]at hc;split at hc
    ·rename_i x T e1 e2
     have key:∀F:Nat->Prop,rJ P T (ρ x) F->∃m,F m/\∀F':Nat->Prop,F' m->rJ P T (ρ x) F':=λF hF=>by
      unfold rJ at hF ⊢;split at hF
      ·rw[bV]at hF;exact⟨_,hF.2,λF' lf=>bV.2 ⟨hF.1,lf⟩⟩
      ·rw[bV]at hF;exact⟨_,hF.2,λF' lf=>bV.2 ⟨hF.1,lf⟩⟩
      ·split at hF
       ·rw[bV]at hF;exact⟨_,hF.2,λF' lf=>bV.2 ⟨hF.1,lf⟩⟩
       ·exact hF.elim
     obtain⟨m,h1,h2⟩:=key _ hc;exact⟨_,h1,λh' C' dH=>by simp only[cW,fm,e1,e2];exact h2 _ dH⟩
    ·exact hc.elim
   |max=>
    simp only[cW,fm]at hc;split at hc
    ·rename_i e1
     exact⟨_,hc,λh' C' dH=>by simp only[cW,fm,e1];exact dH⟩
    ·exact hc.elim
   |min=>
    simp only[cW,fm]at hc;split at hc
    ·rename_i e1
     exact⟨_,hc,λh' C' dH=>by simp only[cW,fm,e1];exact dH⟩
    ·exact hc.elim
   |_=>simp [fm]at hk
 |_=>simp [cz]at hk
theorem akK(hk:cz o=2)(hc:cW P o ρ h C):∃B,nw (some B)=none/\C (.ptr h.length 0) (h++[B])/\∀h'(C':AV->amT aq->Prop),C' (.ptr h'.length 0) (h'++[B])->cW P o ρ h' C':=by
 obtain⟨dst,op,type,pos,after,guard⟩:=o;cases op with
 |alloc e=>
  simp only[cW]at hc;split at hc
  ·rename_i z hz;exact⟨_,rfl,hc,λh' C' dH=>by simp only[cW,hz];exact dH⟩
  ·exact hc.elim
 |box e x=>
  simp only[cW]at hc;rw[bV]at hc;exact⟨_,rfl,hc.2,λh' C' dH=>by simp only[cW];rw[bV];exact⟨hc.1,dH⟩⟩
 |call c=>
  simp only[cz]at hk;cases fm:c.callee with
  |value f=>cases l6:oS f<;>simp [fm,l6]at hk
  |invoke=>simp [fm]at hk
  |builtin b=>cases b<;>simp [fm]at hk
 |_=>simp [cz]at hk
theorem aaG(hk:cz o=3)(hc:cW P o ρ h C):∃x h1,C x h1/\iH h h1/\∀C':AV->amT aq->Prop,C' x h1->cW P o ρ h C':=by
 obtain⟨dst,op,type,pos,after,guard⟩:=o;cases op with
 |store t a b=>
  simp only[cW]at hc;have key:∀F:amT aq->Prop,xq P t h (ρ a) (ρ b) F->∃h1,F h1/\iH h h1/\∀F':amT aq->Prop,F' h1->xq P t h (ρ a) (ρ b) F':=λF hF=>by
   unfold xq at hF ⊢;split at hF
   ·split at hF
    ·next hn=>
     split at hF
     ·rw[bV]at hF;exact⟨_,hF.2,iH.set hn rfl,λF' lf=>bV.2 ⟨hF.1,lf⟩⟩
     ·exact hF.elim
    ·exact hF.elim
   ·exact hF.elim
  obtain⟨h1,k1,kv,k2⟩:=key _ hc;exact⟨_,h1,k1,kv,λC' dH=>by simp only[cW];exact k2 _ dH⟩
 |makeMap t r=>
  simp only[cW]at hc;split at hc
  ·rename_i x h' p hx
   refine⟨x,h',hc.2,?_,λC' dH=>by simp only[cW,hx];exact⟨hc.1,dH⟩⟩;unfold pJ at hx;cases r with
   |none=>
    simp only at hx;split at hx
    ·cases hx;exact iH.app rfl
    ·cases hx
   |some r=>cases hx
  ·exact hc.elim
 |mapUpdate t a b c=>
  simp only[cW]at hc;split at hc
  ·rename_i x h' p hx
   refine⟨x,h',hc.2,?_,λC' dH=>by simp only[cW,hx];exact⟨hc.1,dH⟩⟩;unfold pJ at hx;simp only at hx;split at hx
   ·split at hx
    ·split at hx
     ·next hn=>
      obtain⟨hb,he⟩:=mo hx;cases he
      exact iH.set hn rfl
     ·cases hx
    ·cases hx
   ·cases hx
  ·exact hc.elim
 |call c=>
  simp only[cz]at hk;cases fm:c.callee with
  |value f=>cases l6:oS f<;>simp [fm,l6]at hk
  |invoke=>simp [fm]at hk
  |builtin b=>cases b<;>simp [fm]at hk
 |_=>simp [cz]at hk
theorem Um{n:Nat}{e:TypeId}{k l e' k' l':Nat}(hn:h[n]?=some (.front e' k' l')):jb h (h.set n (.front e k l))/\jb (h.set n (.front e k l)) h:=by
 refine⟨λm cs hm hc=> ?_,λm cs hm hc=> ?_⟩
 ·have:n≠m:=λe=>by subst e;rw[hn]at hm;cases hm;cases hc
  rw[amD this];exact hm
 ·by_cases e:n=m
  ·subst e;rw[amy (al5.1 hn).1]at hm;cases hm;cases hc
  ·rw[amD e]at hm;exact hm
theorem F4{e:TypeId}{k l:Nat}:jb h (h++[.front e k l])/\jb (h++[.front e k l]) h:=by
 refine⟨jb.app _ _,λm cs hm hc=> ?_⟩;by_cases hl:m<h.length
 ·rw[amf hl]at hm;exact hm
 ·rw[aml (by omega)]at hm;by_cases h0:m-h.length=0
  ·rw[h0]at hm;cases hm;cases hc
  ·rw[amB (by simp;omega)]at hm;cases hm
theorem ahr(hk:cz o=5)(hc:cW P o ρ h C):∃x h1,C x h1/\(jb h h1/\jb h1 h/\iH h h1)/\∀C':AV->amT aq->Prop,C' x h1->cW P o ρ h C':=by
 obtain⟨dst,op,type,pos,after,guard⟩:=o;cases op with
 |call c=>
  simp only[cz]at hk;cases fm:c.callee with
  |value f=>cases l6:oS f<;>simp [fm,l6]at hk
  |invoke=>simp [fm]at hk
  |builtin b=>
   cases b with
   |append=>
    simp only[cW,fm]at hc;split at hc
    ·rename_i x y T U e1 e2
     rw[bV]at hc;have ahO:∀(k:Nat)(y:AV)(F:amT (amT D)->Prop),tB h k y F->∃ys,F ys/\∀F':amT (amT D)->Prop,F' ys->tB h k y F':=λk y F hF=>by
       unfold tB at hF ⊢;split at hF
       ·split at hF
        ·split at hF
         ·rw[bV]at hF;exact⟨_,hF.2,λF' lf=>bV.2 ⟨hF.1,lf⟩⟩
         ·exact hF.elim
        ·exact hF.elim
       ·split at hF
        ·exact⟨_,hF.2,λF' lf=>⟨hF.1,lf⟩⟩
        ·exact hF.elim
     have key:∀F:AV->amT aq->Prop,uo P T h (ρ x) (ρ y) F->∃v h1,F v h1/\(jb h h1/\jb h1 h/\iH h h1)/\∀F':AV->amT aq->Prop,F' v h1->uo P T h (ρ x) (ρ y) F':=λF hF=>by
      unfold uo at hF ⊢;split at hF
      ·split at hF
       ·rw[bV]at hF;obtain⟨h0,hF⟩:=hF;obtain⟨ys,hF,hs⟩:=ahO _ _ _ hF;split at hF
        ·split at hF
         ·rename_i hn
          rw[bV]at hF;obtain⟨g1,g2,g3,g4,g5,g6⟩:=hF;exact⟨_,_,g6,⟨(Um hn).1,(Um hn).2,iH.set hn rfl⟩,λF' lf=>bV.2 ⟨h0,hs _ (bV.2 ⟨g1,g2,g3,g4,g5,lf⟩)⟩⟩
         ·exact hF.elim
        ·obtain⟨g4,g5,g6⟩:=hF;exact⟨_,_,g6,⟨F4.1,F4.2,iH.app rfl⟩,λF' lf=>bV.2 ⟨h0,hs _ ⟨g4,g5,lf⟩⟩⟩
        ·obtain⟨g3,g4,g5,g6⟩:=hF;exact⟨_,_,g6,⟨F4.1,F4.2,iH.app rfl⟩,λF' lf=>bV.2 ⟨h0,hs _ ⟨g3,g4,g5,lf⟩⟩⟩
        ·exact hF.elim
       ·exact hF.elim
      ·exact hF.elim
     obtain⟨v,h1,k1,c1,k2⟩:=key _ hc.2;exact⟨v,h1,k1,c1,λC' dH=>by simp only[cW,fm,e1,e2];rw[bV];exact⟨hc.1,k2 _ dH⟩⟩
    ·exact hc.elim
   |_=>simp [fm]at hk
 |_=>simp [cz]at hk
theorem Zh{m:Bool}(kg:nf m o=false){s:St}{K:St->Prop}(hd:A7 P o K s):∃x h1,ew m P o (ev s) s.h x h1/\K ((s.wh h1).put o.dst x):=by
 have km:jG m o=cz o:=by unfold jG;rw[kg];rfl
 have plain:qK P o K s->cz o≠4->cz o≠6->∃x h1,ew m P o (ev s) s.h x h1/\K ((s.wh h1).put o.dst x):=λha Q6 Ef=>by
  unfold qK at ha;by_cases h0:cz o=0
  ·obtain⟨x,h1,h2⟩:=acE h0 ha;exact⟨x,s.h,by unfold ew;rw[km,h0];exact⟨rfl,λh' _ C' dH=> .inl (h2 h' C' dH)⟩,h1⟩
  ·by_cases h1:cz o=1
   ·obtain⟨dst,op,type,pos,after,guard⟩:=o;cases op with
    |load t a=>
     simp only[cW]at ha;obtain⟨x,k1,k2⟩:=ab0 ha;exact⟨x,s.h,by unfold ew;rw[km,h1];exact⟨rfl,λh' hh C' dH=> .inl (by simp only[cW];exact k2 h' hh _ dH)⟩,k1⟩
    |lookup t a b ok=>
     simp only[cW]at ha;split at ha
     ·rename_i x h' p hx
      obtain⟨rfl,k2⟩:=adv hx;exact⟨x,s.h,by unfold ew;rw[km,h1];exact⟨rfl,λh' hh C' dH=> .inl (by simp only[cW,k2 h' hh];exact⟨ha.1,dH⟩)⟩,ha.2⟩
     ·exact ha.elim
    |call c=>
     simp only[cz]at h1;cases fm:c.callee with
     |value f=>cases l6:oS f<;>simp [fm,l6]at h1
     |invoke=>simp [fm]at h1
     |builtin b=>cases b<;>simp [fm]at h1
    |_=>simp [cz]at h1
   ·by_cases h2:cz o=2
    ·obtain⟨B,kB,k1,k2⟩:=akK h2 ha;exact⟨_,_,by unfold ew;rw[km,h2];exact⟨B,kB,rfl,rfl,λh' C' dH=> .inl (k2 h' C' dH)⟩,k1⟩
    ·by_cases h3:cz o=3
     ·obtain⟨x,pc,k1,kv,k2⟩:=aaG h3 ha;exact⟨x,pc,by unfold ew;rw[km,h3];exact⟨kv,λC' dH=> .inl (k2 C' dH)⟩,k1⟩
     ·by_cases h5:cz o=5
      ·obtain⟨x,pc,k1,c1,k2⟩:=ahr h5 ha;exact⟨x,pc,by unfold ew;rw[km,h5];exact⟨c1,λC' dH=> .inl (k2 C' dH)⟩,k1⟩
      exfalso;obtain⟨dst,op,type,pos,after,guard⟩:=o;cases op with
      |call c=>
       simp only[cz]at h0 h3 Q6 Ef h5;simp only[cW]at ha;cases fm:c.callee with
       |value f=>cases l6:oS f<;>simp [fm,l6]at Q6 Ef
       |invoke=>simp only[fm]at ha
       |builtin b=>cases b<;>simp only[fm]at ha h0 h3 h5<;>first|exact ha|exact absurd rfl h0|exact absurd rfl h3|exact absurd rfl h5|exact h3 trivial|exact h0 trivial|exact h5 trivial
      |_=>first|exact absurd rfl h0|exact absurd rfl h1|exact absurd rfl h2|exact absurd rfl h3|exact ha
 unfold A7 at hd;split at hd
 ·rename_i c iP
  split at hd
  ·rename_i f fm
   have fin:∀x:AV,(∀e,∀C':AV->amT aq->Prop,C' x (s.h++e)->cW P o (ev s) (s.h++e) C')->ew m P o (ev s) s.h x s.h:=λx hx=>by
    have hk:cz o=4\/cz o=6:=by
     unfold cz;simp only[iP,fm];cases oS f<;>simp
    unfold ew;rw[km];rcases hk with hk|hk
    ·rw[hk];exact⟨rfl,λe C' dH=> .inl (hx e C' dH)⟩
    ·rw[hk];refine⟨[],(amq _).symm,λC' dH=> .inl ?_⟩;have:=hx [] C' (by rw[amq];exact dH)
     rwa [amq]at this
   split at hd
   ·rename_i g dg hg
    obtain⟨x,hK,jB⟩:=hd;refine⟨x,s.h,fin x λe C' dH=> ?_,hK⟩;unfold cW;simp only[iP,fm,hg];exact(jB e).mono λr' h' ⟨e1,e2⟩=>by subst e1;subst e2;exact dH
   ·rename_i q hg
    obtain⟨g,as,eq,x,hK,jB⟩:=hd;refine⟨x,s.h,fin x λe C' dH=> ?_,hK⟩;unfold cW;simp only[iP,fm,hg];exact⟨g,as,eq,(jB e).mono λr' h' ⟨e1,e2⟩=>by subst e1;subst e2;exact dH⟩
   ·exact hd.elim
  ·rename_i fm
   exact plain hd (by
    unfold cz;simp only[iP];cases hc:c.callee with
    |value f=>exact absurd hc (fm f)
    |invoke=>simp
    |builtin b=>cases b<;>simp) (by
    unfold cz;simp only[iP];cases hc:c.callee with
    |value f=>exact absurd hc (fm f)
    |invoke=>simp
    |builtin b=>cases b<;>simp)
 ·rename_i iP
  exact plain hd (by
   unfold cz;split<;>first|(rename_i c hc;exact(iP c hc).elim)|simp) (by
   unfold cz;split<;>first|(rename_i c hc;exact(iP c hc).elim)|simp)
theorem XK{m:Bool}{h1:amT aq}{x:AV}(h0:ew m P o ρ h x h1):∀C:AV->amT aq->Prop,C x h1->jv P o ρ h C:=λC hC=>by
 unfold ew at h0;split at h0
 ·obtain⟨e,h0⟩:=h0;subst e;exact h0 _ (.inr (ja.refl _)) _ hC
 ·obtain⟨e,h0⟩:=h0;subst e;exact h0 _ (jb.refl _) _ hC
 ·obtain⟨B,_,rfl,rfl,h0⟩:=h0;exact h0 _ _ hC
 ·exact h0.2 _ hC
 ·obtain⟨e,h0⟩:=h0;subst e;have:=h0 [] C (by rw[amq];exact hC)
  rwa [amq]at this
 ·exact h0.2 _ hC
 ·obtain⟨e0,_,h0⟩:=h0;exact h0 _ hC
 ·exact h0 _ hC
 ·exact h0.elim
theorem GP{m:Bool}{s:St}{K:St->Prop}(hd:vj m P o K s):∃x h1,ew m P o (ev s) s.h x h1/\K ((s.wh h1).put o.dst x):=by
 cases kg:nf m o with
 |true=>
  have k7:jG m o=7:=by unfold jG;rw[kg];rfl
  rcases hd with hd|⟨_,x,h1,hK,hc⟩|⟨hv,a,x,h',p,hx,hp,hK⟩|⟨_,x,e0,hK,hc⟩
  ·obtain⟨x,h1,h2,hK⟩:=Zh (m:=false) rfl hd;refine⟨x,h1,?_,hK⟩;have:=XK h2;unfold ew;rw[k7];exact this
  ·exact⟨x,h1,by unfold ew;rw[k7];exact λC hC=> .inl (hc C hC),hK⟩
  ·exact⟨x,h',by unfold ew;rw[k7];exact λC hC=> .inr ⟨hv.imp (·.1) (λe=>(al7 _ _▸e).2),a,x,h',p,hx,hp,hC⟩,hK⟩
  ·exact⟨x,_,by unfold ew;rw[k7];exact λC hC=> .inl (hc C hC),hK⟩
 |false=>
 have km:jG m o=cz o:=by unfold jG;rw[kg];rfl
 rcases hd with hd|⟨hb,_⟩|⟨hv,a,x,h',p,hx,hp,hK⟩|⟨hk,x,e0,hK,hc⟩
 ·exact Zh kg hd
 ·rw[kg]at hb;cases hb
 ·obtain⟨hv,YD⟩:jH o=true/\(m&&cz o==0)=false:=hv.resolve_right λe=>by
   rw[al7]at e;unfold nf at kg;rw[e.1,e.2]at kg;simp at kg
  have hk:cz o=0\/cz o=1\/cz o=3:=by
   unfold jH at hv;unfold cz;split at hv
   all_goals first|(next e=>simp only[e];simp)|skip
   ·next c e=>
    split at hv
    ·next e2=>simp only[e,e2];simp
    ·cases hv
   ·cases hv
  rcases hk with hk|hk|hk
  ·obtain⟨rfl,h2⟩:=ahU hv hk hx hp;refine⟨x,_,?_,hK⟩;unfold ew;rw[km,hk];exact⟨rfl,λh' hh C hC=> .inr ⟨.inl hv,a,x,h',by obtain⟨p',q1,q2⟩:=h2 h' (hh.resolve_left λe=>by rw[e,hk]at YD;cases YD);exact⟨p',q1,q2,hC⟩⟩⟩
  ·obtain⟨rfl,h2⟩:=aeZ hv hk hx hp;refine⟨x,_,?_,hK⟩;unfold ew;rw[km,hk];exact⟨rfl,λh' hh C hC=> .inr ⟨.inl hv,a,x,h',by obtain⟨p',q1,q2⟩:=h2 h' hh;exact⟨p',q1,q2,hC⟩⟩⟩
  ·refine⟨x,h',?_,hK⟩;unfold ew;rw[km,hk];exact⟨akX hv hk hx hp,λC hC=> .inr ⟨.inl hv,a,x,h',p,hx,hp,hC⟩⟩
 ·refine⟨x,_,?_,hK⟩;unfold ew;rw[km,hk];exact⟨e0,rfl,λC hC=> .inl (hc C hC)⟩
end
structure jh(s s':St):Prop where
 n:s.n=s'.n
 h:s.h=s'.h
 t:∀i,bq s.t i=bq s'.t i
theorem jh.refl(s:St):jh s s:=⟨rfl,rfl,λ_=>rfl⟩
theorem jh.symm{s s':St}(h:jh s s'):jh s' s:=⟨h.n.symm,h.h.symm,λi=>(h.t i).symm⟩
theorem jh.trans{a b c:St}(h:jh a b)(k:jh b c):jh a c:=⟨h.n.trans k.n,h.h.trans k.h,λi=>(h.t i).trans (k.t i)⟩
theorem sS(s:St)(d:amV Nat)(x:AV)(i:Nat):bq (s.put d x).t i=if d=some i/\i<s.n then x else bq s.t i:=by
 cases d with
 |none=>simp [St.put]
 |some k=>
  by_cases hk:k<s.n
  ·rw[qd hk,kZ];by_cases hi:i=k
   ·subst hi;simp [hk]
   ·rw[if_neg hi,if_neg (by simp;intro e;exact absurd e.symm hi)]
  ·rw[CE hk];rw[if_neg (by rintro⟨e,aN⟩;cases e;exact hk aN)]
theorem qR(s:St)(d:amV Nat)(x:AV):(s.put d x).n=s.n:=by
 cases d with
 |none=>rfl
 |some k=>
  by_cases hk:k<s.n
  ·rw[qd hk]
  ·rw[CE hk]
theorem DO(s:St)(d:amV Nat)(x:AV):(s.put d x).h=s.h:=by
 cases d with
 |none=>rfl
 |some k=>
  by_cases hk:k<s.n
  ·rw[qd hk]
  ·rw[CE hk]
theorem jh.put{s s':St}(h:jh s s')(h1:amT aq)(d:amV Nat)(x:AV):jh ((s.wh h1).put d x) ((s'.wh h1).put d x):=
 ⟨by rw[qR,qR];exact h.n,by rw[DO,DO];rfl,λi=>by
  rw[sS,sS];show(if d=some i/\i<s.n then x else bq s.t i)=(if d=some i/\i<s'.n then x else bq s'.t i);rw[h.n,h.t]⟩
theorem adq(s:St)(h1 pc h2:amT aq){d d':amV Nat}(x x':AV)(cQ:∀k,d=some k->d'≠some k):jh ((((s.wh h1).put d x).wh h2).put d' x') ((((s.wh pc).put d' x').wh h2).put d x):=by
 refine⟨by simp only[qR];show((s.wh h1).put d x).n=((s.wh pc).put d' x').n;simp only[qR];rfl,by simp only[DO];rfl,λi=> ?_⟩;rw[sS,sS];show(if d'=some i/\i<((s.wh h1).put d x).n then x' else bq ((s.wh h1).put d x).t i)=(if d=some i/\i<((s.wh pc).put d' x').n then x else bq ((s.wh pc).put d' x').t i);rw[qR,qR,sS,sS];show(if d'=some i/\i<s.n then x' else(if d=some i/\i<s.n then x else bq s.t i))=(if d=some i/\i<s.n then x else(if d'=some i/\i<s.n then x' else bq s.t i));by_cases a:d=some i
 ·have:=cQ i a;simp [a,this]
 ·simp [a]
section
variable {P:amW} {ops:Array Oper}
def mE(m:Bool)(P:amW)(ops:Array Oper)(o:Oper)(s:St)(x:AV)(h1:amT aq):Prop:=
 (iT ops o s True False/\ew m P o (ev s) s.h x h1)\/(iT ops o s False True/\x= .d (.v undef)/\h1=s.h)
theorem GY{o:Oper}{s:St}{yes no:Prop}(h:iT ops o s yes no):(iT ops o s True False/\yes)\/(iT ops o s False True/\no):=by
 unfold iT at h ⊢;split at h
 ·exact .inl ⟨trivial,h⟩
 ·rename_i j want hg
  split at h
  ·rename_i d hd
   split at h
   ·rename_i b hb
    by_cases we:b=want
    ·exact .inl ⟨⟨λ_=>trivial,λe=>by subst we;cases b<;>cases e⟩,h.1 we⟩
    ·have CB:b= !want:=by cases b<;>cases want<;>simp_all
     exact .inr ⟨⟨λe=>(we e).elim,λ_=>trivial⟩,h.2 CB⟩
   ·exact .inr ⟨trivial,h⟩
   ·exact h.elim
  ·exact h.elim
theorem vb{o:Oper}{s s':St}{yes no:Prop}(ht:∀d,d∈o.looksAt ops->bq s'.t d=bq s.t d)(h:iT ops o s yes no):iT ops o s' yes no:=by
 unfold iT at h ⊢;split at h
 ·exact h
 ·rename_i j want hg
  split at h
  ·rename_i d hd
   have:bq s'.t d=bq s.t d:=ht d (by unfold Oper.looksAt;rw[hg];simp [hd]);rw[this];exact h
  ·exact h.elim
theorem Lv{m:Bool}{o:Oper}{s s':St}{x:AV}{h1:amT aq}(ht:∀d,d∈o.looksAt ops->bq s'.t d=bq s.t d)(hh:s'.h=s.h)(h:mE m P ops o s x h1):mE m P ops o s' x h1:=by
 have dp:∀y∈o.op.operands,ev s y=ev s' y:=λy hy=>by
  cases y with
  |tmp t=>exact(ht t (by unfold Oper.looksAt;refine amH.2 (.inl (List.mem_filterMap.2 ⟨.tmp t,Array.mem_toList_iff.2 hy,rfl⟩)))).symm
  |_=>rfl
 rcases h with⟨g,hc⟩|⟨g,e1,e2⟩
 ·refine .inl ⟨vb ht g,?_⟩;rw[hh];have ud:∀h C,jv P o (ev s) h C=jv P o (ev s') h C:=λh C=>M4 dp;unfold ew at hc ⊢;split at hc
  ·exact⟨hc.1,λh' hh C hC=>ud h' C▸hc.2 h' hh C hC⟩
  ·exact⟨hc.1,λh' hh C hC=>ud _ C▸hc.2 h' hh C hC⟩
  ·obtain⟨B,kB,a,b,c⟩:=hc;exact⟨B,kB,a,b,λh' C hC=>ud h' C▸c h' C hC⟩
  ·exact⟨hc.1,λC hC=>ud _ C▸hc.2 C hC⟩
  ·exact⟨hc.1,λe C hC=>ud _ C▸hc.2 e C hC⟩
  ·exact⟨hc.1,λC hC=>ud _ C▸hc.2 C hC⟩
  ·obtain⟨e0,a,b⟩:=hc;exact⟨e0,a,λC hC=>ud _ C▸b C hC⟩
  ·exact λC hC=>ud _ C▸hc C hC
  ·exact hc.elim
 ·exact .inr ⟨vb ht g,e1,e2.trans hh.symm⟩
theorem RT{o:Oper}(h:cz o=7):False:=by
 unfold cz at h
 repeat' (first|(split at h)|cases h)
 all_goals (cases hg:oS _<;>rw[hg]at h<;>cases h)
theorem afr{m:Bool}{o:Oper}{ρ:Operand->AV}{h h1:amT aq}{x:AV}(h7:nf m o=false)(h0:ew m P o ρ h x h1):ja h h1:=by
 unfold ew at h0;unfold jG at h0;rw[h7]at h0;simp only[cond_false]at h0;split at h0
 ·rw[h0.1];exact ja.refl _
 ·rw[h0.1];exact ja.refl _
 ·obtain⟨B,kB,_,e,_⟩:=h0;rw[e];exact(iH.app kB).i
 ·exact h0.1.i
 ·rw[h0.1];exact ja.refl _
 ·exact h0.1.2.2.i
 ·obtain⟨e0,e,_⟩:=h0;rw[e];exact ja.app _ _
 ·next e=>exact(RT e).elim
 ·exact h0.elim
theorem acA{m:Bool}{o:Oper}{ρ:Operand->AV}{h h1:amT aq}{x:AV}(h7:nf m o=false)(hk:cz o≠6)(h0:ew m P o ρ h x h1):ja h1 h:=by
 unfold ew at h0;unfold jG at h0;rw[h7]at h0;simp only[cond_false]at h0;split at h0
 ·rw[h0.1];exact ja.refl _
 ·rw[h0.1];exact ja.refl _
 ·obtain⟨B,kB,_,e,_⟩:=h0;rw[e];exact(iH.app kB).j
 ·exact h0.1.j
 ·rw[h0.1];exact ja.refl _
 ·exact h0.1.2.2.j
 ·next e=>exact(hk e).elim
 ·next e=>exact(RT e).elim
 ·exact h0.elim
def zD(m:Bool)(a b:Oper):Bool:=(m&&((nf m a&&(!nf m b&&cz b==0))||(nf m b&&(!nf m a&&cz a==0))))|| !nf m a&& !nf m b&&(cz a==0||(cz b==0&& !(cz a==6))||((cz a==1||cz a==4)&&(cz b==1||cz b==4||cz b==2||cz b==6))||(cz a==1&&cz b==5)||(cz a==5&&cz b==1))
theorem alQ{m:Bool}{oi oj:Oper}{s:St}{xi xj:AV}{hi hj:amT aq}(FK:oi.apart ops oj=true)(iK:zD m oi oj=true)(h1:mE m P ops oi s xi hi)(h2:mE m P ops oj ((s.wh hi).put oi.dst xi) xj hj):
 ∃iQ,mE m P ops oj s xj iQ/\mE m P ops oi ((s.wh iQ).put oj.dst xj) xi hj:=by
 obtain⟨a1,a2,a3⟩:=Oper.apart_spec FK;have tj:∀d,d∈oj.looksAt ops->bq s.t d=bq ((s.wh hi).put oi.dst xi).t d:=λd hd=>by
  rw[sS,if_neg (λe=>a1 d e.1 hd)];rfl
 have ti:∀(h':amT aq) d,d∈oi.looksAt ops->bq ((s.wh h').put oj.dst xj).t d=bq s.t d:=λh' d hd=>by
  rw[sS,if_neg (λe=>a3 d e.1 hd)];rfl
 have eV:((s.wh hi).put oi.dst xi).h=hi:=by rw[DO];rfl
 have oO:∀h',((s.wh h').put oj.dst xj).h=h':=λh'=>by rw[DO];rfl
 have same:hi=s.h->mE m P ops oj s xj hj:=λe=>Lv tj (by rw[eV,e]) h2;have evi:∀h',∀y∈oi.op.operands,ev ((s.wh h').put oj.dst xj) y=ev s y:=λh' y hy=>by
  cases y with
  |tmp t=>exact ti h' t (by unfold Oper.looksAt;refine amH.2 (.inl (List.mem_filterMap.2 ⟨.tmp t,Array.mem_toList_iff.2 hy,rfl⟩)))
  |_=>rfl
 have evj:∀y∈oj.op.operands,ev ((s.wh hi).put oi.dst xi) y=ev s y:=λy hy=>by
  cases y with
  |tmp t=>exact(tj t (by unfold Oper.looksAt;refine amH.2 (.inl (List.mem_filterMap.2 ⟨.tmp t,Array.mem_toList_iff.2 hy,rfl⟩)))).symm
  |_=>rfl
 have ci:∀h' h C,jv P oi (ev ((s.wh h').put oj.dst xj)) h C=jv P oi (ev s) h C:=λh' h C=>M4 (evi h');have cj:∀h C,jv P oj (ev ((s.wh hi).put oi.dst xi)) h C=jv P oj (ev s) h C:=λh C=>M4 evj;unfold zD at iK;rw[Bool.or_eq_true]at iK;rcases h1 with⟨g1,o1⟩|⟨g1,e1,e2⟩
 ·rcases h2 with⟨g2,o2⟩|⟨g2,f1,f2⟩
  ·rcases iK with iK|iK
   ·
    rw[al7,Bool.or_eq_true,al7,al7,al7,al7,Bool.not_eq_true',Bool.not_eq_true',beq_iff_eq,beq_iff_eq]at iK;obtain⟨hm,iK⟩:=iK;have uq:∀h',iT ops oi ((s.wh h').put oj.dst xj) True False:=λh'=>vb (ti h') g1;have GN:iT ops oj s True False:=vb tj g2;rcases iK with⟨CV,lj,kj⟩|⟨haj,li,ki⟩
    ·have nF:jG m oj=0:=by unfold jG;rw[lj];exact kj
     have k9:jG m oi=7:=by unfold jG;rw[CV];rfl
     unfold ew at o1 o2;rw[k9]at o1;rw[nF]at o2;simp only at o1 o2;obtain⟨e,o2⟩:=o2;rw[eV]at e;refine⟨s.h, .inl ⟨GN,?_⟩, .inl ⟨uq s.h,?_⟩⟩
     ·unfold ew;rw[nF];exact⟨rfl,λh' _ C hC=>by rw[<-cj];exact o2 h' (.inl hm) C hC⟩
     ·unfold ew;rw[k9,oO];exact λC hC=>by rw[ci];exact o1 C (e▸hC)
    ·have k9:jG m oi=0:=by unfold jG;rw[li];exact ki
     have nF:jG m oj=7:=by unfold jG;rw[haj];rfl
     unfold ew at o1;rw[k9]at o1;simp only at o1;obtain⟨e,o1⟩:=o1;refine⟨hj,same e, .inl ⟨uq hj,?_⟩⟩;unfold ew;rw[k9];exact⟨(oO hj).symm,λh' _ C hC=>by rw[ci];exact o1 h' (.inl hm) C hC⟩
   rw[al7,al7,Bool.not_eq_true',Bool.not_eq_true']at iK;obtain⟨⟨li,lj⟩,iK⟩:=iK;have k9:jG m oi=cz oi:=by unfold jG;rw[li];rfl
   have nF:jG m oj=cz oj:=by unfold jG;rw[lj];rfl
   have uq:∀h',iT ops oi ((s.wh h').put oj.dst xj) True False:=λh'=>vb (ti h') g1;have GN:iT ops oj s True False:=vb tj g2;by_cases k0:cz oi=0
   ·unfold ew at o1;rw[k9,k0]at o1;simp only at o1;obtain⟨e,o1⟩:=o1;refine⟨hj,same e, .inl ⟨uq hj,?_⟩⟩;unfold ew;rw[k9,k0];have hv:ja s.h hj:=by
     have:=afr lj o2;rw[eV,e]at this;exact this
    exact⟨(oO hj).symm,λh' hh C hC=>by rw[oO]at hh;rw[ci];exact o1 h' (hh.imp id λhh=>hv.trans hh) C hC⟩
   ·by_cases k1:cz oj=0
    ·unfold ew at o2;rw[nF,k1]at o2;simp only at o2;obtain⟨e,o2⟩:=o2;rw[eV]at e o2;have k6:cz oi≠6:=λk6=>by
      simp [k6,k1]at iK
     have hv:=acA li k6 o1;refine⟨s.h, .inl ⟨GN,?_⟩, .inl ⟨uq s.h,?_⟩⟩
     ·unfold ew;rw[nF,k1];exact⟨rfl,λh' hh C hC=>by rw[<-cj];exact o2 h' (hh.imp id λhh=>hv.trans hh) C hC⟩
     ·rw[e];unfold ew at o1 ⊢;rw[oO];simp only[ci];exact o1
    ·by_cases Vh:cz oi=1/\cz oj=5
     ·obtain⟨ka,kb⟩:=Vh;unfold ew at o1 o2;rw[k9,ka]at o1;rw[nF,kb]at o2;simp only at o1 o2;obtain⟨e,o1⟩:=o1;obtain⟨⟨c1,c2,_⟩,o2⟩:=o2;rw[eV,e]at c1 c2;refine⟨hj,same e, .inl ⟨uq hj,?_⟩⟩;unfold ew;rw[k9,ka];simp only;refine⟨(oO hj).symm,λh' hh C hC=> ?_⟩;rw[oO]at hh;rw[ci];exact o1 h' (λn cs hn hq=>hh n cs (c1 n cs hn hq) hq) C hC
     by_cases XA:cz oi=5/\cz oj=1
     ·obtain⟨ka,kb⟩:=XA;unfold ew at o1 o2;rw[k9,ka]at o1;rw[nF,kb]at o2;simp only at o1 o2;obtain⟨⟨c1,c2,c3⟩,o1⟩:=o1;obtain⟨e,o2⟩:=o2;rw[eV]at e o2;refine⟨s.h, .inl ⟨GN,?_⟩, .inl ⟨uq s.h,?_⟩⟩
      ·unfold ew;rw[nF,kb];simp only;exact⟨trivial,λh' hh C hC=>by rw[<-cj];exact o2 h' (λn cs hn hq=>hh n cs (c2 n cs hn hq) hq) C hC⟩
      ·rw[e];unfold ew;rw[k9,ka];simp only;rw[oO];exact⟨⟨c1,c2,c3⟩,λC hC=>by rw[ci];exact o1 C hC⟩
     have hc:(cz oi=1\/cz oi=4)/\(cz oj=1\/cz oj=4\/cz oj=2\/cz oj=6):=by
      simp only[Bool.or_eq_true,al7,beq_iff_eq,k0,k1,false_or,false_and]at iK;rcases iK with(iK|iK)|iK
      ·refine⟨iK.1,?_⟩;rcases iK.2 with((h|h)|h)|h
       ·exact .inl h
       ·exact .inr (.inl h)
       ·exact .inr (.inr (.inl h))
       ·exact .inr (.inr (.inr h))
      ·exact absurd iK Vh
      ·exact absurd iK XA
     have q1:hi=s.h/\∀e(C:AV->amT aq->Prop),C xi (s.h++e)->jv P oi (ev s) (s.h++e) C:=by
      unfold ew at o1;rcases hc.1 with k|k
      ·rw[k9,k]at o1;exact⟨o1.1,λe C hC=>o1.2 _ (jb.app _ _) C hC⟩
      ·rw[k9,k]at o1;exact o1
     have q2:∃e0,hj=s.h++e0:=by
      have rQ:=o2;unfold ew at rQ;rcases hc.2 with k|k|k|k
      ·rw[nF,k]at rQ;exact⟨[],by rw[rQ.1,eV,q1.1,amq]⟩
      ·rw[nF,k]at rQ;exact⟨[],by rw[rQ.1,eV,q1.1,amq]⟩
      ·rw[nF,k]at rQ;obtain⟨B,_,_,b,_⟩:=rQ;exact⟨[B],by rw[b,eV,q1.1]⟩
      ·rw[nF,k]at rQ;obtain⟨e0,b,_⟩:=rQ;exact⟨e0,by rw[b,eV,q1.1]⟩
     obtain⟨e0,BB⟩:=q2;refine⟨hj,same q1.1, .inl ⟨uq hj,?_⟩⟩;have:∀e(C:AV->amT aq->Prop),C xi (hj++e)->jv P oi (ev ((s.wh hj).put oj.dst xj)) (hj++e) C:=λe C hC=>by
      rw[ci,BB,amm];rw[BB,amm]at hC;exact q1.2 _ C hC
     unfold ew;rw[oO];rcases hc.1 with k|k
     ·rw[k9,k];simp only;refine⟨trivial,λh' hh C hC=> ?_⟩;rw[ci];unfold ew at o1;rw[k9,k]at o1;exact o1.2 h' (λn cs hn hq=>hh n cs (by rw[BB];exact jb.app _ _ n cs hn hq) hq) C hC
     ·rw[k9,k];exact⟨rfl,this⟩
  ·
   subst f1;rw[eV]at f2;refine⟨s.h, .inr ⟨vb tj g2,rfl,rfl⟩,?_⟩;rw[f2];exact Lv (ti s.h) (by rw[oO]) (.inl ⟨g1,o1⟩)
 ·
  subst e1;refine⟨hj,same e2, .inr ⟨vb (ti hj) g1,rfl,(oO hj).symm⟩⟩
def qS(K:St->Prop):Prop:=∀s s',jh s s'->K s->K s'
def kH(m:Bool)(P:amW)(ops:Array Oper)(K:St->Prop):Nat->Array Bool->St->Prop
 |0,listed,s=>Region.ready .any ops listed=[]/\K s
 |fuel+1,listed,s=>
  (Region.ready .any ops listed=[]->K s)/\
  ∀i∈Region.ready .any ops listed,∀o,ops[i]?=some o->∃x h1,mE m P ops o s x h1/\kH m P ops K fuel (listed.setIfInBounds i true) ((s.wh h1).put o.dst x)
theorem Yx{m:Bool}{K:St->Prop}(hK:qS K):∀(fuel:Nat)(listed:Array Bool)(s s':St),jh s s'->kH m P ops K fuel listed s->kH m P ops K fuel listed s'
 |0,_,s,s',hs,h=>⟨h.1,hK s s' hs h.2⟩
 |fuel+1,_,s,s',hs,h=>⟨λh0=>hK s s' hs (h.1 h0),λi hi o ho=>by
  obtain⟨x,h1,h2,h3⟩:=h.2 i hi o ho;exact⟨x,h1,Lv (λd _=>(hs.t d).symm) hs.h.symm h2,Yx hK fuel _ _ _ (hs.put h1 o.dst x) h3⟩⟩
def oe(M:Array Nat)(ops:Array Oper):Bool:=
 (List.range ops.size).all λj=>(List.range ops.size).all λi=> !(M.getD j 0).testBit i||match ops[j]? with
  |some o=>o.after.any λe=>Region.binds .any e&&decide (e.on<j)&&(e.on==i||(M.getD e.on 0).testBit i)
  |none=>false
def Dn(ops:Array Oper)(listed:Array Bool):Prop:=∀(j:Nat)(o:Oper),ops[j]?=some o->listed.getD j false=true->∀e∈o.after,Region.binds .any e=true->listed.getD e.on false=true
theorem aeb{M:Array Nat}(hM:oe M ops=true){listed:Array Bool}(hD:Dn ops listed):∀(j i:Nat)(o:Oper),i<ops.size->ops[j]?=some o->(∀e∈o.after,Region.binds .any e=true->listed.getD e.on false=true)->(M.getD j 0).testBit i=true->listed.getD i false=true:=by
 intro j
 induction j using Nat.strongRecOn with
 |_ j ih=>
  intro i o hi ho hp hb;unfold oe at hM;simp only[amv,List.mem_range]at hM;have h1:=hM j (amk.1 ho).1 i hi;rw[hb,ho]at h1;simp only[Bool.not_true,Bool.false_or]at h1;rw[Array.any_eq_true']at h1;obtain⟨e,he,h2⟩:=h1;simp only[al7,decide_eq_true_eq,Bool.or_eq_true,beq_iff_eq]at h2;obtain⟨⟨qm,aN⟩,h3⟩:=h2;have hl:=hp e he qm;rcases h3 with h3|h3
  ·rw[<-h3];exact hl
  ·have FA:e.on<ops.size:=Nat.lt_trans aN (amk.1 ho).1;exact ih e.on aN i ops[e.on] hi (amr FA) (hD e.on _ (amr FA) hl) h3
theorem Dn.set{listed:Array Bool}(hD:Dn ops listed){i:Nat}(hr:i∈Region.ready .any ops listed):Dn ops (listed.setIfInBounds i true):=by
 intro j o ho hj e he hb;refine getD_set_true ?_;by_cases qj:i=j
 ·subst qj;obtain⟨_,o',l9,fD⟩:=mem_ready.1 hr;rw[ho]at l9;cases l9;exact fD e he hb
 ·rw[getD_set_ne false qj]at hj;exact hD j o ho hj e he hb
theorem HM{m:Bool}{K:St->Prop}(hK:qS K){M:Array Nat}(hM:oe M ops=true){i:Nat}{oi:Oper}{x:AV}{h1:amT aq}(hi:ops[i]?=some oi):
 ∀(fuel:Nat)(listed:Array Bool)(s:St),Dn ops listed->
  (∀j oj,ops[j]?=some oj->j≠i->listed.getD j true=false->(M.getD j 0).testBit i=false->oi.apart ops oj=true/\zD m oi oj=true)->
  i∈Region.ready .any ops listed->mE m P ops oi s x h1->kH m P ops K fuel (listed.setIfInBounds i true) ((s.wh h1).put oi.dst x)->kH m P ops K (fuel+1) listed s:=by
 intro fuel
 induction fuel generalizing x h1 with
 |zero=>
  intro listed s _ _ hr hy H;refine⟨λh=>(by rw[h]at hr;cases hr),λj hj o ho=> ?_⟩;by_cases uO:j=i
  ·subst uO;rw[hi]at ho;cases ho;exact⟨x,h1,hy,H⟩
  ·have:=ready_mono hj uO;rw[H.1]at this;cases this
 |succ fuel ih=>
  intro listed s hD TJ hr hy H;refine⟨λh=>(by rw[h]at hr;cases hr),λj hj oj zY=> ?_⟩;by_cases uO:j=i
  ·subst uO;rw[hi]at zY;cases zY;exact⟨x,h1,hy,H⟩
  ·obtain⟨xj,hj1,QA,H2⟩:=H.2 j (ready_mono hj uO) oj zY;obtain⟨QR,oj',Un,fD⟩:=mem_ready.1 hj;rw[zY]at Un;cases Un;have aal:=(amk.1 hi).1;have oK:listed.getD i false=false:=by
    have h0:=(mem_ready.1 hr).1;rcases Nat.lt_or_ge i listed.size with h'|h'
    ·simpa [h']using h0
    ·simp [Array.getElem?_eq_none h']at h0
   have jV:(M.getD j 0).testBit i=false:=by
    cases hb:(M.getD j 0).testBit i with
    |false=>rfl
    |true=>rw[aeb hM hD j i oj aal zY fD hb]at oK;cases oK
   obtain⟨FK,iK⟩:=TJ j oj zY uO QR jV;obtain⟨iQ,s1,s2⟩:=alQ FK iK hy QA;obtain⟨_,a2,_⟩:=Oper.apart_spec FK;refine⟨xj,iQ,s1,ih (listed.setIfInBounds j true) _ (hD.set hj) (λk ok hk Pk T7 rN=> ?_) (ready_mono hr (Ne.symm uO)) s2 ?_⟩
   ·refine TJ k ok hk Pk ?_ rN;by_cases Ij:j=k
    ·subst Ij;exact QR
    ·rw[getD_set_ne true Ij]at T7;exact T7
   ·rw[Array.setIfInBounds_comm _ _ uO];exact Yx hK _ _ _ _ (adq s h1 iQ hj1 x xj (λk hk=>a2 k hk)) H2
def WD(M:Array Nat)(ops:Array Oper)(k:Nat):Bool:=
 match ops[k]? with
 |none=>false
 |some oi=>(List.range ops.size).all λj=>decide (j<=k)||(M.getD j 0).testBit k||match ops[j]? with
  |some oj=>oi.apart ops oj&&zD false oi oj
  |none=>true
def Fj(M:Array Nat)(ops:Array Oper):Nat->Nat->Array Bool->Bool
 |0,_,listed=>(Region.ready .any ops listed).isEmpty
 |fuel+1,k,listed=>(Region.ready .any ops listed).contains k&&WD M ops k&&Fj M ops fuel (k+1) (listed.setIfInBounds k true)
def qO(ops:Array Oper):Bool:=oe (Region.before ops) ops&&Fj (Region.before ops) ops ops.size 0 (Array.replicate ops.size false)
theorem RG{K K':St->Prop}(hK:qS K')(BN:∀s,K s->K' s){M:Array Nat}(hM:oe M ops=true):∀(l:amT Oper)(k:Nat)(listed:Array Bool)(s:St),(∀j,l[j]?=ops[k+j]?)->(∀j,j<k->listed.getD j true=true)->Dn ops listed->
 Fj M ops l.length k listed=true->EO P ops l K s->kH false P ops K' l.length listed s
 |[],_,_,_,_,_,_,hB,h=>⟨by simpa [Fj]using hB,BN _ h⟩
 |o::l,k,listed,s,hl,j5,hD,hB,h=>by
  have h0:ops[k]?=some o:=by simpa using (hl 0).symm
  simp only[al8,Fj,al7]at hB;obtain⟨⟨hr,hf⟩,dN⟩:=hB;have oY:k∈Region.ready .any ops listed:=by simpa using hr
  have zW:∀j,l[j]?=ops[k+1+j]?:=λj=>by have:=hl (j+1);simpa [Nat.add_assoc,Nat.add_comm 1 j]using this
  have aeu:∀j,j<k+1->(listed.setIfInBounds k true).getD j true=true:=λj hj=>by
   by_cases e:k=j
   ·subst e;rcases Nat.lt_or_ge k listed.size with h'|h'
    ·simp [h']
    ·have:(listed.setIfInBounds k true)[k]?=none:=Array.getElem?_eq_none (by simpa using h');rw[Array.getD_eq_getD_getElem?,this];rfl
   ·rw[getD_set_ne true e];exact j5 j (by omega)
  obtain⟨x,h1,hy,zy⟩:∃x h1,mE false P ops o s x h1/\EO P ops l K ((s.wh h1).put o.dst x):=by
   rcases GY h with⟨g,hd⟩|⟨g,hd⟩
   ·obtain⟨x,h1,h2,h3⟩:=GP hd;exact⟨x,h1, .inl ⟨g,h2⟩,h3⟩
   ·exact⟨_,s.h, .inr ⟨g,rfl,rfl⟩,hd⟩
  refine HM hK hM h0 l.length listed s hD (λj oj hj cQ oK rN=> ?_) oY hy (RG hK BN hM l (k+1) _ _ zW aeu (hD.set oY) dN zy);unfold WD at hf;rw[h0]at hf;simp only[amv,List.mem_range]at hf;have:=hf j (amk.1 hj).1;rw[rN,hj]at this;simp only[Bool.or_false,Bool.or_eq_true,al7,decide_eq_true_eq]at this;rcases this with this|this
  ·exfalso;have:=j5 j (by omega);rw[this]at oK;cases oK
  ·exact this
def TV(ops:Array Oper):Nat->Array Bool->amT Nat
 |0,_=>[]
 |f+1,listed=>match (Region.ready .any ops listed).find? (λk=>match ops[k]? with|some o=> !(cz o==6)&& !GV o|none=>false)with
  |some k=>k::TV ops f (listed.setIfInBounds k true)
  |none=>match Region.ready .any ops listed with
   |k::_=>k::TV ops f (listed.setIfInBounds k true)
   |[]=>[]
def D8(m:Bool)(M:Array Nat)(ops:Array Oper):amT Nat->Array Bool->Bool
 |[],listed=>(Region.ready .any ops listed).isEmpty
 |k::l,listed=>(Region.ready .any ops listed).contains k&&(match ops[k]? with
  |none=>false
  |some oi=>(List.range ops.size).all λj=>j==k||listed.getD j true||(M.getD j 0).testBit k||match ops[j]? with
   |some oj=>oi.apart ops oj&&zD m oi oj
   |none=>true)&&D8 m M ops l (listed.setIfInBounds k true)
def Eu(m:Bool)(ops:Array Oper)(p:amT Nat):Bool:=oe (Region.before ops) ops&&D8 m (Region.before ops) ops p (Array.replicate ops.size false)
def rC(ops:Array Oper):amT Nat->amT Oper
 |[]=>[]
 |k::l=>match ops[k]? with
  |some o=>o::rC ops l
  |none=>rC ops l
theorem UW{m:Bool}{K K':St->Prop}(hK:qS K')(BN:∀s,K s->K' s){M:Array Nat}(hM:oe M ops=true):∀(l:amT Nat)(listed:Array Bool)(s:St),Dn ops listed->
 D8 m M ops l listed=true->uS m P ops (rC ops l) K s->kH m P ops K' l.length listed s
 |[],_,_,_,hB,h=>⟨by simpa [D8]using hB,BN _ h⟩
 |k::l,listed,s,hD,hB,h=>by
  simp only[D8,al7]at hB;obtain⟨⟨hr,hf⟩,dN⟩:=hB;have oY:k∈Region.ready .any ops listed:=by simpa using hr
  obtain⟨_,o,h0,_⟩:=mem_ready.1 oY;rw[h0]at hf;simp only[amv,List.mem_range]at hf;simp only[rC,h0]at h;obtain⟨x,h1,hy,zy⟩:∃x h1,mE m P ops o s x h1/\uS m P ops (rC ops l) K ((s.wh h1).put o.dst x):=by
   rcases GY h with⟨g,hd⟩|⟨g,hd⟩
   ·obtain⟨x,h1,h2,h3⟩:=GP hd;exact⟨x,h1, .inl ⟨g,h2⟩,h3⟩
   ·exact⟨_,s.h, .inr ⟨g,rfl,rfl⟩,hd⟩
  refine HM hK hM h0 l.length listed s hD (λj oj hj cQ oK rN=> ?_) oY hy (UW hK BN hM l _ _ (hD.set oY) dN zy);have:=hf j (amk.1 hj).1;rw[rN,oK,hj]at this;simp only[Bool.or_false,Bool.or_eq_true,al7,beq_iff_eq]at this;rcases this with this|this
  ·exact absurd this cQ
  ·exact this
end
section
variable {P:amW} {r:amV Nat} {n N0:Nat} {G:Gh} {w:amY} {a:Act} {s:St} {o:Oper} {Q:Exit->St->Prop}
theorem c8.drew(hs:c8 G w a s):bN G.N G w G {w with drawn:=w.drawn+1}/\c8 G {w with drawn:=w.drawn+1} a s:=by
 have hE:bN G.N G w G {w with drawn:=w.drawn+1}:=⟨amg _,λ_ _ h=>h,λ_ _ _=>rfl,λ_ _=>rfl,λ_ _=> .inl ⟨rfl,rfl⟩,hY rfl,λ_ _=>rfl,rfl,rfl,rfl,λ_ _ h=> .inl h⟩;have hi:bU G {w with drawn:=w.drawn+1} s.h:=⟨hs.inv.len,hs.inv.z,hs.inv.S,λn B hB=>ep.keep (hs.inv.lt hB) hE (amg _) ⟨rfl,rfl,rfl⟩ (λ_ _=>⟨rfl,λ_ h=>h⟩) (hs.inv.dk n B hB),hs.inv.inj,hs.inv.gl.keep hE⟩;exact⟨hE,hs.move hE (amg _) hi⟩
theorem aja{m:Bool}{x:AV}{h1:amT aq}(h:ew m P o (ev s) s.h x h1):jv P o (ev s) s.h (λx' h'=>(s.wh h').put o.dst x'=(s.wh h1).put o.dst x):=XK h _ rfl
theorem Ff{m:Bool}{ops:Array Oper}{K:St->Prop}{Q':Exit->Act->amY->Prop}(hQ:∀a' w',iF N0 G w K a' w'->Q' .normal a' w'):∀(fuel:Nat)(listed:Array Bool)(G1:Gh)(w1:amY)(a:Act)(s:St),
 bN N0 G w G1 w1->N0<=G1.N->c8 G1 w1 a s->kH m P ops K fuel listed s->wpAnyIn (WF r) n P .any ops Q' fuel listed a w1
 |0,_,G1,w1,a,s,hE,hN,hs,h=>⟨h.1,hQ _ _ ⟨G1,s,hE,hN,hs,h.2⟩⟩
 |fuel+1,listed,G1,w1,a,s,hE,hN,hs,h=>by
  refine⟨λh0=>hQ _ _ ⟨G1,s,hE,hN,hs,h.1 h0⟩,λi hi=> ?_⟩;obtain⟨_,o,ho,_⟩:=mem_ready.1 hi;obtain⟨x,h1,hy,zy⟩:=h.2 i hi o ho;unfold wpOpIn;rw[ho];simp only;rcases hy with⟨g,hc⟩|⟨g,rfl,rfl⟩
  ·have hg:=Oo hs g;split at hg
   ·rename_i hw
    rw[if_pos hw];refine Oper.wpIn_mono (λa' w' hn=> ?_) ((aja hc).elim (λk=>QG (K:=λs'=>s'=(s.wh h1).put o.dst x) (r:=r) (n:=n) (N0:=N0) (Q:=Q') hs hN k) fun⟨_,va,x',h',p,k1,k2,k3⟩=>W9 (K:=λs'=>s'=(s.wh h1).put o.dst x) (r:=r) (n:=n) (N0:=N0) (Q:=Q') hs hN ⟨va,x',h',p,k1,k2,k3⟩);obtain⟨G2,s2,e2,n2,xp,rfl⟩:=hn;exact Ff hQ fuel _ G2 w' a' _ (hE.trans e2) n2 xp zy
   ·exact hg.elim
  ·have hg:=Oo hs g;split at hg
   ·exact hg.elim
   ·rename_i hw
    rw[if_neg hw];exact⟨λ_ _=>trivial,Ff hQ fuel _ G1 w1 _ _ hE hN (hs.put (.d (.v undef)) o.dst) zy⟩
theorem GF{id:Nat}{l:amT Oper}(hm:P.follows .mixedOrders=true)(hl:qO l.toArray=true)(h:EO P l.toArray l (Q .normal) s):bB P r N0 (.region id l.toArray true) Q s:=by
 constructor
 intro G w a n hs hN;unfold qO at hl;rw[al7]at hl;obtain⟨d1,d2⟩:=hs.drew;refine wpIn_region_any hm ?_;have hC:qS (λs=>∃s',jh s' s/\Q .normal s'):=λs s' e ⟨s0,e0,h0⟩=>⟨s0,e0.trans e,h0⟩;have:=RG (K:=Q .normal) hC (λs h=>⟨s,jh.refl s,h⟩) hl.1 l 0 (Array.replicate l.toArray.size false) s (by simp) (λj hj=>absurd hj (amx _)) (λj o ho hj=>by
  exfalso;rw[Array.getD_eq_getD_getElem?]at hj;rw[Array.getElem?_replicate]at hj;split at hj<;>simp at hj) (by simpa using hl.2) h
 refine Ff (G:=G) (w:=w) (N0:=N0) (K:=λs=>∃s',jh s' s/\Q .normal s') (λa' w' hn=> ?_) l.toArray.size _ G _ a s (d1.less hN) hN d2 (by simpa using this);obtain⟨G',s',x1,x2,x3,s0,e0,x4⟩:=hn;refine⟨G',s0,x1,x2,⟨x3.size.trans e0.n.symm,λi=>by rw[e0.t i];exact x3.tmp i,by rw[e0.h];exact x3.inv,x3.df⟩,x4⟩
theorem Uk{m:Bool}{id:Nat}{ops:Array Oper}(p:amT Nat)(hm:P.follows .mixedOrders=true)(hz:p.length=ops.size)(hl:Eu m ops p=true)(h:uS m P ops (rC ops p) (Q .normal) s):bB P r N0 (.region id ops true) Q s:=by
 constructor
 intro G w a n hs hN;unfold Eu at hl;rw[al7]at hl;obtain⟨d1,d2⟩:=hs.drew;refine wpIn_region_any hm ?_;have hC:qS (λs=>∃s',jh s' s/\Q .normal s'):=λs s' e ⟨s0,e0,h0⟩=>⟨s0,e0.trans e,h0⟩;have:=UW (K:=Q .normal) hC (λs h=>⟨s,jh.refl s,h⟩) hl.1 p (Array.replicate ops.size false) s (λj o ho hj=>by
  exfalso;rw[Array.getD_eq_getD_getElem?]at hj;rw[Array.getElem?_replicate]at hj;split at hj<;>simp at hj) hl.2 h
 rw[hz]at this;refine Ff (G:=G) (w:=w) (N0:=N0) (K:=λs=>∃s',jh s' s/\Q .normal s') (λa' w' hn=> ?_) ops.size _ G _ a s (d1.less hN) hN d2 this;obtain⟨G',s',x1,x2,x3,s0,e0,x4⟩:=hn;refine⟨G',s0,x1,x2,⟨x3.size.trans e0.n.symm,λi=>by rw[e0.t i];exact x3.tmp i,by rw[e0.h];exact x3.inv,x3.df⟩,x4⟩
end
def alW(want:Bool):AV->Bool
 | .d (.v (.bool b))=>b==want
 |_=>false
def gNo(want:Bool):AV->Bool
 | .d (.v (.bool b))=>b== !want
 | .d (.v (.tuple _))=>true
 |_=>false
def akc(t:amT (Nat×AV)):amV Nat->AV
 |some d=>bq t d
 |none=> .dead
def ue(ops:Array Oper)(j:Nat)(t:amT (Nat×AV)):AV:=akc t ((ops[j]?).bind (·.dst))
section
variable {P:amW} {ops:Array Oper} {dst:amV Nat} {op:Op} {ty:TypeId} {pos:String} {after:Array Edge} {j:Nat} {w:Bool} {s:St} {rest:amT Oper} {K:St->Prop} {y n:Prop}
theorem Jz:iT ops ⟨dst,op,ty,pos,after,some (j,w)⟩ s y n=(match ue ops j s.t with
 | .d (.v (.bool b))=>(b=w->y)/\(b= !w->n)
 | .d (.v (.tuple _))=>n
 |_=>False):=by
 show(match (ops[j]?).bind (·.dst)with
  |some d=>match bq s.t d with
   | .d (.v (.bool b))=>(b=w->y)/\(b= !w->n)
   | .d (.v (.tuple _))=>n
   |_=>False
  |none=>False)=_
 unfold ue;cases (ops[j]?).bind (·.dst)<;>rfl
end
section
variable {P:amW} {r:amV Nat} {n N0:Nat} {G:Gh} {w:amY} {a:Act} {s:St} {o:Oper} {Q:Exit->St->Prop}
theorem aM{K:St->Prop}(h:K s):ig K Q .normal s:=h
theorem at_e{K:St->Prop}{i:Nat}(h:Q (.exit i) s):ig K Q (.exit i) s:=h
theorem cT{K:St->Prop}(h:Q .ret s):ig K Q .ret s:=h
theorem dU{id:Nat}(h:Q .normal s):qc id Q .normal s:=h
theorem dS{id:Nat}(h:Q .ret s):qc id Q .ret s:=h
theorem l4{id i:Nat}(e:(i==id)=true)(h:Q .normal s):qc id Q (.exit i) s:=by simpa only[qc,e,cond_true]using h
theorem aex{id i:Nat}(e:(i==id)=false)(h:Q (.exit i) s):qc id Q (.exit i) s:=by simpa only[qc,e,cond_false]using h
theorem lS{c:Operand}{x y:Code}(hc:ev s c= .d (.v (.bool true)))(h:bB P r N0 x Q s):bB P r N0 (.cond c x y) Q s:=M6 hc (λ_=>h) λh=>Bool.noConfusion h
theorem lL{c:Operand}{x y:Code}(hc:ev s c= .d (.v (.bool false)))(h:bB P r N0 y Q s):bB P r N0 (.cond c x y) Q s:=M6 hc (λh=>Bool.noConfusion h) λ_=>h
theorem cS{c:Operand}{x y:Code}{t:Bool}(hc:ev s c= .d (.v (.bool t)))(e:t=true)(h:bB P r N0 x Q s):bB P r N0 (.cond c x y) Q s:=lS (by rw[hc,e]) h
theorem dm{c:Operand}{x y:Code}{t:Bool}(hc:ev s c= .d (.v (.bool t)))(e:t=false)(h:bB P r N0 y Q s):bB P r N0 (.cond c x y) Q s:=lL (by rw[hc,e]) h
theorem JY{c:Code}(k:Nat)(e:TypeId)(sz:Nat)(xs:amT (amT D))(hx:bq s.t k= .full xs\/(bq s.t k= .d (.v (.slice none 0 0))/\xs=[]))
 (h:bB P r N0 c Q ⟨s.n,(k, .own s.h.length xs)::s.t,s.h++[.front e sz xs.length]⟩):bB P r N0 c Q s:=by
 constructor
 intro G w a n hs hN;have hp:dy G.S w (a.tmps.getD k undef) (.sl xs)/\∃A,a.tmps.getD k undef= .slice A xs.length xs.length:=by
  have hv:=hs.tmp k;revert hv;generalize a.tmps.getD k undef=u;intro hv;rcases hx with hx|⟨hx,rfl⟩
  ·rw[hx]at hv;cases hv with|full _ hp hf=>exact⟨hp,hf⟩
  ·rw[hx]at hv;rw[hv.val];exact⟨Ci,none,rfl⟩
 obtain⟨a1,a2,a3,a4⟩:=KJ hs.inv hp.1 hp.2 e sz;have cM:c8 (G.ib (a.tmps.getD k undef) xs.length) w a ⟨s.n,(k, .own s.h.length xs)::s.t,s.h++[.front e sz xs.length]⟩:=by
  refine⟨hs.size,λi=> ?_,a3,hs.df.keep a1⟩;show aH _ _ _ (bq ((k, .own s.h.length xs)::s.t) i);rw[kZ];split
  ·next e=>exact e▸a4
  ·exact(hs.tmp i).keep a1 a2
 exact wpIn_mono (h.run _ w a n cM (amn hN a2)) λ_ _ _ hn=>hn.trans (a1.less hN)
end
theorem Xs{G:Gh}{w:amY}{h:amT aq}{b:Nat}{cs cD:amT AV}(hi:bU G w h)(hb:h[b]?=some (.cells cs))(hl:cD.length=cs.length)
 (hc:∀(vs:Array amX)(T:TypeId),w.heap[G.aR b]?=some (.cells vs T (0,0))->∀(i:Nat)(u:amX)(c:AV),vs[i]?=some u->cD[i]?=some c->aH G w u c):bU G w (h.set b (aq.cells cD)):=by
 have ho:∀n,bR (h.set b (aq.cells cD)) G n=bR h G n:=λn=>by
  have aN:=(al5.1 hb).1;unfold bR;by_cases e:b=n
  ·subst e;rw[amy aN,hb];rfl
  ·rw[amD e]
 refine⟨by rw[List.length_set];exact hi.len,hi.z,hi.S,λn B hB=> ?_,λm n x hm hn=>hi.inj m n x (by rw[<-ho];exact hm) (by rw[<-ho];exact hn),hi.gl⟩;have aN:=(al5.1 hb).1;by_cases e:b=n
 ·subst e;rw[amy aN]at hB;cases hB
  obtain⟨h1,h2,vs,T,h3,h4,_⟩:=hi.dk _ _ hb;exact⟨h1,h2,vs,T,h3,h4.trans hl.symm,hc vs T h3⟩
 ·rw[amD e]at hB;exact hi.dk n B hB
theorem alu{P:amW}{r:amV Nat}{N0:Nat}{s:St}{Q:Exit->St->Prop}{c:Code}(b i:Nat)(e:TypeId)(sz:Nat)(xs:amT (amT D)){cs:amT AV}(hb:s.h[b]?=some (.cells cs))(hx:cs[i]?=some (.full xs)\/(cs[i]?=some (.d (.v (.slice none 0 0)))/\xs=[]))
 (h:bB P r N0 c Q ⟨s.n,s.t,(s.h++[aq.front e sz xs.length]).set b (aq.cells (cs.set i (AV.own s.h.length xs)))⟩):bB P r N0 c Q s:=by
 constructor
 intro G w a n hs hN;obtain⟨h1,h2,vs,T,h3,h4,h5⟩:=hs.inv.dk _ _ hb;have hi:i<cs.length:=by rcases hx with hx|⟨hx,_⟩<;>exact(al5.1 hx).1
 have hv:vs[i]?=some vs[i]:=amr (by omega);have hp:dy G.S w vs[i] (.sl xs)/\∃A,vs[i]= .slice A xs.length xs.length:=by
  rcases hx with hx|⟨hx,rfl⟩
  ·have:=h5 i _ _ hv hx;generalize vs[i]=u at this;cases this with|full _ hp hf=>exact⟨hp,hf⟩
  ·have:=h5 i _ _ hv hx;rw[this.val];exact⟨Ci,none,rfl⟩
 obtain⟨a1,a2,a3,a4⟩:=KJ hs.inv hp.1 hp.2 e sz;have aN:=(al5.1 hb).1;have cM:c8 (G.ib vs[i] xs.length) w a ⟨s.n,s.t,(s.h++[aq.front e sz xs.length]).set b (aq.cells (cs.set i (AV.own s.h.length xs)))⟩:=by
  refine⟨hs.size,λj=>(hs.tmp j).keep a1 a2,Xs a3 (by rw[amf aN];exact hb) (by rw[List.length_set]) λfR T' DG j u c hu hc=> ?_,hs.df.keep a1⟩;have e1:(G.ib vs[i] xs.length).aR b=G.aR b:=by
   have:b≠G.N:=by have:=hs.inv.len;omega
   simp [Gh.ib]
  rw[e1,h3]at DG;cases DG
  by_cases e2:i=j
  ·subst e2;rw[amy hi]at hc;cases hc
   rw[hv]at hu;cases hu
   exact a4
  ·rw[amD e2]at hc;exact(h5 j u c hu hc).keep a1 a2
 exact wpIn_mono (h.run _ w a n cM (amn hN a2)) λ_ _ _ hn=>hn.trans (a1.less hN)
def AV.Le(x y:AV):Prop:=∀(G:Gh)(w:amY)(u:amX),aH G w u x->aH G w u y
theorem AV.Le.refl(x:AV):AV.Le x x:=λ_ _ _ h=>h
theorem AV.Le.full(xs:amT (amT D)):AV.Le (.full xs) (.d (.sl xs)):=λ_ _ _ h=>by
 cases h with|full _ hp _=>exact .d hp
theorem AV.Le.nil:AV.Le (.d (.v (.slice none 0 0))) (.d (.sl [])):=λ_ _ _ h=>by
 rw[h.val];exact .d Ci
theorem AV.Le.agg{cs ds:amT AV}(hl:cs.length=ds.length)(h:∀(i:Nat)(c d:AV),cs[i]?=some c->ds[i]?=some d->AV.Le c d):AV.Le (.agg cs) (.agg ds):=λG w u hu=>by
 cases hu with
 |agg vs _ zW hv=>
  refine .agg vs ds (zW.trans hl) λi u d hui hd=> ?_;have aN:i<cs.length:=by rw[hl];exact(al5.1 hd).1
  exact h i _ d (al9 aN) hd G w u (hv i u _ hui (al9 aN))
set_option linter.unusedSimpArgs false
set_option linter.unusedVariables false
def rn:amT Nat->Nat->Nat->Nat
 |[],base,i=>base+i
 |j::_,_,0=>j
 |_::l,base,i+1=>rn l base i
theorem zh:∀(l:amT Nat)(base i:Nat)(j:Nat),l[i]?=some j->rn l base i=j
 |[],_,i,j,h=>by simp at h
 |a::l,base,0,j,h=>by simpa [rn]using h
 |a::l,base,i+1,j,h=>by rw[rn];exact zh l base i j (by simpa using h)
theorem Hd:∀(l:amT Nat)(base i:Nat),l.length<=i->rn l base i=base+(i-l.length)
 |[],base,i,_=>by simp [rn]
 |a::l,base,0,h=>by simp at h
 |a::l,base,i+1,h=>by rw[rn,Hd l base i (by simpa using h)];simp
mutual
def AV.aL(σ:Nat->Nat):AV->AV
 | .ptr n off=> .ptr (σ n) off
 | .own n xs=> .own (σ n) xs
 | .row n off len cap k=> .row (σ n) off len cap k
 | .mp n=> .mp (σ n)
 | .cp n=> .cp (σ n)
 | .vec n o len L k=> .vec (σ n) o len L k
 | .dD n i j L k=> .dD (σ n) i j L k
 | .agg cs=> .agg (AV.gp σ cs)
 | .aY cs=> .aY (AV.gp σ cs)
 | .fn f cs=> .fn f (AV.gp σ cs)
 | .d x=> .d x
 | .bp xs i off=> .bp xs i off
 | .full xs=> .full xs
 | .hid c=> .hid c
 | .dead=> .dead
def AV.gp(σ:Nat->Nat):amT AV->amT AV
 |[]=>[]
 |x::l=>x.aL σ::AV.gp σ l
end
theorem gQ(σ:Nat->Nat):∀l,AV.gp σ l=l.map (AV.aL σ)
 |[]=>by simp [AV.gp]
 |x::l=>by simp [AV.gp,gQ σ l]
def aq.aL(σ:Nat->Nat):aq->aq
 | .cells cs=> .cells (AV.gp σ cs)
 | .lp ls p as bd cs=> .lp ls p as bd (AV.gp σ cs)
 | .it sn cs=> .it sn (AV.gp σ cs)
 | .eR T cs=> .eR T (AV.gp σ cs)
 | .vec e k cs=> .vec e k (cs.map (AV.gp σ))
 | .front e k len=> .front e k len
 | .iy e b=> .iy e b
 | .map kv=> .map kv
 | .iC kv=> .iC kv
 | .gone=> .gone
def hX:amT Nat->amT aq->amT aq->amT aq
 |[],Bs,h=>h++Bs
 |_::_,[],h=>h
 |i::l,B::Bs,h=>hX l Bs (h.set i B)
structure qu(σ:Nat->Nat)(G G2:Gh):Prop where
 lt:∀n,n<G.N->σ n<G2.N
 aR:∀n,n<G.N->G2.aR (σ n)=G.aR n
 sg:∀n,n<G.N->G2.sg (σ n)=G.sg n
 fl:∀n,n<G.N->G2.fl (σ n)=G.fl n
 ow:∀n,n<G.N->G2.ow (σ n)=G.ow n
 S:∀b o,G2.S b o↔G.S b o
theorem dy.tM{S S':Nat->Nat->Prop}{w:amY}(hS:∀b o,S b o->S' b o){u:amX}{x:D}(h:dy S w u x):dy S' w u x:=h.keep hS (λ_ _ _=>rfl)
theorem aH.aL{σ:Nat->Nat}{G G2:Gh}{w:amY}(hR:qu σ G G2){u:amX}{x:AV}(h:aH G w u x):aH G2 w u (x.aL σ):=by
 have hS:∀b o,G.S b o->G2.S b o:=λb o h=>(hR.S b o).2 h;have fK:∀(vs:Array amX)(cs:amT AV),(∀(i:Nat)(u:amX)(c:AV),vs[i]?=some u->cs[i]?=some c->aH G2 w u (c.aL σ))->∀(i:Nat)(u:amX)(c:AV),vs[i]?=some u->(AV.gp σ cs)[i]?=some c->aH G2 w u c:=by
  intro vs cs ih i u c hu hc;rw[gQ,amc]at hc;cases hx:cs[i]? with
  |none=>rw[hx]at hc;cases hc
  |some x=>rw[hx]at hc;cases hc;exact ih i u x hu hx
 induction h with
 |agg vs cs hl _ ih=>rw[AV.aL];exact .agg vs _ (by rw[gQ,ama];exact hl) (fK vs cs ih)
 |aY vs cs hl _ ih=>rw[AV.aL];exact .aY vs _ (by rw[gQ,ama];exact hl) (fK vs cs ih)
 |fn f vs cs hl _ ih=>rw[AV.aL];exact .fn f vs _ (by rw[gQ,ama];exact hl) (fK vs cs ih)
 |d h=>rw[AV.aL];exact .d (h.tM hS)
 |full xs hp hf=>rw[AV.aL];exact .full xs (hp.tM hS) hf
 |ptr n off h=>rw[AV.aL,<-hR.aR n h];exact .ptr _ off (hR.lt n h)
 |row n off len cap k h hl hm=>rw[AV.aL,<-hR.aR n h];exact .row _ off len cap k (hR.lt n h) hl hm
 |mp n h=>rw[AV.aL,<-hR.aR n h];exact .mp _ (hR.lt n h)
 |cp n h=>rw[AV.aL,<-hR.aR n h];exact .cp _ (hR.lt n h)
 |own n xs h hp hle hf=>rw[AV.aL];exact .own _ xs (hR.lt n h) (hp.tM hS) (by rw[hR.fl n h];exact hle) (by rw[hR.fl n h,hR.sg n h];exact hf)
 |vec n o len L k h hs hL hf=>rw[AV.aL];exact .vec _ o len L k (hR.lt n h) hs (by rw[hR.fl n h];exact hL) (by rw[hR.fl n h,hR.sg n h];exact hf)
 |dD n i j L k h hs hL hf=>rw[AV.aL];exact .dD _ i j L k (hR.lt n h) hs (by rw[hR.fl n h];exact hL) (by rw[hR.fl n h,hR.sg n h];exact hf)
 |bp xs i off b o u x hx qQ hu=>rw[AV.aL];exact .bp xs i off b o u x hx (λj hj=>⟨hS _ _ (qQ j hj).1,(qQ j hj).2⟩) (λj d hd=>(hu j d hd).tM hS)
 |hid h h1=>rw[AV.aL];exact .hid (h.keep hS (λ_ _ _=>rfl)) h1
 |dead u=>rw[AV.aL];exact .dead u
theorem aH.sP{σ:Nat->Nat}{G G2:Gh}{w:amY}(hR:qu σ G G2){u:amX}{y:AV}(h:aH G2 w u y):∀x:AV,x.aL σ=y->x.aG G.N=true->aH G w u x:=by
 have hS:∀b o,G2.S b o->G.S b o:=λb o h=>(hR.S b o).1 h;have lt:∀n,(!cq G.N n)=true->n<G.N:=λn h=>by rw[Bool.not_eq_true',<-Bool.not_eq_true,dq]at h;omega
 have fK:∀(vs:Array amX)(cs xs:amT AV),(∀(i:Nat)(u:amX)(c:AV),vs[i]?=some u->cs[i]?=some c->∀x:AV,x.aL σ=c->x.aG G.N=true->aH G w u x)->AV.gp σ xs=cs->AV.ky G.N xs=true->∀(i:Nat)(u:amX)(c:AV),vs[i]?=some u->xs[i]?=some c->aH G w u c:=by
  intro vs cs xs ih e hb i u c hu hc;subst e;rw[mW,amv]at hb;exact ih i u (c.aL σ) hu (by rw[gQ,amc,hc];rfl) c rfl (hb c (ami hc))
 induction h with
 |agg vs cs hl _ ih=>
  intro x e hb;cases x<;>simp only[AV.aL,AV.agg.injEq,reduceCtorEq]at e
  next xs=>
   rw[AV.aG]at hb;exact .agg vs xs (by rw[hl,<-e,gQ,ama]) (fK vs cs xs ih e hb)
 |aY vs cs hl _ ih=>
  intro x e hb;cases x<;>simp only[AV.aL,AV.aY.injEq,reduceCtorEq]at e
  next xs=>
   rw[AV.aG]at hb;exact .aY vs xs (by rw[hl,<-e,gQ,ama]) (fK vs cs xs ih e hb)
 |fn f vs cs hl _ ih=>
  intro x e hb;cases x<;>simp only[AV.aL,AV.fn.injEq,reduceCtorEq]at e
  next g xs=>
   obtain⟨rfl,e⟩:=e;rw[AV.aG]at hb;exact .fn _ vs xs (by rw[hl,<-e,gQ,ama]) (fK vs cs xs ih e hb)
 |d h=>
  intro x e hb;cases x<;>simp only[AV.aL,AV.d.injEq,reduceCtorEq]at e
  next y=>subst e;exact .d (h.tM hS)
 |full xs hp hf=>
  intro x e hb;cases x<;>simp only[AV.aL,AV.full.injEq,reduceCtorEq]at e
  next y=>subst e;exact .full y (hp.tM hS) hf
 |ptr n off h=>
  intro x e hb;cases x<;>simp only[AV.aL,AV.ptr.injEq,reduceCtorEq]at e
  next m o=>
   obtain⟨e1,rfl⟩:=e;rw[AV.aG]at hb;have hm:=lt _ hb;rw[<-e1,hR.aR _ hm];exact .ptr _ _ hm
 |row n off len cap k h hl iu=>
  intro x e hb;cases x<;>simp only[AV.aL,AV.row.injEq,reduceCtorEq]at e
  next m o l c q=>
   obtain⟨e1,rfl,rfl,rfl,rfl⟩:=e;rw[AV.aG]at hb;have hm:=lt _ hb;rw[<-e1,hR.aR _ hm];exact .row _ _ _ _ _ hm hl iu
 |mp n h=>
  intro x e hb;cases x<;>simp only[AV.aL,AV.mp.injEq,reduceCtorEq]at e
  next m=>
   rw[AV.aG]at hb;have hm:=lt _ hb;rw[<-e,hR.aR _ hm];exact .mp _ hm
 |cp n h=>
  intro x e hb;cases x<;>simp only[AV.aL,AV.cp.injEq,reduceCtorEq]at e
  next m=>
   rw[AV.aG]at hb;have hm:=lt _ hb;rw[<-e,hR.aR _ hm];exact .cp _ hm
 |own n xs h hp hle hf=>
  intro x e hb;cases x<;>simp only[AV.aL,AV.own.injEq,reduceCtorEq]at e
  next m l=>
   obtain⟨e1,rfl⟩:=e;rw[AV.aG]at hb;have hm:=lt _ hb;rw[<-e1]at hle hf;exact .own _ _ hm (hp.tM hS) (by rw[<-hR.fl _ hm];exact hle) (by rw[<-hR.fl _ hm,<-hR.sg _ hm];exact hf)
 |vec n o len L k h hs hL hf=>
  intro x e hb;cases x<;>simp only[AV.aL,AV.vec.injEq,reduceCtorEq]at e
  next m a1 a2 a3 a4=>
   obtain⟨e1,rfl,rfl,rfl,rfl⟩:=e;rw[AV.aG]at hb;have hm:=lt _ hb;rw[<-e1]at hL hf;exact .vec _ _ _ _ _ hm hs (by rw[<-hR.fl _ hm];exact hL) (by rw[<-hR.fl _ hm,<-hR.sg _ hm];exact hf)
 |dD n i j L k h hs hL hf=>
  intro x e hb;cases x<;>simp only[AV.aL,AV.dD.injEq,reduceCtorEq]at e
  next m a1 a2 a3 a4=>
   obtain⟨e1,rfl,rfl,rfl,rfl⟩:=e;rw[AV.aG]at hb;have hm:=lt _ hb;rw[<-e1]at hL hf;exact .dD _ _ _ _ _ hm hs (by rw[<-hR.fl _ hm];exact hL) (by rw[<-hR.fl _ hm,<-hR.sg _ hm];exact hf)
 |bp xs i off b o u y hx qQ hu=>
  intro x e hb;cases x<;>simp only[AV.aL,AV.bp.injEq,reduceCtorEq]at e
  next a1 a2 a3=>
   obtain⟨rfl,rfl,rfl⟩:=e;exact .bp _ _ _ b o u y hx (λj hj=>⟨hS _ _ (qQ j hj).1,(qQ j hj).2⟩) (λj d hd=>(hu j d hd).tM hS)
 |hid h h1=>
  intro x e hb;cases x<;>simp only[AV.aL,AV.hid.injEq,reduceCtorEq]at e
  next c=>subst e;exact .hid (h.keep hS (λ_ _ _=>rfl)) h1
 |dead u=>
  intro x e hb;cases x<;>simp only[AV.aL,reduceCtorEq]at e
  exact .dead u
theorem PT{σ:Nat->Nat}{G G2:Gh}(hR:qu σ G G2){n:Nat}(hn:n<G.N)(B:aq):(B.aL σ).dV G2 (σ n)=B.dV G n:=by
 cases B<;>simp only[aq.aL,aq.dV,hR.aR n hn,hR.ow n hn]
theorem ep.aL{σ:Nat->Nat}{G G2:Gh}{w:amY}(hR:qu σ G G2){n:Nat}(hn:n<G.N){B:aq}(hz:∀b,B.dV G n=some b->¬G2.Z b)(h:ep G w n B):ep G2 w (σ n) (B.aL σ):=by
 have hS:∀b o,¬G.S b o->¬G2.S b o:=λb o h h2=>h ((hR.S b o).1 h2);cases B with
 |gone=>trivial
 |cells cs=>
  obtain⟨h1,h2,vs,T,h3,h4,h5⟩:=h;rw[aq.aL];refine⟨by rw[hR.aR n hn];exact hz _ rfl,by rw[hR.aR n hn];exact λo=>hS _ _ (h2 o),vs,T,by rw[hR.aR n hn];exact h3,by rw[gQ,ama];exact h4,λi u c hu hc=> ?_⟩;rw[gQ,amc]at hc;cases hx:cs[i]? with
  |none=>rw[hx]at hc;cases hc
  |some x=>rw[hx]at hc;cases hc;exact(h5 i u x hu hx).aL hR
 |lp ls p as bd cs=>
  obtain⟨h1,h2,fn,vs,T,h3,h4,h5⟩:=h;rw[aq.aL];refine⟨by rw[hR.aR n hn];exact hz _ rfl,by rw[hR.aR n hn];exact λo=>hS _ _ (h2 o),fn,vs,T,by rw[hR.aR n hn];exact h3,by rw[gQ,ama];exact h4,λi u c hu hc=> ?_⟩;rw[gQ,amc]at hc;cases hx:cs[i]? with
  |none=>rw[hx]at hc;cases hc
  |some x=>rw[hx]at hc;cases hc;exact(h5 i u x hu hx).aL hR
 |it sn cs=>
  obtain⟨h1,h2,fn,vs,T,h3,h4,h5⟩:=h;rw[aq.aL];refine⟨by rw[hR.aR n hn];exact hz _ rfl,by rw[hR.aR n hn];exact λo=>hS _ _ (h2 o),fn,vs,T,by rw[hR.aR n hn];exact h3,by rw[gQ,ama];exact h4,λi u c hu hc=> ?_⟩;rw[gQ,amc]at hc;cases hx:cs[i]? with
  |none=>rw[hx]at hc;cases hc
  |some x=>rw[hx]at hc;cases hc;exact(h5 i u x hu hx).aL hR
 |eR T0 cs=>
  obtain⟨h1,h2,fn,vs,T,h3,h4,h5⟩:=h;rw[aq.aL];refine⟨by rw[hR.aR n hn];exact hz _ rfl,by rw[hR.aR n hn];exact λo=>hS _ _ (h2 o),fn,vs,T,by rw[hR.aR n hn];exact h3,by rw[gQ,ama,hR.aR n hn];exact h4,λi u c hu hc=> ?_⟩;rw[gQ,amc]at hc;cases hx:cs[i]? with
  |none=>rw[hx]at hc;cases hc
  |some x=>rw[hx]at hc;cases hc;exact(h5 i u x hu hx).aL hR
 |map kv=>
  obtain⟨h1,h2,es,c,h3,h4⟩:=h;exact⟨by rw[hR.aR n hn];exact hz _ rfl,by rw[hR.aR n hn];exact λo=>hS _ _ (h2 o),es,c,by rw[hR.aR n hn];exact h3,h4.keep (λb o h=>(hR.S b o).2 h) (λ_ _ _=>rfl)⟩
 |iC kv=>
  obtain⟨h1,h2,es,c,h3,h4⟩:=h;exact⟨by rw[hR.aR n hn];exact hz _ rfl,by rw[hR.aR n hn];exact λo=>hS _ _ (h2 o),es,c,by rw[hR.aR n hn];exact h3,h4.keep (λb o h=>(hR.S b o).2 h) (λ_ _ _=>rfl)⟩
 |iy e b=>
  obtain⟨h1,hm,h2⟩:=h;refine⟨(hR.fl n hn).trans h1,hm,?_⟩;rcases h2 with⟨h2,h0,A,h3⟩|⟨g,cap,cur,h2,h3,h4,h5,h6,h7,h8,h9,aW⟩
  ·exact .inl ⟨(hR.ow n hn).trans h2,h0,A,(hR.sg n hn).trans h3⟩
  ·exact .inr ⟨g,cap,cur,(hR.ow n hn).trans h2,(hR.sg n hn).trans h3,hz g h2,h5,h6,h7,h8,λo=>hS _ _ (h9 o),aW⟩
 |front e k len=>
  obtain⟨h1,hm,h2⟩:=h;refine⟨(hR.fl n hn).trans h1,hm,?_⟩;rcases h2 with⟨h2,A,h3⟩|⟨g,cap,cur,h2,h3,h4,h5,h6,h7,h8,h9⟩
  ·exact .inl ⟨(hR.ow n hn).trans h2,A,(hR.sg n hn).trans h3⟩
  ·exact .inr ⟨g,cap,cur,(hR.ow n hn).trans h2,(hR.sg n hn).trans h3,hz g h2,h5,h6,h7,h8,λo ho=>hS _ _ (h9 o ho)⟩
 |vec e k cs=>
  obtain⟨h1,hm,hk,h2⟩:=h;rw[aq.aL];refine⟨by rw[ama];exact(hR.fl n hn).trans h1,by rw[ama];exact hm,λc hc=> ?_,?_⟩
  ·obtain⟨x,hx,rfl⟩:=List.mem_map.1 hc;rw[gQ,ama];exact hk x hx
  ·rcases h2 with⟨h2,e2,A,h3⟩|⟨g,cap,cur,h2,h3,h4,h5,h6,h7,h8,h9,aW⟩
   ·exact .inl ⟨(hR.ow n hn).trans h2,by rw[e2];rfl,A,(hR.sg n hn).trans h3⟩
   ·refine .inr ⟨g,cap,cur,(hR.ow n hn).trans h2,by rw[ama];exact(hR.sg n hn).trans h3,hz g h2,h5,by rw[ama];exact h6,h7,h8,λo=>hS _ _ (h9 o),λi j c x u hc hx hu=> ?_⟩;rw[amc]at hc;cases hy:cs[i]? with
    |none=>rw[hy]at hc;cases hc
    |some y=>
     rw[hy]at hc;cases hc
     rw[gQ,amc]at hx;cases hw:y[j]? with
     |none=>rw[hw]at hx;cases hx
     |some z=>rw[hw]at hx;cases hx;exact(aW i j y z u hy hw hu).aL hR
theorem ep.sP{σ:Nat->Nat}{G G2:Gh}{w:amY}(hR:qu σ G G2){n:Nat}(hn:n<G.N){B:aq}(hb:B.aG G.N=true)(hz:∀b,B.dV G n=some b->¬G.Z b)(h:ep G2 w (σ n) (B.aL σ)):ep G w n B:=by
 have hS:∀b o,¬G2.S b o->¬G.S b o:=λb o h h2=>h ((hR.S b o).2 h2);cases B with
 |gone=>trivial
 |cells cs=>
  rw[aq.aL]at h;obtain⟨h1,h2,vs,T,h3,h4,h5⟩:=h;rw[hR.aR n hn]at h2 h3;rw[gQ,ama]at h4;simp only[aq.aG,amv]at hb;exact⟨hz _ rfl,λo=>hS _ _ (h2 o),vs,T,h3,h4,λi u c hu hc=>aH.sP hR (h5 i u (c.aL σ) hu (by rw[gQ,amc,hc];rfl)) c rfl (hb c (ami hc))⟩
 |lp ls p as bd cs=>
  rw[aq.aL]at h;obtain⟨h1,h2,fn,vs,T,h3,h4,h5⟩:=h;rw[hR.aR n hn]at h2 h3;rw[gQ,ama]at h4;simp only[aq.aG,amv]at hb;exact⟨hz _ rfl,λo=>hS _ _ (h2 o),fn,vs,T,h3,h4,λi u c hu hc=>aH.sP hR (h5 i u (c.aL σ) hu (by rw[gQ,amc,hc];rfl)) c rfl (hb c (ami hc))⟩
 |it sn cs=>
  rw[aq.aL]at h;obtain⟨h1,h2,fn,vs,T,h3,h4,h5⟩:=h;rw[hR.aR n hn]at h2 h3;rw[gQ,ama]at h4;simp only[aq.aG,amv]at hb;exact⟨hz _ rfl,λo=>hS _ _ (h2 o),fn,vs,T,h3,h4,λi u c hu hc=>aH.sP hR (h5 i u (c.aL σ) hu (by rw[gQ,amc,hc];rfl)) c rfl (hb c (ami hc))⟩
 |eR T0 cs=>
  rw[aq.aL]at h;obtain⟨h1,h2,fn,vs,T,h3,h4,h5⟩:=h;rw[hR.aR n hn]at h2 h3 h4;rw[gQ,ama]at h4;simp only[aq.aG,amv]at hb;exact⟨hz _ rfl,λo=>hS _ _ (h2 o),fn,vs,T,h3,h4,λi u c hu hc=>aH.sP hR (h5 i u (c.aL σ) hu (by rw[gQ,amc,hc];rfl)) c rfl (hb c (ami hc))⟩
 |map kv=>
  obtain⟨h1,h2,es,c,h3,h4⟩:=h;rw[hR.aR n hn]at h2 h3;exact⟨hz _ rfl,λo=>hS _ _ (h2 o),es,c,h3,h4.keep (λb o h=>(hR.S b o).1 h) (λ_ _ _=>rfl)⟩
 |iC kv=>
  obtain⟨h1,h2,es,c,h3,h4⟩:=h;rw[hR.aR n hn]at h2 h3;exact⟨hz _ rfl,λo=>hS _ _ (h2 o),es,c,h3,h4.keep (λb o h=>(hR.S b o).1 h) (λ_ _ _=>rfl)⟩
 |iy e b=>
  obtain⟨h1,hm,h2⟩:=h;rw[hR.fl n hn]at h1;rw[hR.ow n hn,hR.sg n hn]at h2;refine⟨h1,hm,?_⟩;rcases h2 with⟨h2,h0,A,h3⟩|⟨g,cap,cur,h2,h3,h4,h5,h6,h7,h8,h9,aW⟩
  ·exact .inl ⟨h2,h0,A,h3⟩
  ·exact .inr ⟨g,cap,cur,h2,h3,hz g h2,h5,h6,h7,h8,λo=>hS _ _ (h9 o),aW⟩
 |front e k len=>
  obtain⟨h1,hm,h2⟩:=h;rw[hR.fl n hn]at h1;rw[hR.ow n hn,hR.sg n hn]at h2;refine⟨h1,hm,?_⟩;rcases h2 with⟨h2,A,h3⟩|⟨g,cap,cur,h2,h3,h4,h5,h6,h7,h8,h9⟩
  ·exact .inl ⟨h2,A,h3⟩
  ·exact .inr ⟨g,cap,cur,h2,h3,hz g h2,h5,h6,h7,h8,λo ho=>hS _ _ (h9 o ho)⟩
 |vec e k cs=>
  rw[aq.aL]at h;obtain⟨h1,hm,hk,h2⟩:=h;rw[hR.fl n hn,ama]at h1;rw[ama]at hm;rw[hR.ow n hn,hR.sg n hn,ama]at h2;simp only[aq.aG,amv]at hb;refine⟨h1,hm,λc hc=> ?_,?_⟩
  ·have:=hk _ (List.mem_map.2 ⟨c,hc,rfl⟩)
   rwa [gQ,ama]at this
  ·rcases h2 with⟨h2,e2,A,h3⟩|⟨g,cap,cur,h2,h3,h4,h5,h6,h7,h8,h9,aW⟩
   ·exact .inl ⟨h2,List.map_eq_nil_iff.1 e2,A,h3⟩
   ·refine .inr ⟨g,cap,cur,h2,h3,hz g h2,h5,h6,h7,h8,λo=>hS _ _ (h9 o),λi j c x u hc hx hu=> ?_⟩;exact aH.sP hR (aW i j (AV.gp σ c) (x.aL σ) u (by rw[amc,hc];rfl) (by rw[gQ,amc,hx];rfl) hu) x rfl (hb c (ami hc) x (ami hx))
theorem YW:∀(l:amT Nat)(Bs h:amT aq),l.length<=Bs.length->(hX l Bs h).length=h.length+(Bs.length-l.length)
 |[],Bs,h,_=>by simp [hX]
 |j::l,[],h,hl=>by simp at hl
 |j::l,B::Bs,h,hl=>by rw[hX,YW l Bs _ (by simpa using hl),List.length_set];simp
theorem Oc:∀(l:amT Nat)(Bs h:amT aq)(n:Nat),l.length<=Bs.length->n<h.length->n ∉ l->(hX l Bs h)[n]?=h[n]?
 |[],Bs,h,n,_,hn,_=>by rw[hX,amf hn]
 |j::l,[],h,n,hl,_,_=>by simp at hl
 |j::l,B::Bs,h,n,hl,hn,hm=>by
  simp only[amz,not_or]at hm;rw[hX,Oc l Bs _ n (by simpa using hl) (by rw[List.length_set];exact hn) hm.2,amD (Ne.symm hm.1)]
theorem Ue:∀(l:amT Nat)(Bs h:amT aq)(i:Nat),l.length<=Bs.length->l.Nodup->(∀j∈l,j<h.length)->i<Bs.length->(hX l Bs h)[rn l h.length i]?=Bs[i]?
 |[],Bs,h,i,_,_,_,hi=>by rw[hX,rn,aml (amK _ _),Nat.add_sub_cancel_left]
 |j::l,[],h,i,hl,_,_,_=>by simp at hl
 |j::l,B::Bs,h,0,hl,hd,aN,_=>by
  rw[List.nodup_cons]at hd;rw[hX,rn,Oc l Bs _ j (by simpa using hl) (by rw[List.length_set];exact aN j (by simp)) hd.1,amy (aN j (by simp))];rfl
 |j::l,B::Bs,h,i+1,hl,hd,aN,hi=>by
  rw[List.nodup_cons]at hd;have:=Ue l Bs (h.set j B) i (by simpa using hl) hd.2 (λx hx=>by rw[List.length_set];exact aN x (by simp [hx])) (by simpa using hi);rw[List.length_set]at this;rw[hX,rn,this];simp
def xg(l:amT Nat)(base n:Nat):amV Nat:=if n∈l then some (l.idxOf n)else if base<=n then some (l.length+(n-base))else none
theorem PC{l:amT Nat}{base:Nat}(hd:l.Nodup)(aN:∀j∈l,j<base)(i:Nat):xg l base (rn l base i)=some i:=by
 unfold xg;by_cases hi:i<l.length
 ·have e:l[i]?=some l[i]:=al9 hi;rw[zh l base i _ e,if_pos (List.getElem_mem _),List.Nodup.idxOf_getElem hd i hi]
 ·rw[Hd l base i (by omega),if_neg (λh=>by have:=aN _ h;omega),if_pos (amK _ _)]
  congr 1;omega
theorem Lc{l:amT Nat}{base n i:Nat}(h:xg l base n=some i):rn l base i=n:=by
 unfold xg at h;split at h
 ·rename_i hm
  cases h
  have aN:=List.idxOf_lt_length_of_mem hm;refine zh l base _ n ?_;rw[al9 aN,List.getElem_idxOf]
 ·split at h
  ·cases h
   rw[Hd _ _ _ (by omega)];omega
  ·cases h
theorem ajn{l:amT Nat}{base n:Nat}(h:xg l base n=none):n<base/\n ∉ l:=by
 unfold xg at h;split at h
 ·cases h
 ·split at h
  ·cases h
  ·rename_i h1 h2;exact⟨by omega,h1⟩
def ru{α:Type}(o:amV Nat)(f:Nat->α)(d:α):α:=match o with|some i=>f i|none=>d
theorem Sp{H:amT aq}{l:amT Nat}{h:amT aq}
 (hd:l.Nodup) (aN:∀j∈l,j<h.length) (hH:∀(i j:Nat),l[i]?=some j->h[j]?=(H[i]?).map (aq.aL (rn l h.length))) (hk:l.length=H.length)
 (hb:H.all (aq.aG H.length)=true) {G:Gh} {w:amY} (hi:bU G w h):
 ∃G0:Gh,G0.N=H.length/\bU G0 w H/\qu (rn l h.length) G0 G/\∀(G1:Gh)(w':amY)(H':amT aq),bN H.length G0 w G1 w'->H.length<=G1.N->bU G1 w' H'->
  ∃G2:Gh,bN G.N G w G2 w'/\G.N<=G2.N/\bU G2 w' (hX l (H'.map (aq.aL (rn l h.length))) h)/\qu (rn l h.length) G1 G2:=by
 obtain⟨σ,hσ⟩:∃σ,σ=rn l h.length:=⟨_,rfl⟩;rw[<-hσ]at hH ⊢;have Jd:h.length=G.N:=hi.len;obtain⟨own,eF⟩:∃own:Nat->Prop,own=λb=>∃j∈l,bR h G j=some b:=⟨_,rfl⟩;obtain⟨G0,kS⟩:∃G0:Gh,G0={N:=H.length,Z:=λb=>b<w.heap.size/\¬own b,S:=G.S,aR:=λi=>G.aR (σ i),sg:=λi=>G.sg (σ i),ow:=λi=>G.ow (σ i),fl:=λi=>G.fl (σ i),M:=G.M}:=⟨_,rfl⟩;have H5:∀i,i<H.length->∃j,l[i]?=some j/\σ i=j/\j∈l:=λi dY=>by
  have jx:i<l.length:=by rw[hk];exact dY
  exact⟨l[i],al9 jx,by rw[hσ];exact zh l _ i _ (al9 jx),List.getElem_mem _⟩
 have sL:qu σ G0 G:=by
  subst kS;refine⟨λn hn=> ?_,λ_ _=>rfl,λ_ _=>rfl,λ_ _=>rfl,λ_ _=>rfl,λ_ _=>Iff.rfl⟩;obtain⟨j,_,e,hj⟩:=H5 n hn;rw[e,<-Jd];exact aN j hj
 have cv:G0.N=H.length:=by rw[kS]
 have Yz:∀(i:Nat)(B:aq),H[i]?=some B->h[σ i]?=some (B.aL σ):=λi B hB=>by
  obtain⟨j,e1,e2,_⟩:=H5 i (al5.1 hB).1;rw[e2,hH i j e1,hB];rfl
 have Pt:∀(i:Nat)(B:aq)(b:Nat),H[i]?=some B->B.dV G0 i=some b->bR h G (σ i)=some b:=λi B b hB gC=>by
  rw[dJ (Yz i B hB),PT sL (by rw[cv];exact(al5.1 hB).1) B];exact gC
 have vv:∀(i:Nat)(B:aq)(b:Nat),H[i]?=some B->B.dV G0 i=some b->¬G0.Z b:=λi B b hB gC hz=>by
  rw[kS]at hz;refine hz.2 ?_;rw[eF];obtain⟨j,_,e2,hj⟩:=H5 i (al5.1 hB).1;exact⟨j,hj,by rw[<-e2];exact Pt i B b hB gC⟩
 have aaJ:∀i i',σ i=σ i'->i=i':=λi i' e=>by
  have h1:=PC hd aN i;have h2:=PC hd aN i';rw[hσ]at e;rw[e,h2]at h1;exact(amo h1).symm
 have rY:bU G0 w H:=by
  refine⟨cv.symm,λb hz=> ?_,λb o hs=> ?_,λi B hB=> ?_,λm n b h1 h2=> ?_,by rw[kS];exact hi.gl⟩
  ·rw[kS]at hz;exact hz.1
  ·rw[kS]at hs;exact hi.S b o hs
  ·have hiN:i<G0.N:=by rw[cv];exact(al5.1 hB).1
   rw[amv]at hb;exact ep.sP sL hiN (by rw[cv];exact hb B (ami hB)) (λb gC=>vv i B b hB gC) (hi.dk (σ i) _ (Yz i B hB))
  ·obtain⟨B1,tc,jQ⟩:=m3 h1;obtain⟨B2,L4,kr⟩:=m3 h2;exact aaJ m n (hi.inj _ _ b (Pt m B1 b tc jQ) (Pt n B2 b L4 kr))
 refine⟨G0,cv,rY,sL,λG1 w' H' hE fU jP=> ?_⟩;have Cg:H'.length=G1.N:=jP.len;obtain⟨ps,C2⟩:∃ps,ps=xg l h.length:=⟨_,rfl⟩;obtain⟨G2,iw⟩:∃G2:Gh,G2={N:=G.N+(G1.N-H.length),Z:=G.Z,S:=G1.S,aR:=λn=>ru (ps n) G1.aR (G.aR n),sg:=λn=>ru (ps n) G1.sg (G.sg n),ow:=λn=>ru (ps n) G1.ow (G.ow n),fl:=λn=>ru (ps n) G1.fl (G.fl n),M:=G.M}:=⟨_,rfl⟩;have HQ:∀i,ps (σ i)=some i:=λi=>by rw[C2,hσ];exact PC hd aN i
 have HH:∀i,H.length<=i->σ i=G.N+(i-H.length):=λi kI=>by rw[hσ,Hd l _ i (by omega),Jd,hk]
 have ah2:∀i,i<H.length->σ i<G.N:=λi FA=>by
  obtain⟨j,_,e,hj⟩:=H5 i FA;rw[e,<-Jd];exact aN j hj
 have Nt:qu σ G1 G2:=by
  subst iw;refine⟨λn hn=> ?_,λn _=>by simp only[HQ];rfl,λn _=>by simp only[HQ];rfl,λn _=>by simp only[HQ];rfl,λn _=>by simp only[HQ];rfl,λ_ _=>Iff.rfl⟩;show σ n<G.N+(G1.N-H.length);by_cases eW:n<H.length
  ·have:=ah2 n eW;omega
  ·rw[HH n (by omega)];omega
 have Xy:∀b,G0.Z b->G1.Z b:=hE.Z.1.1;have Qh:∀b,G.Z b->G0.Z b:=λb hz=>by
  rw[kS];refine⟨hi.z b hz,λho=> ?_⟩;rw[eF]at ho;obtain⟨j,_,ho⟩:=ho;obtain⟨B,hB,gC⟩:=m3 ho;exact(hi.dk j B hB).lr gC hz
 have jo:bN G.N G w G2 w':=by
  refine⟨hE.size,λb o hs=> ?_,λb o hs=> ?_,λn hn=> ?_,λn hn=> ?_,hY (by rw[iw]) (by rw[iw]),λb hz=>hE.old b (Qh b hz),hE.os,hE.tape,hE.output,λb o hs=> ?_⟩
  ·rw[iw];exact hE.S b o (by rw[kS];exact hs)
  ·exact hE.cell b o (by rw[kS];exact hs)
  ·rw[iw];show ru (ps n) G1.aR (G.aR n)=G.aR n;cases hp:ps n with
   |none=>rfl
   |some i=>
    have e:σ i=n:=by rw[hσ];rw[C2]at hp;exact Lc hp
    have dY:i<H.length:=Nat.lt_of_not_le λkI=>by rw[HH i kI]at e;omega
    show G1.aR i=G.aR n;rw[hE.aR i dY,kS,<-e]
  ·rw[iw];show(ru (ps n) G1.fl (G.fl n)=G.fl n/\ru (ps n) G1.sg (G.sg n)=G.sg n)\/G.fl n<ru (ps n) G1.fl (G.fl n);cases hp:ps n with
   |none=>exact .inl ⟨rfl,rfl⟩
   |some i=>
    have e:σ i=n:=by rw[hσ];rw[C2]at hp;exact Lc hp
    have dY:i<H.length:=Nat.lt_of_not_le λkI=>by rw[HH i kI]at e;omega
    have:=hE.fr i dY;rw[kS]at this;simp only[e]at this;exact this
  ·rw[iw]at hs;rcases hE.new b o hs with h1|h1
   ·rw[kS]at h1;exact .inl h1
   ·exact .inr λhz=>h1 (Qh b hz)
 have hlen:(hX l (H'.map (aq.aL σ)) h).length=G2.N:=by
  rw[YW _ _ _ (by rw[ama,hk,Cg];omega),ama,Cg,hk,Jd,iw]
 have af7:∀i,i<G1.N->(hX l (H'.map (aq.aL σ)) h)[σ i]?=(H'[i]?).map (aq.aL σ):=λi dY=>by
  rw[<-amc,hσ];exact Ue l _ h i (by rw[ama,hk,Cg];omega) hd aN (by rw[ama,Cg];exact dY)
 have HI:∀(n:Nat)(B:aq),(hX l (H'.map (aq.aL σ)) h)[n]?=some B->(∃i B',i<G1.N/\n=σ i/\H'[i]?=some B'/\B=B'.aL σ)\/(ps n=none/\n ∉ l/\h[n]?=some B):=λn B hB=>by
  have RN:n<G2.N:=by rw[<-hlen];exact(al5.1 hB).1
  cases hp:ps n with
  |none=>
   rw[C2]at hp;obtain⟨h1,h2⟩:=ajn hp;exact .inr ⟨rfl,h2,by rw[<-Oc l (H'.map (aq.aL σ)) h n (by rw[ama,hk,Cg];omega) h1 h2];exact hB⟩
  |some i=>
   have e:σ i=n:=by rw[hσ];rw[C2]at hp;exact Lc hp
   have dY:i<G1.N:=Nat.lt_of_not_le λkI=>by
    rw[HH i (by omega)]at e;rw[iw]at RN;have:n<G.N+(G1.N-H.length):=RN;omega
   rw[<-e,af7 i dY]at hB;cases hx:H'[i]? with
   |none=>rw[hx]at hB;cases hB
   |some B'=>rw[hx]at hB;cases hB;exact .inl ⟨i,B',dY,e.symm,hx,rfl⟩
 have hold:∀(n b:Nat),n ∉ l->bR h G n=some b->G0.Z b:=λn b hn gC=>by
  rw[kS];refine⟨hi.ownlt gC,λho=> ?_⟩;rw[eF]at ho;obtain⟨j,hj,ho⟩:=ho;exact hn ((hi.inj n j b gC ho)▸hj)
 have CH:∀(n b:Nat),bR (hX l (H'.map (aq.aL σ)) h) G2 n=some b->(∃i,n=σ i/\bR H' G1 i=some b/\¬G0.Z b)\/(n ∉ l/\bR h G n=some b/\G0.Z b):=λn b gC=>by
  obtain⟨B,hB,jQ⟩:=m3 gC;rcases HI n B hB with⟨i,B',dY,rfl,dN,rfl⟩|⟨hp,hn,dN⟩
  ·rw[PT Nt dY]at jQ;exact .inl ⟨i,rfl,(dJ dN).trans jQ,λhz=>(jP.dk i B' dN).lr jQ (Xy _ hz)⟩
  ·have e:B.dV G2 n=B.dV G n:=by
    subst iw;cases B<;>simp only[aq.dV,hp,ru]
   have:=(dJ dN).trans (e▸jQ);exact .inr ⟨hn,this,hold n b hn this⟩
 refine⟨G2,jo,by rw[iw];exact amK _ _,⟨hlen,λb hz=> ?_,λb o hs=> ?_,λn B hB=> ?_,λm n b h1 h2=> ?_,hi.gl.keep jo⟩,Nt⟩
 ·rw[iw]at hz;exact amt (hi.z b hz) hE.size
 ·rw[iw]at hs;exact jP.S b o hs
 ·rcases HI n B hB with⟨i,B',dY,rfl,dN,rfl⟩|⟨hp,hn,dN⟩
  ·refine ep.aL Nt dY (λb gC hz=> ?_) (jP.dk i B' dN);have:=(jP.dk i B' dN).lr gC;rw[iw]at hz;exact this (Xy b (Qh b hz))
  ·have nP:n<G.N:=by rw[<-hi.len];exact(al5.1 dN).1
   refine ep.keep nP jo (by rw[iw];exact amK _ _) (by rw[iw];simp only[hp];exact⟨rfl,rfl,rfl⟩) (λb gC=> ?_) (hi.dk n B dN);have hz:=hold n b hn ((dJ dN).trans gC);refine⟨hE.old b hz,λo jw hs=> ?_⟩;rw[iw]at hs;rcases hE.new b o hs with h1|h1
   ·rw[kS]at h1;exact jw h1
   ·exact h1 hz
 ·rcases CH m b h1 with⟨i,rfl,a1,a2⟩|⟨a0,a1,a2⟩<;>rcases CH n b h2 with⟨j,rfl,b1,b2⟩|⟨b0,b1,b2⟩
  ·rw[jP.inj i j b a1 b1]
  ·exact absurd b2 a2
  ·exact absurd a2 b2
  ·exact hi.inj m n b a1 b1
theorem cZ.Q0{P:amW}{f:FuncId}{args:amT AV}{H:amT aq}{K:AV->amT aq->Prop}(hc:cZ P f args H K){l:amT Nat}{h:amT aq}
 (hd:l.Nodup) (aN:∀j∈l,j<h.length) (hH:∀(i j:Nat),l[i]?=some j->h[j]?=(H[i]?).map (aq.aL (rn l h.length))) (hk:l.length=H.length)
 (ha:args.all (AV.aG H.length)=true) (hb:H.all (aq.aG H.length)=true):
 cZ P f (args.map (AV.aL (rn l h.length))) h λr' h'=>∃r H',K r H'/\r'=r.aL (rn l h.length)/\h'=hX l (H'.map (aq.aL (rn l h.length))) h:=by
 refine⟨hc.1,λG w vs hi vC ZS=> ?_⟩;obtain⟨G0,cv,rY,sL,Ph⟩:=Sp hd aN hH hk hb hi;refine(hc.2 G0 w vs rY (by rw[vC,ama]) λi u c hu hx=> ?_).mono λe w' hp=> ?_
 ·rw[amv]at ha;exact aH.sP sL (ZS i u (c.aL (rn l h.length)) hu (by rw[amc,hx];rfl)) c rfl (by rw[cv];exact ha c (ami hx))
 ·obtain⟨v,G1,r,H',rfl,hE,fU,jP,hv,hK⟩:=hp;rw[cv]at fU hE;obtain⟨G2,e1,e2,e3,e4⟩:=Ph G1 w' H' hE fU jP;exact⟨v,G2,r.aL _,_,rfl,e1,e2,e3,hv.aL e4,r,H',hK,rfl,rfl⟩
mutual
theorem yN{σ τ:Nat->Nat}{k:Nat}(h:∀i,i<k->σ i=τ i):∀x:AV,x.aG k=true->x.aL σ=x.aL τ
 | .ptr n off,hb=>by rw[AV.aG]at hb;rw[AV.aL,AV.aL,h n (by rw[Bool.not_eq_true',<-Bool.not_eq_true,dq]at hb;omega)]
 | .own n xs,hb=>by rw[AV.aG]at hb;rw[AV.aL,AV.aL,h n (by rw[Bool.not_eq_true',<-Bool.not_eq_true,dq]at hb;omega)]
 | .row n off len cap q,hb=>by rw[AV.aG]at hb;rw[AV.aL,AV.aL,h n (by rw[Bool.not_eq_true',<-Bool.not_eq_true,dq]at hb;omega)]
 | .mp n,hb=>by rw[AV.aG]at hb;rw[AV.aL,AV.aL,h n (by rw[Bool.not_eq_true',<-Bool.not_eq_true,dq]at hb;omega)]
 | .cp n,hb=>by rw[AV.aG]at hb;rw[AV.aL,AV.aL,h n (by rw[Bool.not_eq_true',<-Bool.not_eq_true,dq]at hb;omega)]
 | .vec n o len L q,hb=>by rw[AV.aG]at hb;rw[AV.aL,AV.aL,h n (by rw[Bool.not_eq_true',<-Bool.not_eq_true,dq]at hb;omega)]
 | .dD n i j L q,hb=>by rw[AV.aG]at hb;rw[AV.aL,AV.aL,h n (by rw[Bool.not_eq_true',<-Bool.not_eq_true,dq]at hb;omega)]
 | .agg cs,hb=>by rw[AV.aG]at hb;rw[AV.aL,AV.aL,rW h cs hb]
 | .aY cs,hb=>by rw[AV.aG]at hb;rw[AV.aL,AV.aL,rW h cs hb]
 | .fn f cs,hb=>by rw[AV.aG]at hb;rw[AV.aL,AV.aL,rW h cs hb]
 | .d x,_=>by rw[AV.aL,AV.aL]
 | .bp xs i off,_=>by rw[AV.aL,AV.aL]
 | .full xs,_=>by rw[AV.aL,AV.aL]
 | .hid c,_=>by rw[AV.aL,AV.aL]
 | .dead,_=>by rw[AV.aL,AV.aL]
theorem rW{σ τ:Nat->Nat}{k:Nat}(h:∀i,i<k->σ i=τ i):∀l:amT AV,AV.ky k l=true->AV.gp σ l=AV.gp τ l
 |[],_=>by rw[AV.gp,AV.gp]
 |x::l,hb=>by
  rw[AV.ky,al7]at hb;rw[AV.gp,AV.gp,yN h x hb.1,rW h l hb.2]
end
theorem Mi{σ τ:Nat->Nat}{k:Nat}(h:∀i,i<k->σ i=τ i)(B:aq)(hb:B.aG k=true):B.aL σ=B.aL τ:=by
 cases B with
 |cells cs=>rw[aq.aL,aq.aL,rW h cs (by rw[mW];exact hb)]
 |lp ls p as bd cs=>rw[aq.aL,aq.aL,rW h cs (by rw[mW];exact hb)]
 |it sn cs=>rw[aq.aL,aq.aL,rW h cs (by rw[mW];exact hb)]
 |eR T0 cs=>rw[aq.aL,aq.aL,rW h cs (by rw[mW];exact hb)]
 |vec e q cs=>
  rw[aq.aL,aq.aL]
  congr 1
  refine amA λc hc=>rW h c ?_;simp only[aq.aG,amv]at hb;rw[mW,amv];exact hb c hc
 |_=>rfl
theorem SL:∀(l:amT Nat)(b c i:Nat),i<l.length->rn l b i=rn l c i
 |[],b,c,i,h=>by simp at h
 |a::l,b,c,0,_=>by rw[rn,rn]
 |a::l,b,c,i+1,h=>by rw[rn,rn];exact SL l b c i (by simpa using h)
def o9:amT Nat->Bool
 |[]=>true
 |a::l=> !l.any (·==a)&&o9 l
theorem XV:∀{l:amT Nat},o9 l=true->l.Nodup
 |[],_=>List.nodup_nil
 |a::l,h=>by
  rw[o9,al7,Bool.not_eq_true',<-Bool.not_eq_true]at h;rw[List.nodup_cons];exact⟨λhm=>h.1 (List.any_eq_true.2 ⟨a,hm,by simp⟩),XV h.2⟩
theorem TH:∀(l:amT Nat)(h Bs:amT aq),l.map (λj=>h[j]?)=Bs.map some->hX l Bs h=h
 |[],h,Bs,e=>by
  cases Bs with
  |nil=>rw[hX,amq]
  |cons=>simp at e
 |j::l,h,Bs,e=>by
  cases Bs with
  |nil=>simp at e
  |cons B Bs=>
   rw[amu,amu]at e;injection e with e1 e2;have hs:h.set j B=h:=by
     refine List.ext_getElem? λm=> ?_;by_cases em:j=m
     ·subst em;rw[amy (al5.1 e1).1,e1]
     ·rw[amD em]
   rw[hX,hs];exact TH l h Bs e2
section
variable {P:amW} {f:FuncId} {e6:amT AV} {H:amT aq} {l:amT Nat} {h:amT aq}
theorem Tc{l:amT Nat}{h H:amT aq}{σ:Nat->Nat}(hb:l.map (λj=>h[j]?)=H.map λB=>some (B.aL σ)):l.length=H.length/\(∀j∈l,j<h.length)/\∀(i j:Nat),l[i]?=some j->h[j]?=(H[i]?).map (aq.aL σ):=by
 have h1:l.length=H.length:=by simpa using congrArg List.length hb
 have key:∀(i j:Nat),l[i]?=some j->∃B,H[i]?=some B/\h[j]?=some (B.aL σ):=λi j e=>by
  have aN:i<H.length:=by rw[<-h1];exact(al5.1 e).1
  have:=congrArg (·[i]?) hb;simp only[amc,e,al9 aN,Option.map_some,Option.some.injEq]at this;exact⟨_,al9 aN,this⟩
 refine⟨h1,λj hj=> ?_,λi j e=> ?_⟩
 ·obtain⟨i,hi⟩:=List.mem_iff_getElem?.1 hj;obtain⟨B,_,h2⟩:=key i j hi;exact(al5.1 h2).1
 ·obtain⟨B,h2,h3⟩:=key i j e;rw[h2,h3];rfl
theorem cZ.nx{r:AV}{H':amT aq}(hc:cZ P f e6 H λr1 h1=>r1=r/\h1=H')(hd:o9 l=true)(hb:l.map (λj=>h[j]?)=H.map λB=>some (B.aL (rn l h.length)))(hl:(e6.all (AV.aG H.length)&&H.all (aq.aG H.length))=true):
 cZ P f (e6.map (AV.aL (rn l h.length))) h λr1 h1=>r1=r.aL (rn l h.length)/\h1=hX l (H'.map (aq.aL (rn l h.length))) h:=by
 rw[al7]at hl;obtain⟨h1,h2,h3⟩:=Tc hb;exact(hc.Q0 (XV hd) h2 h3 h1 hl.1 hl.2).mono λr1 h1 ⟨r2,H2,⟨e1,e2⟩,e3,e4⟩=>by subst e1;subst e2;exact⟨e3,e4⟩
theorem cZ.rq{r:AV}(hc:cZ P f e6 H λr1 h1=>r1=r/\h1=H)(hd:o9 l=true)(hb:l.map (λj=>h[j]?)=H.map λB=>some (B.aL (rn l 0)))(hl:(e6.all (AV.aG H.length)&&H.all (aq.aG H.length)&&r.aG H.length)=true)(e:amT aq):
 cZ P f (e6.map (AV.aL (rn l 0))) (h++e) λr1 h1=>r1=r.aL (rn l 0)/\h1=h++e:=by
 rw[al7,al7]at hl;obtain⟨⟨l1,l2⟩,l3⟩:=hl;obtain⟨h1,h2,_⟩:=Tc hb;have KQ:∀i,i<H.length->rn l (h++e).length i=rn l 0 i:=λi hi=>SL l _ _ i (by rw[h1];exact hi);have jQ:H.map (λB=>some (B.aL (rn l (h++e).length)))=H.map λB=>some (B.aL (rn l 0)):=by
   refine amA λB hB=> ?_;rw[amv]at l2;rw[Mi KQ B (l2 B hB)]
 have kr:l.map (λj=>(h++e)[j]?)=H.map λB=>some (B.aL (rn l (h++e).length)):=by
  rw[jQ,<-hb];refine amA λj hj=> ?_;rw[amf (h2 j hj)]
 have:=hc.nx hd kr (by rw[l1,l2];rfl);have ha:e6.map (AV.aL (rn l (h++e).length))=e6.map (AV.aL (rn l 0)):=by
  refine amA λx hx=> ?_;rw[amv]at l1;exact yN KQ x (l1 x hx)
 rw[ha,yN KQ r l3]at this;refine this.mono λr1 h1 ⟨e1,e2⟩=>⟨e1,?_⟩;rw[e2];refine TH l _ _ ?_;rw[kr,List.map_map];rfl
end
end Go.Proofs.YtnnapanbbbcalaaGreatDoor
