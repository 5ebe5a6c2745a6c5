/-
  Part 2 of the proof: AbsLeave, AbsLoop, AbsZero, AbsIter, AbsCode, AbsWalk, GrowF, AbsDraw, AbsFrame.
-/
import Derived.Test.YtpeecnpmcbnahaaGreatDoorPq1
import Derived.Lib.AppendZeros
import Derived.Maps.RangeRun
namespace Go.Proofs.YtpeecnpmcbnahaaGreatDoor
open Go.RowKit
theorem aH.zm{G:Gh}{w:aqU}{u:aqT}{x:AV}(Z:Nat->Prop)(M:Nat)(h:aH G w u x):aH {G with Z:=Z,M:=M} w u x:=by
 induction h with
 |agg vs cs hl _ ih=>exact .agg vs cs hl ih
 |bj vs cs hl _ ih=>exact .bj vs cs hl ih
 |fn f vs cs hl _ ih=>exact .fn f vs cs hl ih
 |own n xs h hp hle hf=>exact .own n xs h hp hle hf
 |ptr n off h=>exact .ptr (G:={G with Z:=Z,M:=M}) n off h
 |row n off len cap k h hl hm=>exact .row (G:={G with Z:=Z,M:=M}) n off len cap k h hl hm
 |mp n h=>exact .mp (G:={G with Z:=Z,M:=M}) n h
 |cr n h=>exact .cr (G:={G with Z:=Z,M:=M}) n h
 |vec n o len L k h hs hL hf=>exact .vec (G:={G with Z:=Z,M:=M}) n o len L k h hs hL hf
 |dB n i j L k h hs hL hf=>exact .dB (G:={G with Z:=Z,M:=M}) n i j L k h hs hL hf
 |hid h J=>exact .hid h J
 |d h=>exact .d h
 |bk xs i off b o u x hx hS hu=>exact .bk xs i off b o u x hx hS hu
 |full xs hp hf=>exact .full xs hp hf
 |dead u=>exact .dead u
theorem eu.zm{G:Gh}{w:aqU}{n:Nat}{B:aq}(Z:Nat->Prop)(M:Nat)(hz:∀b,Z b->G.Z b)(h:eu G w n B):eu {G with Z:=Z,M:=M} w n B:=by
 cases B with
 |gone=>trivial
 |cells cs=>
  obtain⟨J,h2,vs,T,h3,h4,h5⟩:=h;exact⟨λk=>J (hz _ k),h2,vs,T,h3,h4,λi u c hu hc=>(h5 i u c hu hc).zm Z M⟩
 |lp ls p as bd cs=>
  obtain⟨J,h2,fn,vs,T,h3,h4,h5⟩:=h;exact⟨λk=>J (hz _ k),h2,fn,vs,T,h3,h4,λi u c hu hc=>(h5 i u c hu hc).zm Z M⟩
 |it sn cs=>
  obtain⟨J,h2,fn,vs,T,h3,h4,h5⟩:=h;exact⟨λk=>J (hz _ k),h2,fn,vs,T,h3,h4,λi u c hu hc=>(h5 i u c hu hc).zm Z M⟩
 |e9 T0 cs=>
  obtain⟨J,h2,fn,vs,T,h3,h4,h5⟩:=h;exact⟨λk=>J (hz _ k),h2,fn,vs,T,h3,h4,λi u c hu hc=>(h5 i u c hu hc).zm Z M⟩
 |map kv=>
  obtain⟨J,h2,es,c,h3,h4⟩:=h;exact⟨λk=>J (hz _ k),h2,es,c,h3,h4⟩
 |ja kv=>
  obtain⟨J,h2,es,c,h3,h4⟩:=h;exact⟨λk=>J (hz _ k),h2,es,c,h3,h4⟩
 |front e k len=>
  obtain⟨J,hm,h2⟩:=h;refine⟨J,hm,?_⟩;rcases h2 with h2|⟨g,cap,cur,h2,h3,h4,h5⟩
  ·exact .inl h2
  ·exact .inr ⟨g,cap,cur,h2,h3,λk=>h4 (hz _ k),h5⟩
 |iP e b2=>
  obtain⟨J,hm,h2⟩:=h;refine⟨J,hm,?_⟩;rcases h2 with h2|⟨g,cap,cur,h2,h3,h4,h5⟩
  ·exact .inl h2
  ·exact .inr ⟨g,cap,cur,h2,h3,λk=>h4 (hz _ k),h5⟩
 |vec e k cs=>
  obtain⟨J,hm,hk,h2⟩:=h;refine⟨J,hm,hk,?_⟩;rcases h2 with h2|⟨g,cap,cur,h2,h3,h4,h5,h6,h7,h8,h9,bE⟩
  ·exact .inl h2
  ·exact .inr ⟨g,cap,cur,h2,h3,λk=>h4 (hz _ k),h5,h6,h7,h8,h9,λi j c x u hc hx hu=>(bE i j c x u hc hx hu).zm Z M⟩
theorem JY{h:aqP aq}{G:Gh}{n:Nat}(Z:Nat->Prop)(M:Nat):bU h {G with Z:=Z,M:=M} n=bU h G n:=by
 unfold bU;cases h[n]? with
 |none=>rfl
 |some B=>cases B<;>rfl
theorem bW.zm{G:Gh}{w:aqU}{h:aqP aq}(hi:bW G w h)(Z:Nat->Prop)(M:Nat)(hz:∀b,Z b->G.Z b)(hM:M<=w.heap.size):bW {G with Z:=Z,M:=M} w h:=
 ⟨hi.len,λb hb=>hi.z b (hz b hb),hi.S,λn B hB=>(hi.dc n B hB).zm Z M hz,λm n b J h2=>hi.inj m n b (by rw[<-JY Z M];exact J) (by rw[<-JY Z M];exact h2),⟨hi.gl.1,hM⟩⟩
def rF(l:aqP Nat)(w:aqU):aqU:=l.foldl (λw D=>w.putObj D (.deferred none)) w
theorem ac5:∀(l:aqP Nat)(w:aqU),(∀D∈l,w.heap[D]?=some (.deferred (some [])))->l.Nodup->
 (rF l w).heap.size=w.heap.size/\(∀b,b ∉ l->(rF l w).heap[b]?=w.heap[b]?)/\(∀b o,(rF l w).cell? ⟨b,o,none⟩=w.cell? ⟨b,o,none⟩)/\(rF l w).os=w.os/\(rF l w).tape=w.tape/\(rF l w).output=w.output
 |[],w,_,_=>⟨rfl,λ_ _=>rfl,λ_ _=>rfl,rfl,rfl,rfl⟩
 |D::l,w,hd,hn=>by
  rw[List.nodup_cons]at hn;have hD:=hd D ap7;have aN:=(aqg.1 hD).1;obtain⟨J,h2,h3,h4,h5,h6⟩:=ac5 l (w.putObj D (.deferred none)) (λE hE=>by
    have cG:E≠D:=λe=>hn.1 (e▸hE);rw[World.putObj_heap_other cG];exact hd E (aqa _ hE)) hn.2
  refine⟨J.trans (by simp),λb hb=> ?_,λb o=> ?_,h4,h5,h6⟩
  ·exact(h2 b λh=>hb (aqa _ h)).trans (World.putObj_heap_other λe=>hb (e▸ap7))
  ·refine(h3 b o).trans ?_;by_cases e:b=D
   ·subst e;unfold World.cell?;simp only[World.putObj_heap_same aN,hD]
   ·exact World.cell?_of_block (World.putObj_heap_other e)
theorem UC{F:Fence}{n:Nat}{P:aqS}{fn:Func}{tmps:Array aqT}{R:Ending->aqU->Prop}:∀(l:aqP Nat)(w:aqU),(∀D∈l,w.heap[D]?=some (.deferred (some [])))->l.Nodup->
 LeavesIn F n P fn tmps R [] .returning (rF l w)->LeavesInM F n P fn tmps R (l.map λD=>{target:= .collected D,args:= #[]}) .returning w
 |[],w,_,_,h=>h
 |D::l,w,hd,hn,h=>by
  rw[List.nodup_cons]at hn;exact⟨by simp, .inl ⟨D,_,rfl,run_takeDeferred (hd D ap7),UC l _ (λE hE=>by
    have cG:E≠D:=λe=>hn.1 (e▸hE);rw[World.putObj_heap_other cG];exact hd E (aqa _ hE)) hn.2 h⟩⟩
theorem alx{N0:Nat}{G G1:Gh}{w w':aqU}{a':Act}{s1:St}(hE:bV N0 {G with M:=w.heap.size} w G1 w')(hN:N0<=G1.N)(hz:∀b,G.Z b->b<w.heap.size)(hMw:G.M<=w.heap.size)(hs:cY G1 w' a' s1):
 ∃(w2:aqU)(G2:Gh),(∀(F:Fence)(n:Nat)(P:aqS)(fn:Func)(R:Ending->aqU->Prop),(∃v,(results fn a'.tmps).run P w2= .ok v w2/\R (.returned v) w2)->LeavesInM F n P fn a'.tmps R a'.defers .returning w')/\
  bV N0 G w G2 w2/\G2.N=G1.N/\cY G2 w2 {a' with defers:=[]} s1:=by
 obtain⟨l,l1,l2,l3⟩:=hs.df;have hd:∀D∈l,w'.heap[D]?=some (.deferred (some [])):=λD hD=>(l3 D hD).2.2;obtain⟨J,h2,h3,h4,h5,h6⟩:=ac5 l w' hd l1;have hM:G1.M=w.heap.size:=hE.Z.2;have j6:∀b,G.Z b->b ∉ l:=λb hb hl=>by
  have:=(l3 b hl).1;have:=hz b hb;omega
 obtain⟨G2,iG⟩:∃G2:Gh,G2={G1 with Z:=G.Z,M:=G.M}:=⟨_,rfl⟩;have vQ:∀b,G.Z b->G1.Z b:=hE.Z.1.1;have jQ:bW G2 w' s1.h:=by rw[iG];exact hs.inv.zm _ _ vQ (aqj hMw hE.size)
 have jk:bV N0 G w G2 w':=by
  rw[iG];exact⟨hE.size,hE.S,hE.cell,hE.aR,hE.fr,im rfl,hE.old,hE.os,hE.tape,hE.output,hE.new⟩
 have jG:bV G2.N G2 w' G2 (rF l w'):=⟨by rw[J];exact aqc _,λ_ _ h=>h,λb o _=>h3 b o,λ_ _=>rfl,λ_ _=> .inl ⟨rfl,rfl⟩,im rfl,λb hb=>h2 b (j6 b (by rw[iG]at hb;exact hb)),h4,h5,h6,λ_ _ h=> .inl h⟩;have CI:bW G2 (rF l w') s1.h:=⟨jQ.len,λb hb=>by rw[J];exact jQ.z b hb,λb o hb=>by rw[J];exact jQ.S b o hb,λn B hB=>eu.keep (jQ.lt hB) jG (aqc _) ⟨rfl,rfl,rfl⟩ (λb hb=>⟨h2 b λhl=>(hs.inv.dc n B hB).lH (by rw[iG]at hb;cases B<;>exact hb) (l3 b hl).2.1,λ_ h=>h⟩) (jQ.dc n B hB),jQ.inj,jQ.gl.keep jG⟩;refine⟨rF l w',G2,λF n P fn R h=> ?_,jk.trans (jG.less (by rw[iG];exact hN)),by rw[iG],⟨hs.size,λi=>aH.keep jG (aqc _) (by rw[iG];exact(hs.tmp i).zm _ _),CI,sx.nil _ _⟩⟩;rw[l2];exact UC l w' hd l1 h
section
variable {G:Gh} {w:aqU} {h:aqP aq}
theorem afJ(hi:bW G w h)(fn:FuncId)(tm:Array aqT)(D p:Nat)(as bd:Code)(cs:aqP AV)(hl:tm.size=cs.length)(hr:∀(i:Nat)(u:aqT)(c:AV),tm[i]?=some u->cs[i]?=some c->aH G w u c):bV G.N G w (G.c7 w.heap.size) (w.alloc (.loop {state:= .ready,pending:=none,fn:=fn,tmps:=tm,params:= #[p],assign:=as,body:=bd,defers:=D}))/\bW (G.c7 w.heap.size) (w.alloc (.loop {state:= .ready,pending:=none,fn:=fn,tmps:=tm,params:= #[p],assign:=as,body:=bd,defers:=D})) (h++[.lp .ready p as bd cs])/\aH (G.c7 w.heap.size) (w.alloc (.loop {state:= .ready,pending:=none,fn:=fn,tmps:=tm,params:= #[p],assign:=as,body:=bd,defers:=D})) (.func (.yield w.heap.size) #[] #[]) (.cr h.length):=by
 have hE:=tP G w hi.z hi.S (.loop {state:= .ready,pending:=none,fn:=fn,tmps:=tm,params:= #[p],assign:=as,body:=bd,defers:=D});have hN:G.N<=(G.c7 w.heap.size).N:=Nat.le_succ _;have gy:(G.c7 w.heap.size).aR h.length=w.heap.size:=by simp [Gh.c7,hi.len]
 have lG:∀n(B:aq),n<G.N->B.ee (G.c7 w.heap.size) n=B.ee G n:=λn B hn=>by
  cases B<;>simp [aq.ee,Gh.c7,Nat.ne_of_lt hn]
 have fD:∀n,n<G.N->bU (h++[.lp .ready p as bd cs]) (G.c7 w.heap.size) n=bU h G n:=λn hn=>by
  have aN:n<h.length:=by rw[hi.len];exact hn
  unfold bU;rw[aqb aN,ap5 aN];exact lG n _ hn
 have tt:bU (h++[.lp .ready p as bd cs]) (G.c7 w.heap.size) h.length=some w.heap.size:=by
  rw[dJ (B:= .lp .ready p as bd cs) (by simp)];exact congrArg some gy
 refine⟨hE,⟨by simp [Gh.c7,hi.len],λb hb=>aqp (hi.z b hb) hE.size,λb o hs=>aqp (hi.S b o hs) hE.size,λn B hB=> ?_,λm n b hm hn=> ?_,hi.gl.keep hE⟩,?_⟩
 ·by_cases hn:n<h.length
  ·rw[aqb hn]at hB;have eX:n<G.N:=hi.len▸hn;exact eu.keep eX hE hN ⟨rfl,rfl,rfl⟩ (λb hb=>⟨Below.heap_alloc w _ _ (hi.ib (n:=n) ((dJ hB).trans hb)),λo h=>h⟩) (hi.dc n B hB)
  ·have kM:n=h.length:=by
    have:=(ap1.1 hB).1;simp at this;omega
   subst kM;simp at hB;subst hB;exact⟨by rw[gy];exact λhz=>aqF _ (hi.z _ hz),λo hs=>by rw[gy]at hs;exact aqF _ (hi.S _ _ hs),fn,tm,D,by rw[gy];exact World.alloc_heap_new w _,hl,λi u c hu hc=>(hr i u c hu hc).keep hE hN⟩
 ·have key:∀n b,bU (h++[.lp .ready p as bd cs]) (G.c7 w.heap.size) n=some b->(n<G.N/\bU h G n=some b)\/(n=h.length/\b=w.heap.size):=λn b hn=>by
   by_cases aN:n<G.N
   ·exact .inl ⟨aN,by rw[<-fD n aN];exact hn⟩
   ·by_cases e:n=h.length
    ·subst e;rw[tt]at hn;cases hn;exact .inr ⟨rfl,rfl⟩
    ·rw[vw (aqx (by simp;have:=hi.len;omega))]at hn;cases hn
  rcases key m b hm with⟨_,gu⟩|⟨rfl,rfl⟩<;>rcases key n _ hn with⟨_,eX⟩|⟨rfl,hb⟩
  ·exact hi.inj m n b gu eX
  ·have:=hi.ib gu;omega
  ·have:=hi.ib eX;omega
  ·rfl
 ·have:=aH.cr (G:=G.c7 w.heap.size) (w:=w.alloc (.loop {state:= .ready,pending:=none,fn:=fn,tmps:=tm,params:= #[p],assign:=as,body:=bd,defers:=D})) h.length (by simp [Gh.c7,hi.len])
  rwa [gy]at this
theorem Tx{k:Nat}{B B':aq}{ob wE:Obj}(hi:bW G w h)(hk:h[k]?=some B)(vF:B.ee G k=some (G.aR k))(hS:∀o,¬G.S (G.aR k) o)(mD:w.heap[G.aR k]?=some ob)(hn:B'= .gone\/B'.ee G k=some (G.aR k))
 (hB:∀w',(∀b o,G.S b o->w'.cell? ⟨b,o,none⟩=w.cell? ⟨b,o,none⟩)->w'.heap[G.aR k]?=some wE->bV G.N G w G w'->eu G w' k B'):bV G.N G w G (w.putObj (G.aR k) wE)/\bW G (w.putObj (G.aR k) wE) (h.set k B'):=by
 have aN:=(aqg.1 mD).1;have hZ:¬G.Z (G.aR k):=(hi.dc k B hk).lH vF;have jt:∀b,b≠G.aR k->(w.putObj (G.aR k) wE).heap[b]?=w.heap[b]?:=λb hb=>World.putObj_heap_other hb;have iu:∀b o,G.S b o->(w.putObj (G.aR k) wE).cell? ⟨b,o,none⟩=w.cell? ⟨b,o,none⟩:=λb o hs=>World.cell?_of_block (jt b (λe=>hS o (e▸hs)));have hE:bV G.N G w G (w.putObj (G.aR k) wE):=⟨by simp,λ_ _ h=>h,iu,λ_ _=>rfl,λ_ _=> .inl ⟨rfl,rfl⟩,im rfl,λb hb=>jt b (λe=>hZ (e▸hb)),rfl,rfl,rfl,λ_ _ h=> .inl h⟩;refine⟨hE,?_⟩;have XD:=(ap1.1 hk).1;have m6:(h.set k B')[k]?=some B':=by rw[aqu XD]
 have fp:∀m,m≠k->(h.set k B')[m]?=h[m]?:=λm hm=>by rw[aqz (Ne.symm hm)]
 have mf:bU h G k=some (G.aR k):=(dJ hk).trans vF;have eJ:∀m b,bU (h.set k B') G m=some b->bU h G m=some b:=λm b hb=>by
  by_cases e:m=k
  ·subst e;rw[dJ m6]at hb;rcases hn with rfl|hn
   ·cases hb
   ·rw[hn]at hb;cases hb;exact mf
  ·unfold bU at hb ⊢;rw[fp m e]at hb;exact hb
 refine⟨by rw[List.length_set];exact hi.len,λb hb=>aqp (hi.z b hb) hE.size,λb o hs=>aqp (hi.S b o hs) hE.size,λm C hC=> ?_,λm m' b J h2=>hi.inj m m' b (eJ m b J) (eJ m' b h2),hi.gl.keep hE⟩;by_cases e:m=k
 ·subst e;rw[m6]at hC;cases hC
  exact hB _ iu (World.putObj_heap_same aN) hE
 ·rw[fp m e]at hC;have cG:∀b,bU h G m=some b->b≠G.aR k:=λb hb eb=>e (hi.inj m k b hb (by rw[eb];exact mf));exact eu.keep (hi.lt hC) hE (aqc _) ⟨rfl,rfl,rfl⟩ (λb hb=>⟨jt b (cG _ ((dJ hC).trans hb)),λo h=>h⟩) (hi.dc m C hC)
theorem KZ{k:Nat}{ls:LS}{p:Nat}{as bd:Code}{cs:aqP AV}(hi:bW G w h)(hk:h[k]?=some (.lp ls p as bd cs)):
 (∀o,¬G.S (G.aR k) o)/\∃(fn:FuncId)(tm:Array aqT)(D:Nat),w.heap[G.aR k]?=some (.loop {state:=ls.st,pending:=ls.pd,fn:=fn,tmps:=tm,params:= #[p],assign:=as,body:=bd,defers:=D})/\tm.size=cs.length/\(∀(i:Nat)(u:aqT)(c:AV),tm[i]?=some u->cs[i]?=some c->aH G w u c)/\
   ∀(ls':LS),bV G.N G w G (w.putObj (G.aR k) (.loop {state:=ls'.st,pending:=ls'.pd,fn:=fn,tmps:=tm,params:= #[p],assign:=as,body:=bd,defers:=D}))/\bW G (w.putObj (G.aR k) (.loop {state:=ls'.st,pending:=ls'.pd,fn:=fn,tmps:=tm,params:= #[p],assign:=as,body:=bd,defers:=D})) (h.set k (.lp ls' p as bd cs)):=by
 obtain⟨J,h2,fn,tm,D,h3,h4,h5⟩:=hi.dc k _ hk;refine⟨h2,fn,tm,D,h3,h4,h5,λls'=>Tx hi hk rfl h2 h3 (.inr rfl) λw' hc fe hE=>⟨J,h2,fn,tm,D,fe,h4,λi u c hu gg=>(h5 i u c hu gg).keep hE (aqc _)⟩⟩
theorem apH{k:Nat}{ls:LS}{p:Nat}{as bd:Code}{cs:aqP AV}(hi:bW G w h)(hk:h[k]?=some (.lp ls p as bd cs))(ob:Obj):bV G.N G w G (w.putObj (G.aR k) ob)/\bW G (w.putObj (G.aR k) ob) (h.set k .gone):=by
 obtain⟨J,h2,fn,tm,D,h3,h4,h5⟩:=hi.dc k _ hk;exact Tx hi hk rfl h2 h3 (.inl rfl) λ_ _ _ _=>trivial
theorem ahn(hi:bW G w h):bV G.N G w {G with Z:=λb=>G.Z b\/b=w.heap.size} (w.alloc (.deferred (some [])))/\bW {G with Z:=λb=>G.Z b\/b=w.heap.size} (w.alloc (.deferred (some []))) h:=by
 have hE:bV G.N G w {G with Z:=λb=>G.Z b\/b=w.heap.size} (w.alloc (.deferred (some []))):=
  ⟨by simp,λ_ _ h=>h,λb _ h=>World.cell?_alloc_lt _ _ _ (hi.S _ _ h),λ_ _=>rfl,λ_ _=> .inl ⟨rfl,rfl⟩,⟨⟨λ_ h=> .inl h,λb h=>h.imp id λe=>Nat.le_of_eq e.symm⟩,rfl⟩,λb hb=>Below.heap_alloc w _ b (hi.z b hb),rfl,rfl,rfl,λ_ _ h=> .inl h⟩
 refine⟨hE,hi.len,λb hb=> ?_,λb o hs=>aqp (hi.S b o hs) hE.size,λn B hB=> ?_,λm n b J h2=>hi.inj m n b (by rw[<-JY (λb=>G.Z b\/b=w.heap.size) G.M];exact J) (by rw[<-JY (λb=>G.Z b\/b=w.heap.size) G.M];exact h2),hi.gl.keep hE⟩
 ·rcases hb with hb|rfl
  ·exact aqp (hi.z b hb) hE.size
  ·simp
 ·exact eu.keep (hi.lt hB) hE (aqc _) ⟨rfl,rfl,rfl⟩ (λb hb=>⟨Below.heap_alloc w _ _ (hi.ib (n:=n) ((dJ hB).trans hb)),λo h=>h⟩) (hi.dc n B hB)
end
end Go.Proofs.YtpeecnpmcbnahaaGreatDoor
namespace Go.Proofs.YtpeecnpmcbnahaaGreatDoor
open Go.RowKit Go.Lib
def AV.isNil:AV->Bool
 | .d (.v (.slice none 0 0))=>true
 |_=>false
theorem ahP{x:AV}(h:x.isNil=true):x= .d (.v (.slice none 0 0)):=by
 unfold AV.isNil at h;split at h
 ·rfl
 ·cases h
def Bj(P:aqS)(op:Op)(ρ:Operand->AV)(h:aqP aq):aqR (AV×aqP aq):=
 match op with
 | .slice T x lo hi none=>match fb P T,uq ρ 0 lo,uq ρ 0 hi with
   |some _,some 0,some 0=>bif (ρ x).isNil then some (.d (.v (.slice none 0 0)),h)else none
   |_,_,_=>none
 | .call c=>match c.callee with
   | .builtin .cap=>match c.args.toList,c.argTypes.toList with
     |[x],[T]=>bif (ρ x).isNil&&(fb P T).isSome then some (.d (.v (.int .i64 0)),h)else none
     |_,_=>none
   | .builtin .append=>match c.args.toList,c.argTypes.toList with
     |[x,y],[T,U]=>match fb P T,rk P U,ρ y with
      |some (e,k),some _, .d (.v (.int _ (.ofNat m)))=>match iQ P e,rN P e with
       |some z,some c6=>bif (ρ x).isNil&&ct 1 m&&ct 1 k&&z.cells.toList.length==k&&ct m maxLen&&ct (m*c6) 140737488355328 then some (.vec h.length 0 m m k,h++[.vec e k (List.replicate m (z.cells.toList.map λu=> .d (.v u)))])else none
       |_,_=>none
      |_,_,_=>none
     |_,_=>none
   |_=>none
 |_=>none
section
variable {P:aqS} {r:aqR Nat} {n N0:Nat} {G:Gh} {w:aqU} {a:Act} {s:St} {o:Oper} {K:St->Prop} {Q:Exit->Act->aqU->Prop}
theorem ae0{x:Operand}{T:TypeId}(c:Call)(hc:c.callee= .builtin .cap)(J:c.args.toList=[x])(h2:c.argTypes.toList=[T])(ho:o.op= .call c):
 (execOp a.eval o).run P w=((Builtin.cap_ #[T] o.type #[a.eval x]).run P w).andThen λv w'=> .ok (.value v) w':=by
 have e1:c.args= #[x]:=by rw[<-Array.toList_inj];exact J
 have e2:c.argTypes= #[T]:=by rw[<-Array.toList_inj];exact h2
 unfold execOp;simp only[ho,resolve,hc,e1,e2,invoke,builtin,Sem.run_bind,Sem.run_pure,Result.andThen_ok,List.map_toArray,aqq,List.map_nil]
theorem ZR(hs:cY G w a s){x:aqR Operand}(h:uq (ev s) 0 x=some 0):Cu a x 0 0:=by
 cases x with
 |none=>rfl
 |some y=>exact R5 (d:=0) hs h (Int.le_refl _)
theorem air{x:AV}{h':aqP aq}(hs:cY G w a s)(cy:N0<=G.N)(hx:Bj P o.op (ev s) s.h=some (x,h'))(hK:K ((s.wh h').put o.dst x)):o.wpIn (WF r) n P a w (jr N0 G w K) Q:=by
 have dk:=hs.ev;have nil:∀{y:Operand},(ev s y).isNil=true->a.eval y= .slice none 0 0:=fun{y} h=>by
  have:=dk y;rw[ahP h]at this;exact this.val
 unfold Bj at hx;split at hx
 next T y lo hi ho=>
  split at hx
  ·next ek e1 e2 e3=>
   obtain⟨hb,he⟩:=mB hx;cases he
   obtain⟨fU,gk⟩:=j9 e1;refine fI (by rw[ho];simp) hs cy (v:= .slice none 0 0) ?_ (.d (.v _)) hK;have kh:=D4 (P:=P) (Aj:=true) (ZR hs e2) (ZR hs e3) (aqc _) (aqc 0) w;unfold execOp;simp [ho,nil hb,Instr.sliceAt,Instr.slice,run_underlying fU,kh,mN gk]
  ·cases hx
 next c ho=>
  split at hx
  ·next hc=>
   split at hx
   ·next y T e1 e2=>
    obtain⟨hb,he⟩:=mB hx;cases he
    rw[ap3]at hb;cases hT:fb P T with
    |none=>rw[hT]at hb;cases hb.2
    |some ek=>
     obtain⟨fU,gk⟩:=j9 hT;refine fI (by rw[ho];simp) hs cy (v:= .int .i64 0) ?_ (.d (.v _)) hK;rw[ae0 c hc e1 e2 ho,nil hb.1];simp [Builtin.cap_,run_underlying fU,goInt]
   ·cases hx
  ·next hc=>
   split at hx
   ·next y z T U e1 e2=>
    split at hx
    ·next e k kn kq m f1 f2 f3=>
     split at hx
     ·next zz c6 g1 g2=>
      obtain⟨hb,he⟩:=mB hx;cases he
      simp only[ap3,dh,beq_iff_eq]at hb;obtain⟨⟨⟨⟨⟨iS,kh⟩,H5⟩,sb⟩,Sk⟩,NA⟩:=hb;clear hx;obtain⟨fU,gk⟩:=j9 f1;obtain⟨i,lP,jD⟩:∃i,P.info? e=some i/\i.size=k:=by
       unfold gx at gk;cases hq:P.info? e with
       |none=>rw[hq]at gk;cases gk
       |some i=>rw[hq]at gk;exact⟨i,rfl,aqk gk⟩
      have hz:i.zero=some zz:=by unfold iQ at g1;rw[lP]at g1;exact g1
      have hbt:i.bytes=c6:=by unfold rN at g2;rw[lP]at g2;exact aqk g2
      subst jD;subst hbt;have hy:=dk z;rw[f3]at hy;have ey:a.eval z= .int kq (m:Nat):=hy.val;have dL:=run_append_nil_zeros (P:=P) w T U o.type e i zz kq kn fU (IK f2) lP hz m (by omega) (by omega) (by have:=Sk;simp [maxLen]at this;omega) (by omega);have j6:zz.cells.size=i.size:=by rw[<-aqy];exact sb
      have gp:(List.replicate m (zz.cells.toList.map λu=>AV.d (.v u))).length=m:=aqB;obtain⟨cap,kr⟩:∃cap,cap=grownCap w m 0 e:=⟨_,rfl⟩;have kf:m<=cap:=by rw[kr];exact grownCap_ge _ _ _ _
      have hle:cap<=maxLen:=by rw[kr];exact grownCap_le_maxLen _ _ _ _ Sk
      rw[<-kr]at dL;obtain⟨cur,kQ⟩:∃cur,cur=Builtin.zeroCells zz.cells m++Builtin.zeroCells zz.cells (cap-m):=⟨_,rfl⟩;rw[<-kQ]at dL;have gX:cur.size=cap*i.size:=by
        rw[kQ,Array.size_append,size_zeroCells,size_zeroCells,j6,<-Nat.add_mul]
        congr 1
        omega
      obtain⟨G',q1,q2,q3,q4⟩:=QL (e:=e) (k:=i.size) (cap:=cap) (cs:=List.replicate m (zz.cells.toList.map λu=>AV.d (.v u))) (cur:=cur) hs.inv (by rw[gp];exact kf) hle gX (λc hc=>by
       rw[List.eq_of_mem_replicate hc,ap6];exact sb) w.drew ⟨rfl,rfl,rfl,rfl⟩ (λa' b c x u hc hx hu=>by
       have:=List.eq_of_mem_replicate (aqe hc);subst this;rw[ap8]at hx;cases hq:zz.cells.toList[b]? with
       |none=>rw[hq]at hx;cases hx
       |some y=>
        rw[hq]at hx;cases hx
        have jE:b<i.size:=by rw[<-sb];exact(ap1.1 hq).1
        have Tn:a'<m:=by have:=(ap1.1 hc).1;rwa [gp]at this
        have aN:a'*i.size+b<m*i.size:=m9 Tn jE;rw[kQ,Array.getElem?_append_left (by rw[size_zeroCells,j6];exact aN)]at hu;unfold Builtin.zeroCells at hu;rw[Array.getElem?_map,Array.getElem?_range,j6,if_pos aN]at hu;simp only[Option.map_some,Option.some.injEq]at hu;rw[(Ig (i:=a') jE).2]at hu;have qY:zz.cells[b]?=some y:=by rw[<-aqo];exact hq
        rw[getElem!_pos zz.cells b (by rw[j6];exact jE)]at hu;rw[aqn (by rw[j6];exact jE)]at qY;cases qY
        subst hu;exact .d (.v _))
      rw[gp]at q4;refine mA (by rw[ho];simp) hs cy (by rw[Gc c hc e1 e2 ho,nil iS,ey,dL];rfl) q1 q2 q3 (q4 m (aqc _)) hK
     ·cases hx
    ·cases hx
   ·cases hx
  ·cases hx
 next=>cases hx
end
end Go.Proofs.YtpeecnpmcbnahaaGreatDoor
namespace Go.Proofs.YtpeecnpmcbnahaaGreatDoor
open Go.RowKit
section
variable {G:Gh} {w:aqU} {h:aqP aq}
theorem anN(hi:bW G w h){b mb c:Nat}(hr:aH G w (.map (some b)) (.mp mb)):bV G.N G w (G.c7 w.heap.size) (w.alloc (.mapIter (some b) c #[] c))/\bW (G.c7 w.heap.size) (w.alloc (.mapIter (some b) c #[] c)) (h++[.it (c,[]) [.mp mb]])/\aH (G.c7 w.heap.size) (w.alloc (.mapIter (some b) c #[] c)) (.pointer (some ⟨w.heap.size,0,none⟩)) (.ptr h.length 0):=by
 have hE:=tP G w hi.z hi.S (.mapIter (some b) c #[] c);have hN:G.N<=(G.c7 w.heap.size).N:=Nat.le_succ _;have gy:(G.c7 w.heap.size).aR h.length=w.heap.size:=by simp [Gh.c7,hi.len]
 have lG:∀n(B:aq),n<G.N->B.ee (G.c7 w.heap.size) n=B.ee G n:=λn B hn=>by
  cases B<;>simp [aq.ee,Gh.c7,Nat.ne_of_lt hn]
 have fD:∀n,n<G.N->bU (h++[.it (c,[]) [.mp mb]]) (G.c7 w.heap.size) n=bU h G n:=λn hn=>by
  have aN:n<h.length:=by rw[hi.len];exact hn
  unfold bU;rw[aqb aN,ap5 aN];exact lG n _ hn
 have tt:bU (h++[.it (c,[]) [.mp mb]]) (G.c7 w.heap.size) h.length=some w.heap.size:=by
  rw[dJ (B:= .it (c,[]) [.mp mb]) (by simp)];exact congrArg some gy
 refine⟨hE,⟨by simp [Gh.c7,hi.len],λb hb=>aqp (hi.z b hb) hE.size,λb o hs=>aqp (hi.S b o hs) hE.size,λn B hB=> ?_,λm n b hm hn=> ?_,hi.gl.keep hE⟩,?_⟩
 ·by_cases hn:n<h.length
  ·rw[aqb hn]at hB;have eX:n<G.N:=hi.len▸hn;exact eu.keep eX hE hN ⟨rfl,rfl,rfl⟩ (λb hb=>⟨Below.heap_alloc w _ _ (hi.ib (n:=n) ((dJ hB).trans hb)),λo h=>h⟩) (hi.dc n B hB)
  ·have kM:n=h.length:=by
    have:=(ap1.1 hB).1;simp at this;omega
   subst kM;simp at hB;subst hB;exact⟨by rw[gy];exact λhz=>aqF _ (hi.z _ hz),λo hs=>by rw[gy]at hs;exact aqF _ (hi.S _ _ hs),b, #[.map (some b)],(),by rw[gy];exact World.alloc_heap_new w _,⟨rfl,rfl⟩,λi u c hu hc=>by
    match i with
    |0=>cases hu;cases hc;exact hr.keep hE hN
    |i+1=>simp at hu⟩
 ·have key:∀n b,bU (h++[.it (c,[]) [.mp mb]]) (G.c7 w.heap.size) n=some b->(n<G.N/\bU h G n=some b)\/(n=h.length/\b=w.heap.size):=λn b hn=>by
   by_cases aN:n<G.N
   ·exact .inl ⟨aN,by rw[<-fD n aN];exact hn⟩
   ·by_cases e:n=h.length
    ·subst e;rw[tt]at hn;cases hn;exact .inr ⟨rfl,rfl⟩
    ·rw[vw (aqx (by simp;have:=hi.len;omega))]at hn;cases hn
  rcases key m b hm with⟨_,gu⟩|⟨rfl,rfl⟩<;>rcases key n _ hn with⟨_,eX⟩|⟨rfl,hb⟩
  ·exact hi.inj m n b gu eX
  ·have:=hi.ib gu;omega
  ·have:=hi.ib eX;omega
  ·rfl
 ·have:=aH.ptr (G:=G.c7 w.heap.size) (w:=w.alloc (.mapIter (some b) c #[] c)) h.length 0 (by simp [Gh.c7,hi.len])
  rwa [gy]at this
theorem aa9(hi:bW G w h)(e:TypeId):bW (G.c7 w.heap.size) (w.alloc (.cells #[.pointer none, .slice none 0 0] e)) (h++[.e9 e [.d (.v (.slice none 0 0))]])/\aH (G.c7 w.heap.size) (w.alloc (.cells #[.pointer none, .slice none 0 0] e)) (.pointer (some ⟨w.heap.size,0,none⟩)) (.ptr h.length 0):=by
 have hE:=tP G w hi.z hi.S (.cells #[.pointer none, .slice none 0 0] e);have hN:G.N<=(G.c7 w.heap.size).N:=Nat.le_succ _;have gy:(G.c7 w.heap.size).aR h.length=w.heap.size:=by simp [Gh.c7,hi.len]
 have lG:∀n(B:aq),n<G.N->B.ee (G.c7 w.heap.size) n=B.ee G n:=λn B hn=>by
  cases B<;>simp [aq.ee,Gh.c7,Nat.ne_of_lt hn]
 have fD:∀n,n<G.N->bU (h++[.e9 e [.d (.v (.slice none 0 0))]]) (G.c7 w.heap.size) n=bU h G n:=λn hn=>by
  have aN:n<h.length:=by rw[hi.len];exact hn
  unfold bU;rw[aqb aN,ap5 aN];exact lG n _ hn
 have tt:bU (h++[.e9 e [.d (.v (.slice none 0 0))]]) (G.c7 w.heap.size) h.length=some w.heap.size:=by
  rw[dJ (B:= .e9 e [.d (.v (.slice none 0 0))]) (by simp)];exact congrArg some gy
 refine⟨⟨by simp [Gh.c7,hi.len],λb hb=>aqp (hi.z b hb) hE.size,λb o hs=>aqp (hi.S b o hs) hE.size,λn B hB=> ?_,λm n b hm hn=> ?_,hi.gl.keep hE⟩,?_⟩
 ·by_cases hn:n<h.length
  ·rw[aqb hn]at hB;have eX:n<G.N:=hi.len▸hn;exact eu.keep eX hE hN ⟨rfl,rfl,rfl⟩ (λb hb=>⟨Below.heap_alloc w _ _ (hi.ib (n:=n) ((dJ hB).trans hb)),λo h=>h⟩) (hi.dc n B hB)
  ·have kM:n=h.length:=by
    have:=(ap1.1 hB).1;simp at this;omega
   subst kM;simp at hB;subst hB;exact⟨by rw[gy];exact λhz=>aqF _ (hi.z _ hz),λo hs=>by rw[gy]at hs;exact aqF _ (hi.S _ _ hs),(), #[.slice none 0 0], .pointer none,by rw[gy];exact World.alloc_heap_new w _,⟨rfl, .inl rfl,λv hv=>Or.inl (by simpa using hv)⟩,λi u c hu hc=>by
    match i with
    |0=>cases hu;cases hc;exact .d (.v _)
    |i+1=>simp at hu⟩
 ·have key:∀n b,bU (h++[.e9 e [.d (.v (.slice none 0 0))]]) (G.c7 w.heap.size) n=some b->(n<G.N/\bU h G n=some b)\/(n=h.length/\b=w.heap.size):=λn b hn=>by
   by_cases aN:n<G.N
   ·exact .inl ⟨aN,by rw[<-fD n aN];exact hn⟩
   ·by_cases e:n=h.length
    ·subst e;rw[tt]at hn;cases hn;exact .inr ⟨rfl,rfl⟩
    ·rw[vw (aqx (by simp;have:=hi.len;omega))]at hn;cases hn
  rcases key m b hm with⟨_,gu⟩|⟨rfl,rfl⟩<;>rcases key n _ hn with⟨_,eX⟩|⟨rfl,hb⟩
  ·exact hi.inj m n b gu eX
  ·have:=hi.ib gu;omega
  ·have:=hi.ib eX;omega
  ·rfl
 ·have:=aH.ptr (G:=G.c7 w.heap.size) (w:=w.alloc (.cells #[.pointer none, .slice none 0 0] e)) h.length 0 (by simp [Gh.c7,hi.len])
  rwa [gy]at this
theorem Ht{n mb:Nat}{sn:Nat×aqP Nat}(hi:bW G w h)(hb:h[n]?=some (.it sn [.mp mb])):(∀o,¬G.S (G.aR n) o)/\w.heap[G.aR n]?=some (.mapIter (some (G.aR mb)) sn.1 sn.2.toArray sn.1)/\aH G w (.map (some (G.aR mb))) (.mp mb):=by
 obtain⟨J,h2,fn,vs,_,h3,⟨_,h4⟩,h5⟩:=hi.dc n _ hb;have:=h5 0 (.map (some fn)) (.mp mb) (by rw[h4];rfl) rfl;cases this with
 |mp _ aN=>exact⟨h2,h3, .mp mb aN⟩
theorem YO(hi:bW G w h):bV G.N G w G w.drew/\bW G w.drew h:=by
 have hE:bV G.N G w G w.drew:=⟨aqc _,λ_ _ h=>h,λ_ _ _=>rfl,λ_ _=>rfl,λ_ _=> .inl ⟨rfl,rfl⟩,im rfl,λ_ _=>rfl,rfl,rfl,rfl,λ_ _ h=> .inl h⟩;exact⟨hE,hi.len,hi.z,hi.S,λn B hB=>eu.keep (hi.lt hB) hE (aqc _) ⟨rfl,rfl,rfl⟩ (λ_ _=>⟨rfl,λ_ h=>h⟩) (hi.dc n B hB),hi.inj,hi.gl.keep hE⟩
end
def NV(P:aqS)(o:Oper)(K:St->Prop)(s:St):Prop:=
 match o.op with
 | .range T m=>match vX P T,ev s m with
   |some _, .mp mb=>match s.h[mb]? with
    |some (.ja kv)=>K ((s.wh (s.h++[.it (kv.length,[]) [.mp mb]])).put o.dst (.ptr s.h.length 0))
    |_=>False
   |_,_=>False
 | .next it false=>match ev s it with
   | .ptr m 0=>match s.h[m]? with
     |some (.it sn [.mp mb])=>match s.h[mb]? with
      |some (.ja kv)=>sn.1=kv.length/\(∀b p,kv[b]?=some p->b ∉ sn.2->K ((s.wh (s.h.set m (.it (sn.1,sn.2++[b]) [.mp mb]))).put o.dst (.bj [.d (.v (.bool true)), .d (.v (.string p.1)), .d p.2])))/\((∀b,b<kv.length->b∈sn.2)->K (s.put o.dst (.bj [.d (.v (.bool false))])))
      |_=>False
     |_=>False
   |_=>False
 | .entry it=>match ev s it with
   | .ptr m 0=>match s.h[m]? with
     |some (.it sn [.mp mb])=>match s.h[mb]? with
      |some (.ja kv)=>sn.1=kv.length/\∃l b p,sn.2=l++[b]/\kv[b]?=some p/\K (s.put o.dst (.bj [.d (.v (.string p.1)), .d p.2]))
      |_=>False
     |_=>False
   |_=>False
 | .alloc e=>match iQ P e with
   |some z=>z.cells= #[.pointer none, .slice none 0 0]/\K ((s.wh (s.h++[.e9 e [.d (.v (.slice none 0 0))]])).put o.dst (.ptr s.h.length 0))
   |none=>False
 | .box e x=>ev s x= .agg [.d (.v (.pointer none)), .d (.v (.slice none 0 0))]/\K ((s.wh (s.h++[.e9 e [.d (.v (.slice none 0 0))]])).put o.dst (.ptr s.h.length 0))
 |_=>False
section
variable {P:aqS} {r:aqR Nat} {n N0:Nat} {G:Gh} {w:aqU} {a:Act} {s:St} {o:Oper} {K:St->Prop} {Q:Exit->Act->aqU->Prop}
theorem Ry{mb:Nat}{kv:aqP (aqQ×D)}(hi:bW G w s.h)(hb:s.h[mb]?=some (.ja kv)):∃es:Array MapEntry,w.heap[G.aR mb]?=some (.map es kv.length)/\xy G.S w es kv.length kv:=by
 obtain⟨_,_,es,c,J,h2⟩:=hi.dc mb _ hb;have:c=kv.length:=h2.ok.Eh.trans h2.all.symm;subst this;exact⟨es,J,h2⟩
theorem xy.mem{S:Nat->Nat->Prop}{es:Array MapEntry}{c:Nat}{kv:aqP (aqQ×D)}(h:xy S w es c kv){e:MapEntry}(he:e∈es.toList):es[e.born]?=some e/\e.born<kv.length:=by
 obtain⟨i,hi,rfl⟩:=List.getElem_of_mem he;have hs:es[i]?=some es.toList[i]:=by simp
 have hb:=h.ok.born i _ hs;rw[hb];exact⟨hs,by rw[h.all];simpa using hi⟩
theorem ahe(hs:cY G w a s)(cy:N0<=G.N)(hx:NV P o K s):o.wpIn (WF r) n P a w (jr N0 G w K) Q:=by
 have dk:=hs.ev;have ptr:∀{y:Operand}{n:Nat},ev s y= .ptr n 0->a.eval y= .pointer (some ⟨G.aR n,0,none⟩):=fun{y n} h=>by
  have:=dk y;rw[h]at this;generalize a.eval y=u at this;cases this;rfl
 unfold NV at hx;split at hx
 next T m ho=>
  split at hx
  ·next ke mb e1 e2=>
   split at hx
   ·next kv hb=>
    obtain⟨es,J,h2⟩:=Ry hs.inv hb;have hv:=dk m;rw[e2]at hv;have ea:a.eval m= .map (some (G.aR mb)):=by
     generalize a.eval m=u at hv;cases hv;rfl
    rw[ea]at hv;obtain⟨i1,i2,i3⟩:=anN (c:=kv.length) hs.inv hv;obtain⟨k0,el⟩:=ke;refine mA (by rw[ho];simp) hs cy (v:= .pointer (some ⟨w.heap.size,0,none⟩)) (w':=w.alloc (.mapIter (some (G.aR mb)) kv.length #[] kv.length)) ?_ i1 (Nat.le_succ _) i2 i3 hx;unfold execOp;simp [ho,ea,Instr.range,run_underlying (Dc e1),MapKept.run_getObj_map J,Result.andThen]
   ·cases hx
  ·cases hx
 next it ho=>
  split at hx
  ·next m e1=>
   split at hx
   ·next sn mb hn=>
    split at hx
    ·next kv hb=>
     obtain⟨hc,hK1,hK2⟩:=hx;obtain⟨es,J,h2⟩:=Ry hs.inv hb;obtain⟨t1,t2,t3⟩:=Ht hs.inv hn;rw[hc]at t2;have hr:=run_next_at (P:=P) w o.type _ _ _ _ _ _ _ t2 J (λx hx=>(h2.mem hx).2) (aqc _);rcases hr with⟨h0,hr⟩|⟨e',pV,w1,Bm,hr⟩
     ·refine fI (by rw[ho];simp) hs cy (v:= .tuple #[.bool false]) ?_ (.bj _ _ rfl λi u c hu hc=> ?_) (hK2 λb fE=> ?_)
      ·unfold execOp;simp [ho,ptr e1,hr]
      ·match i with
       |0=>cases hu;cases hc;exact .d (.v _)
       |i+1=>simp at hu
      ·have aN:b<es.size:=by rw[<-h2.all];exact fE
       have LN:es[b]?=some es[b]:=aqn aN;have Cz:=h2.ok.born b _ LN;have Nt:leftOf es sn.2.toArray= #[]:=Array.eq_empty_of_size_eq_zero h0;unfold leftOf at Nt;rw[Array.filter_eq_empty_iff]at Nt;have:=Nt es[b] (Array.getElem_mem aN);rw[Cz]at this
       simpa using this
     ·have hm:e'∈es.toList/\e'.born ∉ sn.2:=by
       unfold leftOf at pV;simp only[Array.toList_filter,List.mem_filter]at pV;exact⟨pV.1,by simpa using pV.2⟩
      obtain⟨q1,q2⟩:=h2.mem hm.1;obtain⟨p,p1,p2,p3⟩:=h2.ord _ _ q1;have hK:=hK1 e'.born p p1 hm.2;obtain⟨jk,zf⟩:bV G.N G w G w1/\bW G w1 s.h:=by
       rcases Bm with rfl|rfl
       ·exact⟨bV.refl _ _ _,hs.inv⟩
       ·exact YO hs.inv
      obtain⟨t1',t2',_⟩:=Ht zf hn;obtain⟨z1,z2,z3,z4,z5,z6,z7⟩:=zf.dc m _ hn;obtain⟨jG,Ju⟩:=Tx (B':= .it (sn.1,sn.2++[e'.born]) [.mp mb]) (wE:= .mapIter (some (G.aR mb)) kv.length (sn.2.toArray.push e'.born) kv.length) zf hn rfl t1' t2' (.inr rfl) λw' gg fe hE=>by
       have hvv:=(Ht zf hn).2.2;refine⟨z1,z2,G.aR mb, #[.map (some (G.aR mb))],(),?_,⟨rfl,rfl⟩,λi u c hu hc=> ?_⟩
       ·rw[fe];simp [hc]
       ·match i with
        |0=>cases hu;cases hc;exact hvv.keep hE (aqc _)
        |i+1=>simp at hu
      refine mA (by rw[ho];simp) hs cy (v:= .tuple #[.bool true,e'.key,e'.val]) ?_ (jk.trans jG) (aqc _) Ju (.bj _ _ rfl λi u c hu hc=> ?_) hK
      ·unfold execOp;simp only[ho,ptr e1];simp [hr];rfl
      ·match i with
       |0=>cases hu;cases hc;exact .d (.v _)
       |1=>cases hu;cases hc;rw[p2];exact .d (.v _)
       |2=>cases hu;cases hc;exact .d (p3.keep (jk.trans jG).S (jk.trans jG).cell)
       |i+3=>simp at hu
    ·cases hx
   ·cases hx
  ·cases hx
 next it ho=>
  split at hx
  ·next m e1=>
   split at hx
   ·next sn mb hn=>
    split at hx
    ·next kv hb=>
     obtain⟨hc,l,b,p,hl,hp,hK⟩:=hx;obtain⟨es,J,h2⟩:=Ry hs.inv hb;obtain⟨t1,t2,t3⟩:=Ht hs.inv hn;have aN:b<es.size:=by rw[<-h2.all];exact(ap1.1 hp).1
     have LN:es[b]?=some es[b]:=aqn aN;have Cz:=h2.ok.born b _ LN;obtain⟨p',p1,p2,p3⟩:=h2.ord _ _ LN;rw[hp]at p1;cases p1
     have ku:(es.toList.map (·.born)).Nodup:=by
      have e:es.toList.map (·.born)=List.range es.size:=by
       apply List.ext_getElem?;intro i;rw[ap8,aqo];by_cases hi:i<es.size
       ·rw[aqn hi,Option.map_some,h2.ok.born i _ (aqn hi),List.getElem?_range hi]
       ·rw[Array.getElem?_eq_none (by omega),aqx (by simp;omega)];rfl
      rw[e];exact List.nodup_range
     have hr:=run_entry_at (P:=P) w (G.aR m) (G.aR mb) sn.1 l.toArray es kv.length es[b] (by rw[t2,hl,Cz,hc];simp) J (by simp) ku;refine fI (by rw[ho];simp) hs cy (v:= .tuple #[es[b].key,es[b].val]) ?_ (.bj _ _ rfl λi u c hu hc=> ?_) hK
     ·unfold execOp;simp [ho,ptr e1,hr]
     ·match i with
      |0=>cases hu;cases hc;rw[p2];exact .d (.v _)
      |1=>cases hu;cases hc;exact .d p3
      |i+2=>simp at hu
    ·cases hx
   ·cases hx
  ·cases hx
 next e ho=>
  split at hx
  ·next z hz=>
   obtain⟨hc,hK⟩:=hx;obtain⟨i1,i2⟩:=aa9 hs.inv e;exact mA (by rw[ho];simp) hs cy (by unfold execOp;simp [ho,Instr.alloc,EZ hz,newVar,newRow,hc]) (tP G w hs.inv.z hs.inv.S _) (Nat.le_succ _) i1 i2 hK
  ·cases hx
 next e x ho=>
  obtain⟨hx1,hK⟩:=hx;have hc:(a.eval x).cells= #[.pointer none, .slice none 0 0]:=by
   have hv:=dk x;rw[hx1]at hv;generalize a.eval x=u at hv;cases hv with|agg vs _ hl hr=>
   obtain⟨l⟩:=vs
   match l,hl with
   |[p,q],_=>
    have h0:=(hr 0 p _ rfl rfl).val;have J:=(hr 1 q _ rfl rfl).val;subst h0;subst J;rfl
  obtain⟨i1,i2⟩:=aa9 hs.inv e;exact mA (by rw[ho];simp) hs cy (by unfold execOp;simp [ho,Instr.box,newVar,newRow,hc]) (tP G w hs.inv.z hs.inv.S _) (Nat.le_succ _) i1 i2 hK
 ·cases hx
end
def jv(ops:Array Oper)(o:Oper)(s:St)(yes no:Prop):Prop:=
 match o.guard with
 |none=>yes
 |some (j,want)=>match (ops[j]?).bind (·.dst)with
  |some d=>match bp s.t d with
   | .d (.v (.bool b))=>(b=want->yes)/\(b= !want->no)
   | .d (.v (.tuple _))=>no
   |_=>False
  |none=>False
structure bH(P:Program)(r:Option Nat)(N0:Nat)(c:Code)(Q:Exit->St->Prop)(s:St):Prop where
 run:∀(G:Gh)(w:World)(a:Act)(n:Nat),cY G w a s->N0<=G.N->c.wpIn (WF r) n P (λe a' w'=>jr N0 G w (Q e) a' w') a w
def jc(K:St->Prop)(Q:Exit->St->Prop):Exit->St->Prop
 | .normal,s=>K s
 |e,s=>Q e s
def l5:Nat->aqP AV->aqP (Nat×AV)
 |_,[]=>[]
 |k,x::l=>(k,x)::l5 (k+1) l
theorem Qx:∀(l:aqP AV)(k i:Nat),bp (l5 k l) i=if k<=i then(l[i-k]?).getD .dead else .dead
 |[],k,i=>by simp [l5,bp]
 |x::l,k,i=>by
  rw[l5,lI,Qx l (k+1) i];by_cases h:i=k
  ·subst h;simp
  ·rw[if_neg h];by_cases h2:k<=i
   ·rw[if_pos (by omega),if_pos h2,show i-k=i-(k+1)+1 by omega,aqC]
   ·rw[if_neg (by omega),if_neg h2]
def YS(P:aqS)(k:Nat)(x:AV)(h:aqP aq)(C:Bool->aqP aq->Prop):Prop:=
 ∀(G:Gh)(w:aqU)(v:aqT)(r:aqR Nat)(n:Nat),bW G w h->aH G w v x->k<G.N/\∃(p:Nat)(as bd:Code)(fn:FuncId)(tm:Array aqT)(D:Nat),
  w.heap[G.aR k]?=some (.loop {state:= .ready,pending:=none,fn:=fn,tmps:=tm,params:= #[p],assign:=as,body:=bd,defers:=D})/\
  RoundIn (WF r) n P (G.aR k) fn (tm.setIfInBounds p v) as bd w λe w'=>∃(b:Bool)(G':Gh)(h':aqP aq),e= .returned (.bool b)/\bV G.N G w G' w'/\G.N<=G'.N/\bW G' w' h'/\C b h'
def akK(C:Bool->aqP aq->Prop)(k:Nat):Exit->St->Prop
 | .normal,s2=>∃p as bd ln,s2.h[k]?=some (.lp .busy p as bd ln)/\C true (s2.h.set k (.lp .ready p as bd ln))
 | .ret,s2=>∃p as bd ln,s2.h[k]?=some (.lp .busy p as bd ln)/\C false (s2.h.set k (.lp (.done .ret) p as bd ln))
 | .exit i,s2=>∃p as bd ln,s2.h[k]?=some (.lp .busy p as bd ln)/\C false (s2.h.set k (.lp (.done (.exit i)) p as bd ln))
 |_,_=>False
def L8(P:aqS)(o:Oper)(K:St->Prop)(s:St):Prop:=
 match o.op with
 | .call c=>match c.callee with
   | .value f=>match ev s f,c.args.toList.map (ev s)with
     | .cr k,[x]=>YS P k x s.h λb h'=>K ((s.wh h').put o.dst (.d (.v (.bool b))))
     |_,_=>False
   |_=>False
 |_=>False
def akg(P:aqS)(o:Oper)(K:St->Prop)(s:St):Prop:=∃x h',Bj P o.op (ev s) s.h=some (x,h')/\K ((s.wh h').put o.dst x)
def pf(P:aqS)(o:Oper)(K:St->Prop)(s:St):Prop:=KY P o K s\/GK P o K s\/rz P o K s\/L8 P o K s\/akg P o K s\/NV P o K s
def s8(P:aqS)(ops:Array Oper):aqP Oper->(St->Prop)->St->Prop
 |[],K,s=>K s
 |o::rest,K,s=>jv ops o s (pf P o (s8 P ops rest K) s) (s8 P ops rest K (s.put o.dst (.d (.v undef))))
def rZ(id:Nat)(Q:Exit->St->Prop):Exit->St->Prop
 | .exit rS,s=>bif rS==id then Q .normal s else Q (.exit rS) s
 |e,s=>Q e s
section
variable {P:aqS} {r:aqR Nat} {n N0:Nat} {G:Gh} {w:aqU} {a:Act} {s:St} {o:Oper} {Q:Exit->St->Prop}
theorem jr.mono{K K':St->Prop}(h:∀s,K s->K' s){a':Act}{w':aqU}(hn:jr N0 G w K a' w'):jr N0 G w K' a' w':=
 let ⟨G',s',J,h2,h3,h4⟩:=hn;⟨G',s',J,h2,h3,h _ h4⟩
theorem jr.trans{K:St->Prop}{G1:Gh}{w1:aqU}(hE:bV N0 G w G1 w1){a':Act}{w':aqU}(hn:jr N0 G1 w1 K a' w'):jr N0 G w K a' w':=
 let ⟨G',s',J,h2,h3,h4⟩:=hn;⟨G',s',hE.trans J,h2,h3,h4⟩
theorem bH.mono{c:Code}{Q':Exit->St->Prop}(h:bH P r N0 c Q s)(hq:∀e s,Q e s->Q' e s):bH P r N0 c Q' s:=
 ⟨λG w a n hs hN=>wpIn_mono (h.run G w a n hs hN) λe _ _ hn=>hn.mono (hq e)⟩
theorem RH{ops:Array Oper}{yes no:Prop}(hs:cY G w a s)(h:jv ops o s yes no):if Region.wanted o (yielded ops a.tmps)then yes else no:=by
 unfold jv at h;split at h
 ·rename_i hg
  rw[if_pos (by simp [Region.wanted,hg])];exact h
 ·rename_i j want hg
  split at h
  ·rename_i d hd
   have hv:=hs.tmp d;split at h
   ·rename_i b hb
    rw[hb]at hv;have e:=hv.bool;have hy:yielded ops a.tmps j=some b:=by
      unfold yielded;rw[hd,ap0];by_cases aN:d<a.tmps.size
      ·rw[aqn aN];have:a.tmps.getD d undef=a.tmps[d]:=by simp [Array.getD,aN]
       rw[this]at e;rw[e]
      ·have:a.tmps.getD d undef=undef:=by simp [Array.getD,aN]
       rw[this]at e;cases e
    by_cases xf:b=want
    ·rw[if_pos (by simp [Region.wanted,hg,hy,xf])];exact h.1 xf
    ·rw[if_neg (by simp [Region.wanted,hg,hy,xf])];exact h.2 (by cases b<;>cases want<;>simp_all)
   ·rename_i vs hb
    rw[hb]at hv;have e:=hv.val;have hy:yielded ops a.tmps j=none:=by
      unfold yielded;rw[hd,ap0];by_cases aN:d<a.tmps.size
      ·rw[aqn aN];have:a.tmps.getD d undef=a.tmps[d]:=by simp [Array.getD,aN]
       rw[this]at e;rw[e]
      ·rw[Array.getElem?_eq_none (Nat.le_of_not_lt aN)]
    rw[if_neg (by simp [Region.wanted,hg,hy])];exact h
   ·exact h.elim
  ·exact h.elim
theorem YS.mono{k:Nat}{x:AV}{h:aqP aq}{C C':Bool->aqP aq->Prop}(hy:YS P k x h C)(hc:∀b h',C b h'->C' b h'):YS P k x h C':=λG w v r n hi hv=>
 let ⟨h0,p,as,bd,fn,tm,D,J,h2⟩:=hy G w v r n hi hv
 ⟨h0,p,as,bd,fn,tm,D,J,h2.mono λ_ _ ⟨b,G',h',a1,a2,a3,a4,a5⟩=>⟨b,G',h',a1,a2,a3,a4,hc _ _ a5⟩⟩
theorem aeb{k:Nat}{x:AV}{h:aqP aq}{C:Bool->aqP aq->Prop}
 (hA:∃p as bd cs,h[k]?=some (.lp .ready p as bd cs)/\p<cs.length/\∀(l:Nat),bH P (some l) h.length as (jc (λs1=>∃p1 tF tE yR,s1.h[k]?=some (.lp .ready p1 tF tE yR)/\bH P (some l) h.length bd (akK C k) ⟨s1.n,s1.t,s1.h.set k (.lp .busy p1 tF tE yR)⟩) (λ_ _=>False)) ⟨cs.length,(p,x)::l5 0 cs,h⟩):YS P k x h C:=by
 intro G w v r n hi TL;obtain⟨p,as,bd,cs,hk,hp,hA⟩:=hA;have AO:k<G.N:=hi.lt hk;obtain⟨hS,fn,tm,D,h3,h4,h5,apZ⟩:=KZ hi hk;refine⟨AO,p,as,bd,fn,tm,D,h3,?_⟩;refine roundIn_of_wpIn (F:=WF r) trivial ?_;have rp:cY G w {tmps:=tm.setIfInBounds p v,defers:=[]} ⟨cs.length,(p,x)::l5 0 cs,h⟩:=by
  refine⟨by simp [h4],λi=> ?_,hi,sx.nil _ _⟩;show aH _ _ _ (bp ((p,x)::l5 0 cs) i);rw[lI];split
  ·next e=>
   subst e;have:(tm.setIfInBounds i v).getD i undef=v:=by simp [Array.getD,h4,hp]
   rw[this];exact TL
  ·next e=>
   rw[Qx];simp only[Nat.zero_le,if_true,Nat.sub_zero];cases gg:cs[i]? with
   |none=>exact .dead _
   |some y=>
    have aN:i<tm.size:=by rw[h4];exact(ap1.1 gg).1
    have:(tm.setIfInBounds p v).getD i undef=tm[i]:=by
     simp [Array.getD,aN,Ne.symm e]
    rw[this];exact h5 i _ y (aqn aN) gg
 have JX:=hA (G.aR k);rw[hi.len]at JX;refine wpIn_mono (JX.run G w _ n rp (aqc _)) λe1 a1 w1 xd=> ?_;obtain⟨G1,s1,jk,gF,ft,xG⟩:=xd;cases e1 with
 |normal=>
  obtain⟨p1,tF,tE,yR,j5,iS⟩:=xG;have DH:G1.aR k=G.aR k:=jk.aR k AO;obtain⟨_,fn1,tm1,D1,g3,g4,g5,U2⟩:=KZ ft.inv j5;obtain⟨gE,gI⟩:=U2 .busy;rw[DH]at g3 gE gI;refine⟨_,run_beginRound g3 rfl,?_⟩;have x7:cY G1 (w1.putObj (G.aR k) (.loop {state:= .busy,pending:=none,fn:=fn1,tmps:=tm1,params:= #[p1],assign:=tF,body:=tE,defers:=D1})) a1 ⟨s1.n,s1.t,s1.h.set k (.lp .busy p1 tF tE yR)⟩:=ft.move gE (aqc _) gI;refine wpIn_mono (iS.run G1 _ a1 n x7 gF) λe3 a3 w3 hn3=> ?_;obtain⟨G3,s3,hE3,Vo,hs3,rL⟩:=hn3;have fin:∀(jump:aqR Code)(ls:LS)(b:Bool)(p:Nat)(as bd:Code)(ln:aqP AV),s3.h[k]?=some (.lp .busy p as bd ln)->ls.pd=jump->ls.st=(if jump.isNone then .ready else .done)->jump.isNone=b->C b (s3.h.set k (.lp ls p as bd ln))->
   ∃v w',(Instr.endRound (G.aR k) jump).run P w3= .ok v w'/\∃(b:Bool)(G':Gh)(h':aqP aq),(Ending.returned v:Ending)= .returned (.bool b)/\bV G.N G w G' w'/\G.N<=G'.N/\bW G' w' h'/\C b h':=λjump ls b p as bd ln J8 q1 q2 q3 hK=>by
   have hr3:G3.aR k=G.aR k:=(hE3.aR k AO).trans DH;obtain⟨_,fn3,tm3,D3,z3,z4,z5,akk⟩:=KZ hs3.inv J8;obtain⟨zE,zI⟩:=akk ls;rw[hr3]at z3 zE zI;subst q1;have CC:=run_endRound (P:=P) ls.pd z3;rw[<-q2]at CC;refine⟨_,_,CC,b,G3,_,by rw[q3],?_,Vo,zI,hK⟩;exact(jk.trans ((gE.less gF).trans hE3)).trans (zE.less Vo)
  cases e3 with
  |normal=>obtain⟨p2,Fa,Fp,ln,y1,y2⟩:=rL;exact fin none .ready true p2 Fa Fp ln y1 rfl rfl rfl y2
  |ret=>obtain⟨p2,Fa,Fp,ln,y1,y2⟩:=rL;exact fin (some .ret) (.done .ret) false p2 Fa Fp ln y1 rfl rfl rfl y2
  |exit i=>obtain⟨p2,Fa,Fp,ln,y1,y2⟩:=rL;exact fin (some (.exit i)) (.done (.exit i)) false p2 Fa Fp ln y1 rfl rfl rfl y2
  |_=>exact rL.elim
 |_=>exact xG.elim
theorem akE{K:St->Prop}{Q:Exit->Act->aqU->Prop}(hs:cY G w a s)(hN:N0<=G.N)(h:L8 P o K s):o.wpIn (WF r) n P a w (jr N0 G w K) Q:=by
 unfold L8 at h;split at h
 ·next c ho=>
  split at h
  ·next f hc=>
   split at h
   ·next k x hf hx=>
    have hv:=hs.ev f;rw[hf]at hv;have ea:a.eval f= .func (.yield (G.aR k)) #[] #[]:=by
     generalize a.eval f=u at hv;cases hv;rfl
    obtain⟨p1,p2⟩:=wR hs c.args;obtain⟨v,tw⟩:∃v,c.args.map a.eval= #[v]:=by
     have:(c.args.map a.eval).size=1:=by rw[p1,hx];rfl
     exact⟨(c.args.map a.eval)[0],Array.ext (by simp [this]) λi J h2=>by
      have:i=0:=by simp at h2;exact h2
      subst this;rfl⟩
    have TL:aH G w v x:=p2 0 v x (by rw[tw];rfl) (by rw[hx];rfl);obtain⟨AO,p,as,bd,fn,tm,D,h3,hA⟩:=h G w v r (n-1) hs.inv TL;have ku:∀c',o.op≠ .defer c':=λc' e=>by rw[ho]at e;cases e
    have hy:=run_yield (P:=P) (args:= #[v]) h3 rfl;have dL:(o.semAt (WF r).round a.eval).run P w= .ok (.round (G.aR k) fn (tm.setIfInBounds p v) as bd) w:=by
     rw[Oper.semAt_eq _ _ _ ku];unfold execOp;simp only[ho,resolve,hc,ea];simp [Deferred.ofValue,invoke,tw,hy]
    unfold Oper.wpIn;refine⟨λg hg=>trivial,?_⟩;rw[dL,Oper.uponIn_round];refine⟨λh=>(by simp [WF,Fence.wide]at h),hA.mono λe w' hp=> ?_⟩;obtain⟨b,G',h',rfl,hE,rP,dY,hK⟩:=hp;exact⟨G',_,hE.less hN,aqj hN rP,(hs.move hE rP dY).put (.d (.v _)) o.dst,hK⟩
   ·exact h.elim
  ·exact h.elim
 ·exact h.elim
theorem am1{K:St->Prop}{Q:Exit->Act->aqU->Prop}(hs:cY G w a s)(hN:N0<=G.N)(h:pf P o K s):o.wpIn (WF r) n P a w (jr N0 G w K) Q:=by
 rcases h with h|h|h|h|⟨x,h',h,hK⟩|h
 ·exact Sl hs hN (.inl h)
 ·exact Sl hs hN (.inr (.inl h))
 ·exact Sl hs hN (.inr (.inr h))
 ·exact akE hs hN h
 ·exact air hs hN h hK
 ·exact ahe hs hN h
theorem Om{ops:Array Oper}{K:St->Prop}{Q':Exit->Act->aqU->Prop}(hQ:∀a' w',jr N0 G w K a' w'->Q' .normal a' w'):∀(l:aqP Oper)(k:Nat),(∀j,l[j]?=ops[k+j]?)->∀(G1:Gh)(w1:aqU)(a:Act)(s:St),
 bV N0 G w G1 w1->N0<=G1.N->cY G1 w1 a s->s8 P ops l K s->wpOpsIn (WF r) n P ops Q' (List.range' k l.length) a w1
 |[],k,_,G1,w1,a,s,hE,hN,hs,h=>hQ _ _ ⟨G1,s,hE,hN,hs,h⟩
 |o::l,k,hl,G1,w1,a,s,hE,hN,hs,h=>by
  have h0:ops[k]?=some o:=by simpa using (hl 0).symm
  have qa:∀j,l[j]?=ops[k+1+j]?:=λj=>by have:=hl (j+1);simpa [Nat.add_assoc,Nat.add_comm 1 j]using this
  have hg:=RH hs h;simp only[ap4,List.range'_succ,wpOpsIn,h0];split
  ·rename_i hw
   rw[if_pos hw]at hg;exact Oper.wpIn_mono (λa' w' hn=>by
     obtain⟨G2,s2,e2,n2,wU,k2⟩:=hn;exact Om hQ l (k+1) qa G2 w' a' s2 (hE.trans e2) n2 wU k2) (am1 hs hN hg)
  ·rename_i hw
   rw[if_neg hw]at hg;exact⟨λ_ _=>trivial,Om hQ l (k+1) qa G1 w1 _ _ hE hN (hs.put (.d (.v undef)) o.dst) hg⟩
theorem ff{id:Nat}{ops:Array Oper}(h:s8 P ops ops.toList (Q .normal) s):bH P r N0 (.region id ops false) Q s:=by
 constructor
 intro G w a n hs hN;refine wpIn_region ?_;rw[List.range_eq_range',<-aqy];exact Om (G:=G) (w:=w) (K:=Q .normal) (λ_ _ h=>h) ops.toList 0 (by simp) G w a s (bV.refl _ _ _) hN hs h
theorem dI(h:Q .normal s):bH P r N0 .skip Q s:=⟨λG _ _ _ hs hN=>wpIn_skip ⟨G,s,bV.refl _ _ _,hN,hs,h⟩⟩
theorem c8(h:Q .ret s):bH P r N0 .ret Q s:=⟨λG _ _ _ hs hN=>wpIn_ret ⟨G,s,bV.refl _ _ _,hN,hs,h⟩⟩
theorem oT{id:Nat}(h:Q (.exit id) s):bH P r N0 (.exit id) Q s:=⟨λG _ _ _ hs hN=>wpIn_exit ⟨G,s,bV.refl _ _ _,hN,hs,h⟩⟩
theorem aD{x y:Code}(h:bH P r N0 x (jc (λs'=>bH P r N0 y Q s') Q) s):bH P r N0 (.seq x y) Q s:=by
 constructor
 intro G w a n hs hN;refine wpIn_seq (wpIn_mono (h.run G w a n hs hN) λe a1 w1 hn=> ?_);obtain⟨G1,s1,hE,gF,ft,hq⟩:=hn;cases e with
 |normal=>exact wpIn_mono (hq.run G1 w1 a1 n ft gF) λ_ _ _ hn=>hn.trans hE
 |_=>exact⟨G1,s1,hE,gF,ft,hq⟩
theorem S6{c:Operand}{x y:Code}{t:Bool}(hc:ev s c= .d (.v (.bool t)))(J:t=true->bH P r N0 x Q s)(h2:t=false->bH P r N0 y Q s):bH P r N0 (.cond c x y) Q s:=by
 constructor
 intro G w a n hs hN;have hb:=hs.ev c;rw[hc]at hb;exact wpIn_cond_split hb.bool (λe=>(J e).run G w a n hs hN) (λe=>(h2 e).run G w a n hs hN)
theorem gq{id:Nat}{c:Code}(h:bH P r N0 c (rZ id Q) s):bH P r N0 (.block id c) Q s:=by
 constructor
 intro G w a n hs hN;refine wpIn_block (wpIn_mono (h.run G w a n hs hN) λe a1 w1 hn=> ?_);obtain⟨G1,s1,hE,gF,ft,hq⟩:=hn;cases e with
 |exit rS=>
  by_cases he:rS=id
  ·simp only[rZ,he,BEq.rfl,cond_true]at hq;simp only[Exit.inBlock,if_pos he];exact⟨G1,s1,hE,gF,ft,hq⟩
  ·have hbe:(rS==id)=false:=by simpa using he
   simp only[rZ,hbe,cond_false]at hq;simp only[Exit.inBlock,if_neg he];exact⟨G1,s1,hE,gF,ft,hq⟩
 |_=>exact⟨G1,s1,hE,gF,ft,hq⟩
theorem T4{F:Fence}{c:Code}{Q:Exit->Act->aqU->Prop}{ι:Type}(I:ι->Act->aqU->Prop)(μ:ι->Nat)(i0:ι)(h₀:I i0 a w)
 (round:∀i a w,I i a w->c.wpIn F n P (Exit.then (λa' w'=>∃i',I i' a' w'/\μ i'<μ i) Q) a w):(Code.loop c).wpIn F n P Q a w:=by
 intro b k cs Bp hb hr;have key:∀j i a w,μ i=j->I i a w->
  ∃e a' w',Q e a' w'/\ArrivesIn (Machine.fenced P F) P (lone (b.atR a (.code c:: .inLoop c::k)) cs w) b k cs e a' w':=by
  intro j
  induction j using Nat.strongRecOn with
  |_ j ih=>
   intro i a w hn hI;obtain⟨e,a₁,w₁,hq,vS⟩:=round i a w hI b (.inLoop c::k) cs Bp hb hr;cases e with
   |normal=>
    obtain⟨i',hI₁,aN⟩:=hq;obtain⟨e₂,a₂,w₂,hq₂,akD⟩:=ih (μ i') (hn▸aN) i' a₁ w₁ rfl hI₁;exact⟨e₂,a₂,w₂,hq₂, .of_steps (StepsIn.trans vS (.one (fenced_calm hb hr rfl) stepR_inLoop)) akD⟩
   |exit id=>exact⟨_,a₁,w₁,hq, .pass (x:= .inLoop c) rfl (λ_ _=> .inl (by simp)) vS⟩
   |goto l=>exact⟨_,a₁,w₁,hq, .pass (x:= .inLoop c) rfl (λ_ _=> .inl (by simp)) vS⟩
   |ret=>exact⟨_,a₁,w₁,hq, .pass (x:= .inLoop c) rfl (λ_ _=> .inl (by simp)) vS⟩
   |panic ch=>exact⟨_,a₁,w₁,hq, .pass (x:= .inLoop c) rfl (λ_ _=> .inl (by simp)) vS⟩
   |outgrown=>exact⟨_,a₁,w₁,hq, .pass (x:= .inLoop c) rfl (λ_ _=> .inl (by simp)) vS⟩
 obtain⟨e,a',w',hq,vS⟩:=key _ i0 a w rfl h₀;exact⟨e,a',w',hq, .of_steps (.one (fenced_calm hb hr rfl) stepR_loop) vS⟩
end
mutual
def AV.bx(m:Nat):AV->AV
 | .own n xs=>bif ct m n then .d (.sl xs)else .own n xs
 | .agg cs=> .agg (AV.qe m cs)
 | .bj cs=> .bj (AV.qe m cs)
 | .fn f cs=> .fn f (AV.qe m cs)
 |x=>x
def AV.qe(m:Nat):aqP AV->aqP AV
 |[]=>[]
 |x::l=>x.bx m::AV.qe m l
end
mutual
def AV.aE(m:Nat):AV->Bool
 | .own n _| .ptr n _| .row n _ _ _ _| .mp n| .cr n| .vec n _ _ _ _| .dB n _ _ _ _=> !ct m n
 | .agg cs=>AV.kK m cs
 | .bj cs=>AV.kK m cs
 | .fn _ cs=>AV.kK m cs
 |_=>true
def AV.kK(m:Nat):aqP AV->Bool
 |[]=>true
 |x::l=>x.aE m&&AV.kK m l
end
theorem CV(m:Nat):∀l,AV.qe m l=l.map (AV.bx m)
 |[]=>by simp [AV.qe]
 |x::l=>by simp [AV.qe,CV m l]
theorem nv(m:Nat):∀l,AV.kK m l=l.all (AV.aE m)
 |[]=>by simp [AV.kK]
 |x::l=>by simp [AV.kK,nv m l]
def aq.bx(m:Nat):aq->aq
 | .cells cs=> .cells (cs.map (AV.bx m))
 | .lp ls p as bd cs=> .lp ls p as bd (cs.map (AV.bx m))
 | .it sn cs=> .it sn (cs.map (AV.bx m))
 | .e9 T cs=> .e9 T (cs.map (AV.bx m))
 | .vec e k cs=> .vec e k (cs.map (·.map (AV.bx m)))
 |B=>B
def aq.aE(m:Nat):aq->Bool
 | .cells cs=>cs.all (AV.aE m)
 | .lp _ _ _ _ cs=>cs.all (AV.aE m)
 | .it _ cs=>cs.all (AV.aE m)
 | .e9 _ cs=>cs.all (AV.aE m)
 | .vec _ _ cs=>cs.all (·.all (AV.aE m))
 |_=>true
theorem aH.bx{G:Gh}{w:aqU}(m:Nat){u:aqT}{x:AV}(h:aH G w u x):aH G w u (x.bx m):=by
 have fM:∀(vs:Array aqT)(cs:aqP AV),(∀(i:Nat)(u:aqT)(c:AV),vs[i]?=some u->cs[i]?=some c->aH G w u (c.bx m))->∀(i:Nat)(u:aqT)(c:AV),vs[i]?=some u->(AV.qe m cs)[i]?=some c->aH G w u c:=by
  intro vs cs ih i u c hu hc;rw[CV,ap8]at hc;cases hx:cs[i]? with
  |none=>rw[hx]at hc;cases hc
  |some x=>rw[hx]at hc;cases hc;exact ih i u x hu hx
 induction h with
 |agg vs cs hl _ ih=>rw[AV.bx];exact .agg vs _ (by rw[CV,ap6];exact hl) (fM vs cs ih)
 |bj vs cs hl _ ih=>rw[AV.bx];exact .bj vs _ (by rw[CV,ap6];exact hl) (fM vs cs ih)
 |fn f vs cs hl _ ih=>rw[AV.bx];exact .fn f vs _ (by rw[CV,ap6];exact hl) (fM vs cs ih)
 |own n xs h hp hle hf=>
  rw[AV.bx,cond_eq_ite];split
  ·exact .d hp
  ·exact .own n xs h hp hle hf
 |d h=>simp only[AV.bx];exact .d h
 |ptr n off h=>simp only[AV.bx];exact .ptr n off h
 |bk xs i off b o u x hx hS hu=>simp only[AV.bx];exact .bk xs i off b o u x hx hS hu
 |full xs hp hf=>simp only[AV.bx];exact .full xs hp hf
 |row n off len cap k h hl hm=>simp only[AV.bx];exact .row n off len cap k h hl hm
 |mp n h=>simp only[AV.bx];exact .mp n h
 |cr n h=>simp only[AV.bx];exact .cr n h
 |vec n o len L k h hs hL hf=>simp only[AV.bx];exact .vec n o len L k h hs hL hf
 |dB n i j L k h hs hL hf=>simp only[AV.bx];exact .dB n i j L k h hs hL hf
 |hid h J=>simp only[AV.bx];exact .hid h J
 |dead u=>simp only[AV.bx];exact .dead u
def Gh.cut(G:Gh)(m:Nat):Gh:={G with N:=m}
theorem aH.cut{G:Gh}{w:aqU}{m:Nat}{u:aqT}{x:AV}(h:aH G w u x)(hb:x.aE m=true):aH (G.cut m) w u x:=by
 induction h with
 |agg vs cs hl _ ih=>
  rw[AV.aE,nv,aqr]at hb;exact .agg vs cs hl λi u c hu hc=>ih i u c hu hc (hb c (aqe hc))
 |bj vs cs hl _ ih=>
  rw[AV.aE,nv,aqr]at hb;exact .bj vs cs hl λi u c hu hc=>ih i u c hu hc (hb c (aqe hc))
 |fn f vs cs hl _ ih=>
  rw[AV.aE,nv,aqr]at hb;exact .fn f vs cs hl λi u c hu hc=>ih i u c hu hc (hb c (aqe hc))
 |own n xs h hp hle hf=>rw[AV.aE]at hb;exact .own n xs (show n<m by rw[Bool.not_eq_true',<-Bool.not_eq_true,dh]at hb;omega) hp hle hf
 |ptr n off h=>rw[AV.aE]at hb;exact .ptr (G:=G.cut m) n off (show n<m by rw[Bool.not_eq_true',<-Bool.not_eq_true,dh]at hb;omega)
 |row n off len cap k h hl hm=>rw[AV.aE]at hb;exact .row (G:=G.cut m) n off len cap k (show n<m by rw[Bool.not_eq_true',<-Bool.not_eq_true,dh]at hb;omega) hl hm
 |mp n h=>rw[AV.aE]at hb;exact .mp (G:=G.cut m) n (show n<m by rw[Bool.not_eq_true',<-Bool.not_eq_true,dh]at hb;omega)
 |cr n h=>rw[AV.aE]at hb;exact .cr (G:=G.cut m) n (show n<m by rw[Bool.not_eq_true',<-Bool.not_eq_true,dh]at hb;omega)
 |vec n o len L k h hs hL hf=>rw[AV.aE]at hb;exact .vec (G:=G.cut m) n o len L k (show n<m by rw[Bool.not_eq_true',<-Bool.not_eq_true,dh]at hb;omega) hs hL hf
 |dB n i j L k h hs hL hf=>rw[AV.aE]at hb;exact .dB (G:=G.cut m) n i j L k (show n<m by rw[Bool.not_eq_true',<-Bool.not_eq_true,dh]at hb;omega) hs hL hf
 |hid h J=>exact .hid (G:=G.cut m) h J
 |d h=>exact .d h
 |bk xs i off b o u x hx hS hu=>exact .bk xs i off b o u x hx hS hu
 |full xs hp hf=>exact .full xs hp hf
 |dead u=>exact .dead u
def St.mask(s:St)(live:aqP Nat)(m:Nat):St:={s with t:=live.map λk=>(k,(bp s.t k).bx m),h:=(s.h.take m).map (aq.bx m)}
def St.zk(s:St)(live:aqP Nat)(m:Nat):Prop:=m<=s.h.length/\(live.all λk=>((bp s.t k).bx m).aE m)=true/\(((s.h.take m).map (aq.bx m)).all (aq.aE m))=true
theorem tO(f:Nat->AV):∀(live:aqP Nat)(i:Nat),bp (live.map λk=>(k,f k)) i=if i∈live then f i else .dead
 |[],i=>by simp [bp]
 |k::l,i=>by
  simp only[aqq,lI,tO f l i,aqv];by_cases h:i=k
  ·subst h;simp
  ·simp [h]
theorem RG{G:Gh}{w:aqU}{h:aqP aq}(hi:bW G w h){m:Nat}(hm:m<=h.length)(hb:(((h.take m).map (aq.bx m)).all (aq.aE m))=true):bW (G.cut m) w ((h.take m).map (aq.bx m)):=by
 have fp:∀(n:Nat)(B:aq),((h.take m).map (aq.bx m))[n]?=some B->n<m/\∃B',h[n]?=some B'/\B=B'.bx m/\(B'.bx m).aE m=true:=λn B hB=>by
  have uT:=aqr.1 hb B (aqe hB);rw[ap8,List.getElem?_take]at hB;split at hB
  ·rename_i hn
   cases hx:h[n]? with
   |none=>rw[hx]at hB;cases hB
   |some B'=>rw[hx]at hB;cases hB;exact⟨hn,B',rfl,rfl,uT⟩
  ·cases hB
 have eJ:∀n b,bU ((h.take m).map (aq.bx m)) (G.cut m) n=some b->bU h G n=some b:=λn b hb=>by
  obtain⟨B,hB,hb⟩:=nI hb;obtain⟨_,B',J,rfl,_⟩:=fp n B hB;rw[dJ J,<-hb];cases B'<;>rfl
 refine⟨by simp [Gh.cut];omega,hi.z,hi.S,λn B hB=> ?_,λi j b J h2=>hi.inj i j b (eJ i b J) (eJ j b h2),hi.gl⟩;obtain⟨hn,B',J,rfl,uT⟩:=fp n B hB;have dP:=hi.dc n B' J;cases B' with
 |gone=>trivial
 |front e k len=>exact dP
 |iP e b=>exact dP
 |map kv=>exact dP
 |ja kv=>exact dP
 |vec e k cs=>
  obtain⟨c1,c2,c3,c4⟩:=dP;refine⟨by rw[ap6];exact c1,by rw[ap6];exact c2,λc hc=> ?_,?_⟩
  ·obtain⟨x,hx,rfl⟩:=List.mem_map.1 hc;rw[ap6];exact c3 x hx
  ·rcases c4 with⟨d1,d2,A,d3⟩|⟨g,cap,cur,d1,d2,d3,d4,d5,d6,d7,d8,d9⟩
   ·exact .inl ⟨d1,by rw[d2];rfl,A,d3⟩
   ·refine .inr ⟨g,cap,cur,d1,by rw[ap6];exact d2,d3,d4,by rw[ap6];exact d5,d6,d7,d8,λi j c x u hc hx hu=> ?_⟩;simp only[aq.bx,aq.aE,aqr]at uT;rw[ap8]at hc;cases hy:cs[i]? with
    |none=>rw[hy]at hc;cases hc
    |some y=>
     rw[hy]at hc;cases hc
     have hz:=hx;rw[ap8]at hx;cases hw:y[j]? with
     |none=>rw[hw]at hx;cases hx
     |some z=>
      rw[hw]at hx;cases hx
      exact((d9 i j y z u hy hw hu).bx m).cut (uT _ (List.mem_map.2 ⟨y,aqe hy,rfl⟩) _ (aqe hz))
 |cells cs=>
  obtain⟨c1,c2,vs,T,c3,c4,c5⟩:=dP;refine⟨c1,c2,vs,T,c3,by rw[ap6];exact c4,λi u c hu hc=> ?_⟩;have jY:=aqe hc;rw[ap8]at hc;cases hx:cs[i]? with
  |none=>rw[hx]at hc;cases hc
  |some x=>
   rw[hx]at hc;cases hc
   exact((c5 i u x hu hx).bx m).cut (aqr.1 uT _ jY)
 |lp ls p as bd cs=>
  obtain⟨c1,c2,fn,vs,T,c3,c4,c5⟩:=dP;refine⟨c1,c2,fn,vs,T,c3,by rw[ap6];exact c4,λi u c hu hc=> ?_⟩;have jY:=aqe hc;rw[ap8]at hc;cases hx:cs[i]? with
  |none=>rw[hx]at hc;cases hc
  |some x=>
   rw[hx]at hc;cases hc
   exact((c5 i u x hu hx).bx m).cut (aqr.1 uT _ jY)
 |it sn cs=>
  obtain⟨c1,c2,fn,vs,T,c3,c4,c5⟩:=dP;refine⟨c1,c2,fn,vs,T,c3,by rw[ap6];exact c4,λi u c hu hc=> ?_⟩;have jY:=aqe hc;rw[ap8]at hc;cases hx:cs[i]? with
  |none=>rw[hx]at hc;cases hc
  |some x=>
   rw[hx]at hc;cases hc
   exact((c5 i u x hu hx).bx m).cut (aqr.1 uT _ jY)
 |e9 T0 cs=>
  obtain⟨c1,c2,fn,vs,T,c3,c4,c5⟩:=dP;refine⟨c1,c2,fn,vs,T,c3,by rw[ap6];exact c4,λi u c hu hc=> ?_⟩;have jY:=aqe hc;rw[ap8]at hc;cases hx:cs[i]? with
  |none=>rw[hx]at hc;cases hc
  |some x=>
   rw[hx]at hc;cases hc
   exact((c5 i u x hu hx).bx m).cut (aqr.1 uT _ jY)
theorem qN(N:Nat)(G:Gh)(w:aqU)(m:Nat):bV N G w (G.cut m) w:=
 ⟨aqc _,λ_ _ h=>h,λ_ _ _=>rfl,λ_ _=>rfl,λ_ _=> .inl ⟨rfl,rfl⟩,im rfl,λ_ _=>rfl,rfl,rfl,rfl,λ_ _ h=> .inl h⟩
section
variable {P:aqS} {r:aqR Nat} {n N0:Nat} {G:Gh} {w:aqU} {a:Act} {s:St} {o:Oper} {Q:Exit->St->Prop}
theorem cY.mask(hs:cY G w a s){live:aqP Nat}{m:Nat}(h:s.zk live m):cY (G.cut m) w a (s.mask live m):=by
 obtain⟨J,h2,h3⟩:=h;refine⟨hs.size,λi=> ?_,RG hs.inv J h3,hs.df⟩;show aH _ _ _ (bp (live.map λk=>(k,(bp s.t k).bx m)) i);rw[tO (λk=>(bp s.t k).bx m)];split
 ·rename_i hi
  exact((hs.tmp i).bx m).cut (aqr.1 h2 i hi)
 ·exact .dead _
theorem Ki{c:Code}{ι:Type}(live:aqP Nat)(m:Nat)(st:ι->St)(I:ι->Prop)(μ:ι->Nat)(i0:ι)(hm:N0<=m)(cd:s.zk live m)(h0:s.mask live m=st i0)(hI:I i0)
 (round:∀i,I i->bH P r N0 c (jc (λs'=>s'.zk live m/\∃i',s'.mask live m=st i'/\I i'/\μ i'<μ i) Q) (st i)):bH P r N0 (.loop c) Q s:=by
 constructor
 intro G w a n hs _;refine T4 (λ(i:ι) a' w'=>∃G',I i/\bV N0 G w G' w'/\N0<=G'.N/\cY G' w' a' (st i)) μ i0 ⟨G.cut m,hI,qN _ _ _ _,hm,h0▸hs.mask cd⟩ ?_;rintro i a' w' ⟨G',hi,hE,hN,cE⟩;refine wpIn_mono ((round i hi).run G' w' a' n cE hN) λe a1 w1 hn=> ?_;obtain⟨G1,s1,jk,gF,ft,hq⟩:=hn;cases e with
 |normal=>
  obtain⟨ama,i',J,h2,h3⟩:=hq;exact⟨i',⟨G1.cut m,h2,(hE.trans jk).trans (qN _ _ _ _),hm,J▸ft.mask ama⟩,h3⟩
 |_=>exact⟨G1,s1,hE.trans jk,gF,ft,hq⟩
def nH(P:aqS)(s:St):aqP ResultVar->(aqP AV->Prop)->Prop
 |[],C=>C []
 | .tmp t::l,C=>nH P s l λxs=>C (bp s.t t::xs)
 | .cell p t::l,C=>oO P t s.h (bp s.t p) λx=>nH P s l λxs=>C (x::xs)
def kp:aqP AV->AV
 |[x]=>x
 |l=> .bj l
def qS(P:aqS)(fn:Func)(m:Nat)(K:AV->aqP aq->Prop)(s:St):Prop:=
 nH P s fn.results.toList λl=>m<=s.h.length/\((kp l).bx m).aE m=true/\(((s.h.take m).map (aq.bx m)).all (aq.aE m))=true/\K ((kp l).bx m) ((s.h.take m).map (aq.bx m))
def HU(P:aqS)(fn:Func)(m:Nat)(K:AV->aqP aq->Prop):Exit->St->Prop
 | .normal,s=>qS P fn m K s
 | .ret,s=>qS P fn m K s
 |_,_=>False
theorem apI{C:aqP AV->Prop}(hs:cY G w a s)(g:ResultVar->Sem aqT)(hg1:∀t,g (.tmp t)=pure (a.tmps.getD t undef))(C0:∀p t,g (.cell p t)=(do loadVar t (<-asAddr (a.tmps.getD p undef)))):
 ∀(l:aqP ResultVar),nH P s l C->∃(vs:aqP aqT)(xs:aqP AV),(l.mapM g).run P w= .ok vs w/\vs.length=xs.length/\(∀(i:Nat)(u:aqT)(c:AV),vs[i]?=some u->xs[i]?=some c->aH G w u c)/\C xs:=by
 intro l
 induction l generalizing C with
 |nil=>exact λh=>⟨[],[],by simp,rfl,λi u c hu=>by simp at hu,h⟩
 |cons x l ih=>
  intro h;cases x with
  |tmp t=>
   obtain⟨vs,xs,J,h2,h3,h4⟩:=ih h;refine⟨a.tmps.getD t undef::vs,bp s.t t::xs,by simp only[List.mapM_cons,hg1,Sem.run_bind,Sem.run_pure,Result.andThen_ok,J],by simp [h2],λi u c hu hc=> ?_,h4⟩
   match i with
   |0=>simp only[List.getElem?_cons_zero,Option.some.injEq]at hu hc;subst hu;subst hc;exact hs.tmp t
   |i+1=>exact h3 i u c (by simpa using hu) (by simpa using hc)
  |cell p t=>
   obtain⟨u0,x0,r1,r2,r3⟩:=abJ (P:=P) hs.inv (hs.tmp p) h;obtain⟨vs,xs,J,h2,h3,h4⟩:=ih r3;have hv:=hs.tmp p;have e:∃ad,a.tmps.getD p undef= .pointer (some ad):=by
    have h':oO P t s.h (bp s.t p) λx=>nH P s l λxs=>C (x::xs):=h;generalize a.tmps.getD p undef=v at hv r1;generalize bp s.t p=y at hv h';cases hv with
    |ptr=>exact⟨_,rfl⟩
    |bk=>exact⟨_,rfl⟩
    |_=>exact(show False from h').elim
   obtain⟨ad,e⟩:=e;rw[e]at r1;have r1':(loadVar t ad).run P w= .ok u0 w:=by simpa [Instr.loadAt,Instr.sureAddr]using r1
   have ha:(asAddr (a.tmps.getD p undef)).run P w= .ok ad w:=by rw[e];rfl
   refine⟨u0::vs,x0::xs,by simp only[List.mapM_cons,C0,Sem.run_bind,Sem.run_pure,Result.andThen_ok,J,ha,r1'],by simp [h2],λi u c hu hc=> ?_,h4⟩
   match i with
   |0=>simp only[List.getElem?_cons_zero,Option.some.injEq]at hu hc;subst hu;subst hc;exact r2
   |i+1=>exact h3 i u c (by simpa using hu) (by simpa using hc)
theorem agD:∀(vs:aqP aqT)(xs:aqP AV),vs.length=xs.length->(∀(i:Nat)(u:aqT)(c:AV),vs[i]?=some u->xs[i]?=some c->aH G w u c)->aH G w (if h:vs.toArray.size=1 then vs.toArray[0]else .tuple vs.toArray) (kp xs)
 |[v],[x],_,h=>h 0 v x rfl rfl
 |[],[],_,_=> .bj _ _ rfl λi u c hu=>by simp at hu
 |v::u::vs,x::y::xs,hl,h=>by
  have:¬(v::u::vs).toArray.size=1:=by simp
  rw[dif_neg this];exact .bj _ _ (by simpa using hl) λi p q hp hq=>h i p q (by simpa using hp) hq
 |[],_::_,hl,_=>by simp at hl
 |_::_,[],hl,_=>by simp at hl
 |[_],_::_::_,hl,_=>by simp at hl
 |_::_::_,[_],hl,_=>by simp at hl
theorem alQ{fn:Func}{m:Nat}{K:AV->aqP aq->Prop}(hs:cY G w a s)(h:qS P fn m K s):∃v G' r h',(results fn a.tmps).run P w= .ok v w/\bV N0 G w G' w/\m<=G'.N/\bW G' w h'/\aH G' w v r/\K r h':=by
 obtain⟨g,hg⟩:∃g:ResultVar->Sem aqT,results fn a.tmps=(do let vs <-fn.results.mapM g;pure (if h:vs.size=1 then vs[0]else .tuple vs))/\(∀t,g (.tmp t)=pure (a.tmps.getD t undef))/\(∀p t,g (.cell p t)=(do loadVar t (<-asAddr (a.tmps.getD p undef)))):=
  ⟨_,rfl,λ_=>rfl,λ_ _=>rfl⟩
 obtain⟨vs,xs,J,h2,h3,h4,h5,h6,h7⟩:=apI hs g hg.2.1 hg.2.2 fn.results.toList h;have hr:(results fn a.tmps).run P w= .ok (if h:vs.toArray.size=1 then vs.toArray[0]else .tuple vs.toArray) w:=by
  rw[hg.1,Sem.run_bind,Array.mapM_eq_mapM_toList];have e:∀X:Sem (aqP aqT),(Functor.map List.toArray X:Sem _)=X>>=λl=>pure l.toArray:=λ_=>rfl;rw[e,Sem.run_bind,J];rfl
 have hv:=agD vs xs h2 h3;exact⟨_,G.cut m,_,_,hr,qN _ _ _ _,aqc _,RG hs.inv h4 h6,(hv.bx m).cut h5,h7⟩
theorem vV{f:FuncId}{fn:Func}{c:Code}{args:aqP AV}{h:aqP aq}{K:AV->aqP aq->Prop}(m:Nat)(hf:P.funcs[f]?=some fn)(hb:fn.body=some c)(hn:(fn.name== "runtime.NumGoroutine")=false)(hm:h.length<=m)
 (hw:bH P none h.length c (HU P fn m K) {n:=args.length+(fn.ntmps-args.length),t:=l5 0 args,h:=h}):cV P f args h K:=by
 refine⟨by unfold JT;rw[hf];simp [hb];simpa using hn,λG w vs hi hl hr=> ?_⟩;refine callsIn_wide (n:=8).1 (callsIn_of_wp_marks (F:=Fence.wide) hf hb trivial ?_);have hs:cY {G with M:=w.heap.size} w {tmps:=vs++Array.replicate (fn.ntmps-vs.size) undef,defers:=[]} {n:=args.length+(fn.ntmps-args.length),t:=l5 0 args,h:=h}:=by
  refine⟨by simp [hl],λi=> ?_,hi.zm G.Z _ (λ_ h=>h) (aqc _),sx.nil _ _⟩;show aH _ _ _ (bp (l5 0 args) i);rw[Qx];simp only[Nat.zero_le,if_true,Nat.sub_zero];cases hx:args[i]? with
  |none=>exact .dead _
  |some x=>
   have aN:i<vs.size:=by rw[hl];exact(ap1.1 hx).1
   have:(vs++Array.replicate (fn.ntmps-vs.size) undef).getD i undef=vs[i]:=by
    simp [Array.getElem?_append_left aN,aqn aN]
   simp only[this,Option.getD_some];exact(hr i _ x (aqn aN) hx).zm G.Z _
 refine wpIn_mono (hw.run _ w _ 8 hs (by rw[hi.len];exact aqc _)) λe a' w' hn=> ?_;obtain⟨G1,s1,hE,gF,ft,hq⟩:=hn;have key:qS P fn m K s1->LeavesInM Fence.wide 8 P fn a'.tmps (λe w'=>∃v G' r h',e= .returned v/\bV G.N G w G' w'/\G.N<=G'.N/\bW G' w' h'/\aH G' w' v r/\K r h') a'.defers .returning w':=λhq=>by
  obtain⟨w2,G2,k1,k2,k3,k4⟩:=alx hE gF hi.z hi.gl.2 ft;obtain⟨v,G',r,h',r1,r2,r3,r4,r5,r6⟩:=alQ (N0:=h.length) k4 hq;exact k1 _ _ _ _ _ ⟨v,r1,v,G',r,h',rfl,by rw[<-hi.len];exact k2.trans r2,by rw[<-hi.len];exact aqj hm r3,r4,r5,r6⟩
 cases e with
 |normal=>exact key hq
 |ret=>exact key hq
 |_=>exact hq.elim
end
end Go.Proofs.YtpeecnpmcbnahaaGreatDoor
namespace Go.Proofs.YtpeecnpmcbnahaaGreatDoor
open Go.RowKit
section
variable {P:aqS} {r:aqR Nat} {N0:Nat} {s:St} {Q:Exit->St->Prop}
end
theorem cV.frame{P:aqS}{f:FuncId}{args:aqP AV}{K:AV->Prop}(hc:cV P f args [] λr h=>h=[]/\K r)(ha:args.all (AV.aE 0)=true)(hK:∀r,K r->r.aE 0=true)(h:aqP aq):
 cV P f args h λr h'=>h'=h/\K r:=by
 refine⟨hc.1,λG w vs hi hl hr=> ?_⟩;have sA:bW {G with N:=0,Z:=λb=>b<w.heap.size} w []:=⟨rfl,λb hb=>hb,hi.S,λn B hB=>by simp at hB,λm n b J=>by simp [bU]at J,hi.gl⟩;refine(hc.2 {G with N:=0,Z:=λb=>b<w.heap.size} w vs sA hl λi u c hu hx=> ?_).mono λe w' hp=> ?_
 ·have:=(hr i u c hu hx).cut (aqr.1 ha c (aqe hx));clear hc;generalize hG:({G with N:=0,Z:=λb=>b<w.heap.size}:Gh)=G0;have e:∀{v y},aH (G.cut 0) w v y->aH G0 w v y:=by
   intro v y hv;subst hG
   induction hv with
   |agg vs cs hl _ ih=>exact .agg vs cs hl ih
   |bj vs cs hl _ ih=>exact .bj vs cs hl ih
   |fn f vs cs hl _ ih=>exact .fn f vs cs hl ih
   |own n xs h hp hle hf=>exact absurd h (aqt _)
   |ptr n off h=>exact absurd h (aqt _)
   |row n off len cap k h hl hm=>exact absurd h (aqt _)
   |mp n h=>exact absurd h (aqt _)
   |cr n h=>exact absurd h (aqt _)
   |vec n o len L k h=>exact absurd h (aqt _)
   |dB n i j L k h=>exact absurd h (aqt _)
   |hid h J=>exact .hid h J
   |d h=>exact .d h
   |bk xs i off b o u x hx hS hu=>exact .bk xs i off b o u x hx hS hu
   |full xs hp hf=>exact .full xs hp hf
   |dead u=>exact .dead u
  exact e this
 ·obtain⟨v,G',r,h',rfl,hE,hN,dY,hv,rfl,hk⟩:=hp;have apT:G'.N=0:=dY.len.symm;have fD:∀b o,G'.S b o->G.S b o\/w.heap.size<=b:=λb o hs=>(hE.new b o hs).imp id Nat.le_of_not_lt;have jG:bV G.N G w {G with S:=G'.S} w':=
   ⟨hE.size,hE.S,hE.cell,λ_ _=>rfl,λ_ _=> .inl ⟨rfl,rfl⟩,im rfl,λb hb=>hE.old b (hi.z b hb),hE.os,hE.tape,hE.output,λb o hs=>(fD b o hs).imp id λkf hz=>by have:=hi.z b hz;omega⟩
  refine⟨v,{G with S:=G'.S},r,h,rfl,jG,aqc _,⟨hi.len,λb hb=>aqp (hi.z b hb) hE.size,dY.S,λn B hB=> ?_,λm n b J h2=>hi.inj m n b J h2,hi.gl.keep jG⟩,?_,rfl,hk⟩
  ·refine eu.keep (hi.lt hB) jG (aqc _) ⟨rfl,rfl,rfl⟩ (λb hb=> ?_) (hi.dc n B hB);have aN:=hi.ib (n:=n) (b:=b) ((dJ hB).trans hb);refine⟨hE.old _ aN,λo jX hs=> ?_⟩;rcases fD _ o hs with hs|hs
   ·exact jX hs
   ·omega
  ·have hr:=hK r hk;clear hk jG
   induction hv with
   |agg vs cs hl _ ih=>
    rw[AV.aE,nv,aqr]at hr;exact .agg vs cs hl λi u c hu hc=>ih i u c hu hc (hr c (aqe hc))
   |bj vs cs hl _ ih=>
    rw[AV.aE,nv,aqr]at hr;exact .bj vs cs hl λi u c hu hc=>ih i u c hu hc (hr c (aqe hc))
   |fn f vs cs hl _ ih=>
    rw[AV.aE,nv,aqr]at hr;exact .fn f vs cs hl λi u c hu hc=>ih i u c hu hc (hr c (aqe hc))
   |own n xs h hp hle hf=>simp [AV.aE,ct]at hr
   |ptr n off h=>simp [AV.aE,ct]at hr
   |row n off len cap k h hl hm=>simp [AV.aE,ct]at hr
   |mp n h=>simp [AV.aE,ct]at hr
   |cr n h=>simp [AV.aE,ct]at hr
   |vec n o len L k h=>simp [AV.aE,ct]at hr
   |dB n i j L k h=>simp [AV.aE,ct]at hr
   |hid h J=>exact .hid h J
   |d h=>exact .d h
   |bk xs i off b o u x hx hS hu=>exact .bk xs i off b o u x hx hS hu
   |full xs hp hf=>exact .full xs hp hf
   |dead u=>exact .dead u
def gi(P:aqS)(f:FuncId)(args:aqP AV)(K:AV->Prop):Prop:=cV P f args [] λr h=>h=[]/\K r
theorem gi.use{P:aqS}{f:FuncId}{args:aqP AV}{r:AV}{h:aqP aq}{C:AV->aqP aq->Prop}(hc:gi P f args (·=r))(ha:args.all (AV.aE 0)=true)(hr:r.aE 0=true)(hC:C r h):cV P f args h C:=
 (hc.frame ha (λ_ e=>e▸hr) h).mono λ_ _ ⟨e1,e2⟩=>by subst e1;subst e2;exact hC
def akf:aqP FuncId:=[47,48,151]
def ajv:aqP FuncId:=[41,42,47,57,64,66,67,74,110,113,152,171]
def qm:Operand->Bool
 | .func g=>akf.any (·==g)
 |_=>false
def cx(o:Oper):Nat:=
 match o.op with
 | .move _| .assign _| .pick .. | .nilCheck _| .fieldAddr .. | .field .. | .indexAddr .. | .index .. | .build .. | .buildSlice .. | .slice .. | .extract .. | .makeFunc .. | .binOp .. | .unOp .. | .convert .. =>0
 | .load .. | .lookup .. =>1
 | .alloc _| .box .. =>2
 | .store .. | .makeMap .. | .mapUpdate .. =>3
 | .call c=>match c.callee with
   | .builtin .len| .builtin .max| .builtin .min=>0
   | .builtin .append=>5
   | .value f=>bif qm f then 6 else 4
   |_=>9
 |_=>9
def ZF(P:aqS)(g:FuncId)(args:aqP AV)(h:aqP aq)(C:AV->Prop):Prop:=∃r,C r/\∀e,cV P g args (h++e) λr' h'=>r'=r/\h'=h++e
def Cp(P:aqS)(o:Oper)(K:St->Prop)(s:St):Prop:=
 match o.op with
 | .call c=>match c.callee with
   | .value f=>match ev s f with
     | .fn g db=>ZF P g (c.args.toList.map (ev s)++db) s.h λr=>K (s.put o.dst r)
     | .hid q=>∃g as,q.app (c.args.toList.map (ev s))=some (g,as)/\ZF P g as s.h λr=>K (s.put o.dst r)
     |_=>False
   |_=>rz P o K s
 |_=>rz P o K s
def jO(o:Oper):Bool:=
 match o.op with
 | .indexAddr .. | .fieldAddr .. | .nilCheck .. | .load .. | .store .. =>true
 | .call c=>match c.callee with
   | .builtin .len=>true
   |_=>false
 |_=>false
def IB(o:Oper):Bool:=match o.op with
 | .call c=>match c.callee with
   | .value (.tmp _)=>true
   | .value (.func g)=>ajv.any (·==g)
   |_=>false
 |_=>false
def ub(o:Oper):Bool:=match o.op with
 | .call c=>match c.callee with
   | .builtin .append=>true
   |_=>false
 |_=>false
def nK(m:Bool)(o:Oper):Bool:=m&&(IB o||ub o)
def yt(m:Bool)(P:aqS)(o:Oper)(K:St->Prop)(s:St):Prop:=
 Cp P o K s\/(nK m o=true/\∃x J,K ((s.wh J).put o.dst x)/\∀C:AV->aqP aq->Prop,C x J->cQ P o (ev s) s.h C)\/((jO o=true/\(m&&cx o==0)=false\/(m&&ub o)=true)/\KY P o K s)\/(cx o=6/\∃x e0,K ((s.wh (s.h++e0)).put o.dst x)/\∀C:AV->aqP aq->Prop,C x (s.h++e0)->cQ P o (ev s) s.h C)
def jZ(P:aqS)(o:Oper)(ρ:Operand->AV)(h:aqP aq)(C:AV->aqP aq->Prop):Prop:=
 cQ P o ρ h C\/((jO o=true\/ub o=true)/\∃a x h' p,iF P o.op ρ h a=some (x,h',p)/\p/\C x h')
def uJ(m:Bool)(P:aqS)(ops:Array Oper):aqP Oper->(St->Prop)->St->Prop
 |[],K,s=>K s
 |o::rest,K,s=>jv ops o s (yt m P o (uJ m P ops rest K) s) (uJ m P ops rest K (s.put o.dst (.d (.v undef))))
abbrev VR(P:aqS)(o:Oper)(K:St->Prop)(s:St):Prop:=yt false P o K s
abbrev Da(P:aqS)(ops:Array Oper)(l:aqP Oper)(K:St->Prop)(s:St):Prop:=uJ false P ops l K s
section
variable {P:aqS} {o:Oper} {ρ ρ':Operand->AV} {h:aqP aq} {C:AV->aqP aq->Prop}
theorem Rf(x:aqR Operand)(hx:∀y∈x.toArray,ρ y=ρ' y)(d:Nat)(F:Nat->Prop):ky ρ x d F=ky ρ' x d F:=by
 cases x with
 |none=>rfl
 |some y=>simp only[ky,hx y (by simp)]
theorem aio(hρ:∀x∈o.op.operands,ρ x=ρ' x):cQ P o ρ h C=cQ P o ρ' h C:=by
 obtain⟨dst,op,type,pos,after,guard⟩:=o;have acM:∀ps:Array (Nat×Operand),(∀x∈ps.map (·.2),ρ x=ρ' x)->(ps.toList.map λp=>(p.1,ρ p.2))=(ps.toList.map λp=>(p.1,ρ' p.2)):=λps hp=>
  aqw λp hm=>by rw[hp p.2 (Array.mem_map.2 ⟨p,Array.mem_toList_iff.1 hm,rfl⟩)]
 have fM:∀l:Array Operand,(∀x∈l,ρ x=ρ' x)->l.toList.map ρ=l.toList.map ρ':=λl hl=>aqw λx hm=>hl x (Array.mem_toList_iff.1 hm);cases op with
 |build t ps=>simp only[cQ,acM ps λx hx=>hρ x (by simpa [Op.operands]using hx)]
 |buildSlice t n ps=>simp only[cQ,acM ps λx hx=>hρ x (by simpa [Op.operands]using hx)]
 |makeFunc fn first captured=>
  cases fn with
  |func f=>simp only[cQ,fM captured λx hx=>hρ x (by simp [Op.operands,hx]),fM first λx hx=>hρ x (by simp [Op.operands,hx])]
  |_=>rfl
 |slice t x lo hi mx=>
  have e1:ρ x=ρ' x:=hρ x (by simp [Op.operands]);have e2:=λd F=>Rf (ρ:=ρ) (ρ':=ρ') lo (λy hy=>hρ y (by simp at hy;simp [Op.operands,hy])) d F;have e3:=λd F=>Rf (ρ:=ρ) (ρ':=ρ') hi (λy hy=>hρ y (by simp at hy;simp [Op.operands,hy])) d F;have e4:=λd F=>Rf (ρ:=ρ) (ρ':=ρ') mx (λy hy=>hρ y (by simp at hy;simp [Op.operands,hy])) d F;cases lo<;>cases hi<;>cases mx<;>simp only[cQ,vf,e1,e2,e3,e4]
 |call c=>
  have ha:c.args.toList.map ρ=c.args.toList.map ρ':=fM c.args λx hx=>hρ x (by simp [Op.operands,Call.operands,hx]);have hm:∀x,x∈c.args.toList->ρ x=ρ' x:=λx hx=>hρ x (by simp [Op.operands,Call.operands];right;exact Array.mem_toList_iff.1 hx);cases hc:c.callee with
  |value f=>
   have hf:ρ f=ρ' f:=hρ f (by simp [Op.operands,Call.operands,hc]);simp only[cQ,hc,hf,ha]
  |invoke=>simp only[cQ,hc]
  |builtin b=>
   cases b with
   |len=>
    simp only[cQ,hc];split
    ·rename_i x _ heq _
     rw[hm x (by rw[heq];simp)]
    ·rfl
   |append=>
    simp only[cQ,hc];split
    ·rename_i x y _ _ heq _
     rw[hm x (by rw[heq];simp),hm y (by rw[heq];simp)]
    ·rfl
   |max=>simp only[cQ,hc,ha]
   |min=>simp only[cQ,hc,ha]
   |_=>simp only[cQ,hc]
 |makeMap t r=>cases r<;>rfl
 |lookup t a b ok=>simp only[cQ,qF,hρ a (by simp [Op.operands]),hρ b (by simp [Op.operands])]
 |mapUpdate t a b c=>simp only[cQ,qF,hρ a (by simp [Op.operands]),hρ b (by simp [Op.operands]),hρ c (by simp [Op.operands])]
 |pick c a b=>simp only[cQ,hρ c (by simp [Op.operands]),hρ a (by simp [Op.operands]),hρ b (by simp [Op.operands])]
 |store t a b=>simp only[cQ,hρ a (by simp [Op.operands]),hρ b (by simp [Op.operands])]
 |binOp op t a b u=>simp only[cQ,hρ a (by simp [Op.operands]),hρ b (by simp [Op.operands])]
 |indexAddr t a b=>simp only[cQ,hρ a (by simp [Op.operands]),hρ b (by simp [Op.operands])]
 |index t a b=>simp only[cQ,hρ a (by simp [Op.operands]),hρ b (by simp [Op.operands])]
 |move a|assign a|box t a|load t a|nilCheck a|fieldAddr t a f|field t a f|extract a i|unOp op t a|convert t u a=>simp only[cQ,hρ a (by simp [Op.operands])]
 |_=>rfl
theorem ake(hv:jO o=true\/ub o=true)(hρ:∀x∈o.op.operands,ρ x=ρ' x)(a:VA):iF P o.op ρ h a=iF P o.op ρ' h a:=by
 obtain⟨dst,op,type,pos,after,guard⟩:=o;cases op with
 |store t a b=>simp only[iF,hρ a (by simp [Op.operands]),hρ b (by simp [Op.operands])]
 |indexAddr t a b=>simp only[iF,hρ a (by simp [Op.operands]),hρ b (by simp [Op.operands])]
 |load t a|nilCheck a|fieldAddr t a f=>simp only[iF,hρ a (by simp [Op.operands])]
 |call c=>
  have hm:∀x,x∈c.args.toList->ρ x=ρ' x:=λx hx=>hρ x (by simp [Op.operands,Call.operands];right;exact Array.mem_toList_iff.1 hx);cases hc:c.callee with
  |builtin b=>
   cases b with
   |len=>
    simp only[iF,hc];split
    ·rename_i x _ heq _
     rw[hm x (by rw[heq];simp)]
    ·rfl
   |append=>
    simp only[iF,hc];split
    ·rename_i x y _ _ heq _
     rw[hm x (by rw[heq];simp),hm y (by rw[heq];simp)]
    ·rfl
   |_=>simp [jO,ub,hc]at hv
  |_=>simp [jO,ub,hc]at hv
 |_=>simp [jO,ub]at hv
theorem Rg(hρ:∀x∈o.op.operands,ρ x=ρ' x):jZ P o ρ h C=jZ P o ρ' h C:=by
 unfold jZ;rw[aio hρ];by_cases hv:jO o=true\/ub o=true
 ·simp only[ake hv hρ]
 ·simp only[hv,false_and]
end
def aoR:aq->Bool
 | .cells _| .map _| .vec .. =>true
 |_=>false
def om:aqR aq->aqR (Nat×Nat)
 |some (.vec _ k cs)=>some (k,cs.length)
 |_=>none
def jj(h h':aqP aq):Prop:=∀(m:Nat)(q:Nat×Nat),om h[m]?=some q->om h'[m]?=some q
def iT(h h':aqP aq):Prop:=∀m:Nat,om h[m]?=om h'[m]?
theorem iT.i{h h':aqP aq}(e:iT h h'):jj h h':=λm q hq=>by rw[<-e m];exact hq
theorem iT.j{h h':aqP aq}(e:iT h h'):jj h' h:=λm q hq=>by rw[e m];exact hq
theorem jj.refl(h:aqP aq):jj h h:=λ_ _ e=>e
theorem jj.trans{a b c:aqP aq}(x:jj a b)(y:jj b c):jj a c:=λm q e=>y m q (x m q e)
theorem jj.app(h e:aqP aq):jj h (h++e):=λm q hq=>by
 by_cases hl:m<h.length
 ·rw[aqb hl];exact hq
 ·rw[aqx (by omega)]at hq;cases hq
theorem iT.app{h:aqP aq}{B:aq}(hB:om (some B)=none):iT h (h++[B]):=λm=>by
 by_cases hl:m<h.length
 ·rw[aqb hl]
 ·rw[aqh (by omega),aqx (by omega:h.length<=m)];by_cases h0:m-h.length=0
  ·rw[h0];exact hB.symm
  ·rw[aqx (by simp;omega)]
theorem iT.set{h:aqP aq}{n:Nat}{B B':aq}(hn:h[n]?=some B)(hB:om (some B)=om (some B')):iT h (h.set n B'):=λm=>by
 by_cases e:n=m
 ·subst e;rw[aqu (ap1.1 hn).1,hn];exact hB
 ·rw[aqz e]
def jw(h h':aqP aq):Prop:=∀(n:Nat)(B:aq),h[n]?=some B->aoR B=true->h'[n]?=some B
theorem jw.app(h e:aqP aq):jw h (h++e):=λn cs hn _=>by
 rw[aqb (ap1.1 hn).1];exact hn
theorem jw.refl(h:aqP aq):jw h h:=λ_ _ hn _=>hn
theorem amC{P:aqS}{ρ:Operand->AV}{h J:aqP aq}{T:TypeId}{m i:Operand}{ok:Bool}{x:AV}{p:Sd}(hx:qF P (.lookup T m i ok) ρ h=some (x,J,p)):J=h/\∀h',jw h h'->qF P (.lookup T m i ok) ρ h'=some (x,h',p):=by
 simp only[qF]at hx ⊢;split at hx
 ·next k e hT=>
  split at hx
  ·next z hz=>
   split at hx
   ·next b s' hm hi=>
    split at hx
    ·next kv hn=>
     cases hc:iD P k with
     |false=>rw[hc]at hx;cases hx
     |true=>
      rw[hc]at hx;cases hx
      refine⟨rfl,λh' hh=> ?_⟩;rw[hh b _ hn rfl];simp only[cond_true]
    ·cases hx
   ·cases hx
  ·cases hx
 ·cases hx
theorem Xz{h:aqP aq}{n e k:Nat}{cs:aqP (aqP AV)}(hn:h[n]?=some (.vec e k cs)):om h[n]?=some (k,cs.length):=by rw[hn];rfl
theorem Zt{h:aqP aq}{n k l:Nat}(hq:om h[n]?=some (k,l)):∃e cs,h[n]?=some (.vec e k cs)/\cs.length=l:=by
 unfold om at hq;split at hq
 ·next e k' cs e1=>cases hq;exact⟨e,cs,e1,rfl⟩
 ·cases hq
theorem ann{P:aqS}{o:Oper}{ρ:Operand->AV}{h J:aqP aq}{a:VA}{x:AV}{p:Prop}(hv:jO o=true)(hk:cx o=0)(hx:iF P o.op ρ h a=some (x,J,p))(hp:p):J=h/\∀h',jj h h'->∃p',iF P o.op ρ h' a=some (x,h',p')/\p':=by
 obtain⟨dst,op,type,pos,after,guard⟩:=o;cases op with
 |indexAddr T y i=>
  simp only[iF]at hx ⊢;split at hx
  ·next n o len L k z e k' i' e1 e2 e3=>
   split at hx
   ·next e4 k2 cs hn=>
    obtain⟨hb,he⟩:=mB hx;cases he
    rw[ap3,beq_iff_eq,beq_iff_eq]at hb;obtain⟨rfl,rfl⟩:=hb;refine⟨rfl,λh' hh=> ?_⟩;obtain⟨e5,cs5,q1,q2⟩:=Zt (hh n _ (Xz hn));simp only[q1,aqK,Bool.and_self,cond_true];exact⟨_,rfl,by rw[q2];exact hp.1,hp.2⟩
   ·cases hx
  ·cases hx
 |fieldAddr T y f=>
  simp only[iF]at hx ⊢;split at hx
  ·next e1 e2=>cases hx;exact⟨rfl,λh' _=>⟨_,rfl,trivial⟩⟩
  ·cases hx
 |nilCheck y=>
  simp only[iF]at hx ⊢;split at hx
  ·next e1=>cases hx;exact⟨rfl,λh' _=>⟨_,rfl,trivial⟩⟩
  ·cases hx
 |call c=>
  cases hc:c.callee with
  |builtin b=>
   cases b with
   |len=>
    simp only[iF,hc]at hx ⊢;split at hx
    ·split at hx
     ·next n o len L k e1=>
      split at hx
      ·next e2 k2 cs hn=>
       obtain⟨hb,he⟩:=mB hx;cases he
       rw[ap3,beq_iff_eq]at hb;obtain⟨iS,rfl⟩:=hb;refine⟨rfl,λh' hh=> ?_⟩;obtain⟨e5,cs5,q1,q2⟩:=Zt (hh n _ (Xz hn));simp only[q1,iS,aqK,Bool.and_self,cond_true];exact⟨_,rfl,by rw[q2];exact hp⟩
      ·cases hx
     ·cases hx
    ·cases hx
   |_=>simp [jO,hc]at hv
  |_=>simp [jO,hc]at hv
 |load t y=>simp [cx]at hk
 |store t y z=>simp [cx]at hk
 |_=>simp [jO]at hv
theorem anx{P:aqS}{o:Oper}{ρ:Operand->AV}{h J:aqP aq}{a:VA}{x:AV}{p:Prop}(hv:jO o=true)(hk:cx o=1)(hx:iF P o.op ρ h a=some (x,J,p))(hp:p):J=h/\∀h',jw h h'->∃p',iF P o.op ρ h' a=some (x,h',p')/\p':=by
 obtain⟨dst,op,type,pos,after,guard⟩:=o;cases op with
 |load t y=>
  simp only[iF]at hx ⊢;split at hx
  ·next n i j L k c e1=>
   split at hx
   ·next e2 k' cs z hn hz=>
    obtain⟨hb,he⟩:=mB hx;cases he
    refine⟨rfl,λh' hh=> ?_⟩;simp only[hh n _ hn rfl,hz,hb,cond_true];exact⟨_,rfl,hp⟩
   ·cases hx
  ·cases hx
 |indexAddr T y i=>simp [cx]at hk
 |fieldAddr T y f=>simp [cx]at hk
 |nilCheck y=>simp [cx]at hk
 |call c=>
  cases hc:c.callee with
  |builtin b=>cases b<;>simp [cx,hc]at hk
  |value f=>cases my:qm f<;>simp [cx,hc,my]at hk
  |invoke=>simp [cx,hc]at hk
 |store t y z=>simp [cx]at hk
 |_=>simp [jO]at hv
theorem amf{P:aqS}{o:Oper}{ρ:Operand->AV}{h J:aqP aq}{a:VA}{x:AV}{p:Prop}(hv:jO o=true)(hk:cx o=3)(hx:iF P o.op ρ h a=some (x,J,p))(hp:p):iT h J:=by
 obtain⟨dst,op,type,pos,after,guard⟩:=o;cases op with
 |store t y z=>
  simp only[iF]at hx;split at hx
  ·next n i j L k c cC e1=>
   split at hx
   ·next e k' cs q hn hz=>
    obtain⟨hb,he⟩:=mB hx;cases he
    simp only[ap3,beq_iff_eq]at hb;refine iT.set hn ?_;simp only[om,List.length_set,hp.2.2,hb.1.1.1.1]
   ·cases hx
  ·cases hx
 |load t y=>simp [cx]at hk
 |indexAddr T y i=>simp [cx]at hk
 |fieldAddr T y f=>simp [cx]at hk
 |nilCheck y=>simp [cx]at hk
 |call c=>
  cases hc:c.callee with
  |builtin b=>cases b<;>simp [cx,hc]at hk
  |value f=>cases my:qm f<;>simp [cx,hc,my]at hk
  |invoke=>simp [cx,hc]at hk
 |_=>simp [jO]at hv
def j8(m:Bool)(o:Oper):Nat:=bif nK m o then 7 else cx o
def eG(m:Bool)(P:aqS)(o:Oper)(ρ:Operand->AV)(h:aqP aq)(x:AV)(J:aqP aq):Prop:=
 match j8 m o with
 |0=>J=h/\∀h',(m=true\/jj h h')->∀C:AV->aqP aq->Prop,C x h'->jZ P o ρ h' C
 |1=>J=h/\∀h',jw h h'->∀C:AV->aqP aq->Prop,C x h'->jZ P o ρ h' C
 |2=>∃B,om (some B)=none/\x= .ptr h.length 0/\J=h++[B]/\∀h'(C:AV->aqP aq->Prop),C (.ptr h'.length 0) (h'++[B])->jZ P o ρ h' C
 |3=>iT h J/\∀C:AV->aqP aq->Prop,C x J->jZ P o ρ h C
 |4=>J=h/\∀e(C:AV->aqP aq->Prop),C x (h++e)->jZ P o ρ (h++e) C
 |5=>(jw h J/\jw J h/\iT h J)/\∀C:AV->aqP aq->Prop,C x J->jZ P o ρ h C
 |6=>∃e0,J=h++e0/\∀C:AV->aqP aq->Prop,C x J->jZ P o ρ h C
 |7=>∀C:AV->aqP aq->Prop,C x J->jZ P o ρ h C
 |_=>False
section
variable {P:aqS} {o:Oper} {ρ ρ':Operand->AV} {h:aqP aq} {C:AV->aqP aq->Prop}
theorem agK{p:AV}{K:aqP AV->Nat->Prop}(hp:tG h p K):∃cs off,K cs off/\∀h',jw h h'->∀K':aqP AV->Nat->Prop,K' cs off->tG h' p K':=by
 unfold tG at hp ⊢;split at hp
 ·rename_i n off
  split at hp
  ·rename_i cs gX
   refine⟨cs,off,hp,λh' hh K' hk=> ?_⟩;rw[hh n _ gX rfl];exact hk
  ·exact hp.elim
 ·rename_i xs i off
  split at hp
  ·rename_i cs gX
   refine⟨_,off,hp,λh' _ K' hk=> ?_⟩;exact hk
  ·exact hp.elim
 ·exact hp.elim
theorem ag4{t:Nat}{p:AV}{K:AV->Prop}(hp:oO P t h p K):∃x,K x/\∀h',jw h h'->∀K':AV->Prop,K' x->oO P t h' p K':=by
 unfold oO at hp ⊢;obtain⟨cs,off,J,h2⟩:=agK hp;split at J
 ·rw[bX]at J;refine⟨_,J.2,λh' hh K' hJ=>h2 h' hh _ ?_⟩;exact bX.2 ⟨J.1,hJ⟩
 ·split at J
  ·rename_i c hc
   refine⟨c,J,λh' hh K' hJ=>h2 h' hh _ ?_⟩;simp only[hc];exact hJ
  ·exact J.elim
 ·exact J.elim
theorem vq{x:aqR Operand}{d:Nat}{F:Nat->Prop}(hx:ky ρ x d F):∃m,F m/\∀F':Nat->Prop,F' m->ky ρ x d F':=by
 cases x with
 |none=>exact⟨d,hx,λ_ h=>h⟩
 |some y=>
  simp only[ky]at hx;split at hx
  ·rename_i z hz
   exact⟨_,hx.2,λF' hF=>by simp only[ky,hz];exact⟨hx.1,hF⟩⟩
  ·exact hx.elim
theorem ae6(hk:cx o=0)(hc:cQ P o ρ h C):∃x,C x h/\∀h'(C':AV->aqP aq->Prop),C' x h'->cQ P o ρ h' C':=by
 have uc:∀(F:(AV->Prop)->Prop),(∀K,F K->∃x,K x/\∀K',K' x->F K')->F (λx=>C x h)->(∀h' C',cQ P o ρ h' C'=F (λx=>C' x h'))->∃x,C x h/\∀h'(C':AV->aqP aq->Prop),C' x h'->cQ P o ρ h' C':=λF hF h0 he=>by
  obtain⟨x,J,h2⟩:=hF _ h0;exact⟨x,J,λh' C' dD=>by rw[he];exact h2 _ dD⟩
 obtain⟨dst,op,type,pos,after,guard⟩:=o;cases op with
 |move a=>exact⟨ρ a,hc,λ_ _ h=>h⟩
 |assign a=>exact⟨ρ a,hc,λ_ _ h=>h⟩
 |pick c a b=>
  simp only[cQ]at hc;split at hc
  ·rename_i t ht
   cases t with
   |true=>exact⟨ρ a,hc.1 rfl,λh' C' dD=>by simp only[cQ,ht];exact⟨λ_=>dD,λe=>by cases e⟩⟩
   |false=>exact⟨ρ b,hc.2 rfl,λh' C' dD=>by simp only[cQ,ht];exact⟨λe=>(by cases e),λ_=>dD⟩⟩
  ·exact hc.elim
 |nilCheck a=>
  simp only[cQ]at hc;split at hc
  ·rename_i m off e;exact⟨_,hc,λh' C' dD=>by simp only[cQ,e];exact dD⟩
  ·rename_i xs i off e;exact⟨_,hc,λh' C' dD=>by simp only[cQ,e];exact dD⟩
  ·rename_i f cs e;exact⟨_,hc,λh' C' dD=>by simp only[cQ,e];exact dD⟩
  ·exact hc.elim
 |fieldAddr t a f=>
  simp only[cQ]at hc;split at hc
  ·rename_i fo k g hf
   split at hc
   ·rename_i m off e;exact⟨_,hc,λh' C' dD=>by simp only[cQ,hf,e];exact dD⟩
   ·rename_i xs i off e;exact⟨_,hc,λh' C' dD=>by simp only[cQ,hf,e];exact dD⟩
   ·exact hc.elim
  ·exact hc.elim
 |field t a f=>
  refine uc (yK P t (ρ a) f) (λK hK=> ?_) hc (λ_ _=>rfl);unfold yK at hK ⊢;split at hK
  ·rw[bX]at hK;exact⟨_,hK.2,λK' eQ=>bX.2 ⟨hK.1,eQ⟩⟩
  ·split at hK
   ·rename_i c gg;exact⟨c,hK,λK' eQ=>eQ⟩
   ·exact hK.elim
  ·exact hK.elim
 |indexAddr t a b=>
  refine uc (ua P t (ρ a) (ρ b)) (λK hK=> ?_) hc (λ_ _=>rfl);unfold ua at hK ⊢;split at hK
  ·rename_i e k hT
   split at hK
   ·rename_i n off len cap k'
    split at hK
    ·rename_i z hz
     rw[bX]at hK;obtain⟨J,h2,h3,h4⟩:=hK;exact⟨_,h4,λK' eQ=>bX.2 ⟨J,h2,h3,eQ⟩⟩
    ·exact hK.elim
   ·split at hK
    ·rename_i xs z mr hz
     obtain⟨h0,hK⟩:=hK;split at hK
     ·rename_i c gg
      exact⟨_,hK.2,λK' eQ=>⟨h0,hK.1,eQ⟩⟩
     ·exact hK.elim
    ·exact hK.elim
  ·split at hK
   ·rename_i n e k b' off z hT hz
    obtain⟨J,h2,h3⟩:=hK;exact⟨_,h3,λK' eQ=>⟨J,h2,eQ⟩⟩
   ·rename_i n e k xs i' off z hT hz
    rw[bX]at hK;obtain⟨h0,J,h2,h3⟩:=hK;split at h3
    ·rename_i c gg
     split at h3
     ·rename_i d hd
      exact⟨_,h3,λK' eQ=>bX.2 ⟨h0,J,h2,eQ⟩⟩
     ·exact h3.elim
    ·exact h3.elim
   ·exact hK.elim
 |index t a b=>
  simp only[cQ]at hc;split at hc
  ·rename_i bb z e1 e2
   rw[bX]at hc;obtain⟨J,h2,h3⟩:=hc;split at h3
   ·rename_i c gg
    exact⟨_,h3,λh' C' dD=>by simp only[cQ,e1,e2];exact bX.2 ⟨J,h2,by simp only[gg];exact dD⟩⟩
   ·exact h3.elim
  ·exact hc.elim
 |build t ps=>
  refine uc (yU P t (ps.toList.map λp:Nat×Operand=>(p.1,ρ p.2))) (λK hK=> ?_) hc (λ_ _=>rfl);unfold yU at hK ⊢;split at hK
  ·split at hK
   ·rename_i cs gX
    rw[bX]at hK;exact⟨_,hK.2,λK' eQ=>bX.2 ⟨hK.1,eQ⟩⟩
   ·exact hK.elim
  ·exact hK.elim
 |buildSlice t n ps=>
  refine uc (xc P t n (ps.toList.map λp:Nat×Operand=>(p.1,ρ p.2))) (λK hK=> ?_) hc (λ_ _=>rfl);unfold xc at hK ⊢;split at hK
  ·split at hK
   ·split at hK
    ·rename_i cs gX
     split at hK
     ·rename_i ds sq
      rw[bX]at hK;exact⟨_,hK.2,λK' eQ=>bX.2 ⟨hK.1,eQ⟩⟩
     ·exact hK.elim
    ·exact hK.elim
   ·exact hK.elim
  ·exact hK.elim
 |slice t a lo hi mx=>
  refine uc (vf P t ρ (ρ a) lo hi mx) (λK hK=> ?_) hc (λ_ _=>rfl);unfold vf at hK ⊢;split at hK
  ·split at hK
   ·rw[bX]at hK;obtain⟨h0,hK⟩:=hK;obtain⟨m1,hK,j1⟩:=vq hK;obtain⟨J,hK⟩:=hK;obtain⟨m2,hK,j2⟩:=vq hK;obtain⟨h2,hK⟩:=hK;exact⟨_,hK,λK' eQ=>bX.2 ⟨h0,j1 _ ⟨J,j2 _ ⟨h2,eQ⟩⟩⟩⟩
   ·split at hK
    ·rw[bX]at hK;obtain⟨h0,hK⟩:=hK;obtain⟨m1,hK,j1⟩:=vq hK;rw[bX]at hK;obtain⟨J,hK⟩:=hK;obtain⟨m2,hK,j2⟩:=vq hK;rw[bX]at hK;obtain⟨h2,hK⟩:=hK;exact⟨_,hK,λK' eQ=>by rw[bX];exact⟨h0,j1 _ (by rw[bX];exact⟨J,j2 _ (by rw[bX];exact⟨h2,eQ⟩)⟩)⟩⟩
    ·exact hK.elim
   ·split at hK
    ·obtain⟨h0,hK⟩:=hK;obtain⟨m1,hK,j1⟩:=vq hK;obtain⟨J,hK⟩:=hK;obtain⟨m2,hK,j2⟩:=vq hK;obtain⟨h2,hK⟩:=hK;exact⟨_,hK,λK' eQ=>⟨h0,j1 _ ⟨J,j2 _ ⟨h2,eQ⟩⟩⟩⟩
    ·exact hK.elim
  ·split at hK
   ·split at hK
    ·obtain⟨h0,hK⟩:=hK;obtain⟨m1,hK,j1⟩:=vq hK;obtain⟨J,hK⟩:=hK;obtain⟨m2,hK,j2⟩:=vq hK;obtain⟨h2,hK⟩:=hK;exact⟨_,hK,λK' eQ=>⟨h0,j1 _ ⟨J,j2 _ ⟨h2,eQ⟩⟩⟩⟩
    ·exact hK.elim
   ·exact hK.elim
 |extract a i=>
  simp only[cQ]at hc;split at hc
  ·rename_i cs e
   split at hc
   ·rename_i c gg;exact⟨c,hc,λh' C' dD=>by simp only[cQ,e,gg];exact dD⟩
   ·exact hc.elim
  ·exact hc.elim
 |makeFunc fn first db=>
  cases fn with
  |func f=>
   simp only[cQ]at hc;split at hc
   ·rename_i e;exact⟨_,hc,λh' C' dD=>by simp only[cQ,e];exact dD⟩
   ·exact hc.elim
  |_=>exact hc.elim
 |binOp op t a b u=>
  refine uc (xI P t op (ρ a) (ρ b)) (λK hK=> ?_) hc (λ_ _=>rfl);unfold xI at hK ⊢;split at hK
  ·split at hK
   ·rw[bX]at hK;exact⟨_,hK.2.2,λK' eQ=>bX.2 ⟨hK.1,hK.2.1,eQ⟩⟩
   ·split at hK
    ·exact⟨_,hK.2,λK' eQ=>⟨hK.1,eQ⟩⟩
    ·split at hK
     ·rw[bX]at hK;exact⟨_,hK.2,λK' eQ=>bX.2 ⟨hK.1,eQ⟩⟩
     ·exact hK.elim
  ·split at hK
   ·exact⟨_,hK,λK' eQ=>eQ⟩
   ·split at hK
    ·exact⟨_,hK.2,λK' eQ=>⟨hK.1,eQ⟩⟩
    ·exact hK.elim
  ·split at hK
   ·rw[bX]at hK;exact⟨_,hK.2,λK' eQ=>bX.2 ⟨hK.1,eQ⟩⟩
   ·exact hK.elim
  ·split at hK
   ·split at hK
    ·exact⟨_,hK,λK' eQ=>eQ⟩
    ·exact hK.elim
   ·exact hK.elim
  ·exact hK.elim
 |unOp op t a=>
  refine uc (xB op (ρ a)) (λK hK=> ?_) hc (λ_ _=>rfl);unfold xB at hK ⊢;split at hK
  ·split at hK
   ·exact⟨_,hK,λK' eQ=>eQ⟩
   ·exact hK.elim
  ·exact hK.elim
 |convert t u a=>
  refine uc (xq P t u (ρ a)) (λK hK=> ?_) hc (λ_ _=>rfl);unfold xq at hK ⊢;split at hK
  ·split at hK
   ·exact⟨_,hK,λK' eQ=>eQ⟩
   ·exact hK.elim
  ·rw[bX]at hK;exact⟨_,hK.2,λK' eQ=>bX.2 ⟨hK.1,eQ⟩⟩
  ·split at hK
   ·rw[bX]at hK;obtain⟨J,ns,h2,h3⟩:=hK;exact⟨_,h3,λK' eQ=>bX.2 ⟨J,ns,h2,eQ⟩⟩
   ·exact hK.elim
 |call c=>
  simp only[cx]at hk;cases fB:c.callee with
  |value f=>cases my:qm f<;>simp [fB,my]at hk
  |invoke=>simp [fB]at hk
  |builtin b=>
   cases b with
   |len=>
    simp only[cQ,fB]at hc;split at hc
    ·rename_i x T e1 e2
     have key:∀F:Nat->Prop,sZ P T (ρ x) F->∃m,F m/\∀F':Nat->Prop,F' m->sZ P T (ρ x) F':=λF hF=>by
      unfold sZ at hF ⊢;split at hF
      ·rw[bX]at hF;exact⟨_,hF.2,λF' lO=>bX.2 ⟨hF.1,lO⟩⟩
      ·rw[bX]at hF;exact⟨_,hF.2,λF' lO=>bX.2 ⟨hF.1,lO⟩⟩
      ·split at hF
       ·rw[bX]at hF;exact⟨_,hF.2,λF' lO=>bX.2 ⟨hF.1,lO⟩⟩
       ·exact hF.elim
     obtain⟨m,J,h2⟩:=key _ hc;exact⟨_,J,λh' C' dD=>by simp only[cQ,fB,e1,e2];exact h2 _ dD⟩
    ·exact hc.elim
   |max=>
    simp only[cQ,fB]at hc;split at hc
    ·rename_i e1
     exact⟨_,hc,λh' C' dD=>by simp only[cQ,fB,e1];exact dD⟩
    ·exact hc.elim
   |min=>
    simp only[cQ,fB]at hc;split at hc
    ·rename_i e1
     exact⟨_,hc,λh' C' dD=>by simp only[cQ,fB,e1];exact dD⟩
    ·exact hc.elim
   |_=>simp [fB]at hk
 |_=>simp [cx]at hk
theorem afz(hk:cx o=2)(hc:cQ P o ρ h C):∃B,om (some B)=none/\C (.ptr h.length 0) (h++[B])/\∀h'(C':AV->aqP aq->Prop),C' (.ptr h'.length 0) (h'++[B])->cQ P o ρ h' C':=by
 obtain⟨dst,op,type,pos,after,guard⟩:=o;cases op with
 |alloc e=>
  simp only[cQ]at hc;split at hc
  ·rename_i z hz;exact⟨_,rfl,hc,λh' C' dD=>by simp only[cQ,hz];exact dD⟩
  ·exact hc.elim
 |box e x=>
  simp only[cQ]at hc;rw[bX]at hc;exact⟨_,rfl,hc.2,λh' C' dD=>by simp only[cQ];rw[bX];exact⟨hc.1,dD⟩⟩
 |call c=>
  simp only[cx]at hk;cases fB:c.callee with
  |value f=>cases my:qm f<;>simp [fB,my]at hk
  |invoke=>simp [fB]at hk
  |builtin b=>cases b<;>simp [fB]at hk
 |_=>simp [cx]at hk
theorem anO(hk:cx o=3)(hc:cQ P o ρ h C):∃x J,C x J/\iT h J/\∀C':AV->aqP aq->Prop,C' x J->cQ P o ρ h C':=by
 obtain⟨dst,op,type,pos,after,guard⟩:=o;cases op with
 |store t a b=>
  simp only[cQ]at hc;have key:∀F:aqP aq->Prop,xP P t h (ρ a) (ρ b) F->∃J,F J/\iT h J/\∀F':aqP aq->Prop,F' J->xP P t h (ρ a) (ρ b) F':=λF hF=>by
   unfold xP at hF ⊢;split at hF
   ·split at hF
    ·next hn=>
     split at hF
     ·rw[bX]at hF;exact⟨_,hF.2,iT.set hn rfl,λF' lO=>bX.2 ⟨hF.1,lO⟩⟩
     ·exact hF.elim
    ·exact hF.elim
   ·exact hF.elim
  obtain⟨J,k1,kv,k2⟩:=key _ hc;exact⟨_,J,k1,kv,λC' dD=>by simp only[cQ];exact k2 _ dD⟩
 |makeMap t r=>
  simp only[cQ]at hc;split at hc
  ·rename_i x h' p hx
   refine⟨x,h',hc.2,?_,λC' dD=>by simp only[cQ,hx];exact⟨hc.1,dD⟩⟩;unfold qF at hx;cases r with
   |none=>
    simp only at hx;split at hx
    ·cases hx;exact iT.app rfl
    ·cases hx
   |some r=>cases hx
  ·exact hc.elim
 |mapUpdate t a b c=>
  simp only[cQ]at hc;split at hc
  ·rename_i x h' p hx
   refine⟨x,h',hc.2,?_,λC' dD=>by simp only[cQ,hx];exact⟨hc.1,dD⟩⟩;unfold qF at hx;simp only at hx;split at hx
   ·split at hx
    ·split at hx
     ·next hn=>
      obtain⟨hb,he⟩:=mB hx;cases he
      exact iT.set hn rfl
     ·cases hx
    ·cases hx
   ·cases hx
  ·exact hc.elim
 |call c=>
  simp only[cx]at hk;cases fB:c.callee with
  |value f=>cases my:qm f<;>simp [fB,my]at hk
  |invoke=>simp [fB]at hk
  |builtin b=>cases b<;>simp [fB]at hk
 |_=>simp [cx]at hk
theorem adh{n:Nat}{e:TypeId}{k l e' k' l':Nat}(hn:h[n]?=some (.front e' k' l')):jw h (h.set n (.front e k l))/\jw (h.set n (.front e k l)) h:=by
 refine⟨λm cs hm hc=> ?_,λm cs hm hc=> ?_⟩
 ·have:n≠m:=λe=>by subst e;rw[hn]at hm;cases hm;cases hc
  rw[aqz this];exact hm
 ·by_cases e:n=m
  ·subst e;rw[aqu (ap1.1 hn).1]at hm;cases hm;cases hc
  ·rw[aqz e]at hm;exact hm
theorem KV{e:TypeId}{k l:Nat}:jw h (h++[.front e k l])/\jw (h++[.front e k l]) h:=by
 refine⟨jw.app _ _,λm cs hm hc=> ?_⟩;by_cases hl:m<h.length
 ·rw[aqb hl]at hm;exact hm
 ·rw[aqh (by omega)]at hm;by_cases h0:m-h.length=0
  ·rw[h0]at hm;cases hm;cases hc
  ·rw[aqx (by simp;omega)]at hm;cases hm
theorem akT(hk:cx o=5)(hc:cQ P o ρ h C):∃x J,C x J/\(jw h J/\jw J h/\iT h J)/\∀C':AV->aqP aq->Prop,C' x J->cQ P o ρ h C':=by
 obtain⟨dst,op,type,pos,after,guard⟩:=o;cases op with
 |call c=>
  simp only[cx]at hk;cases fB:c.callee with
  |value f=>cases my:qm f<;>simp [fB,my]at hk
  |invoke=>simp [fB]at hk
  |builtin b=>
   cases b with
   |append=>
    simp only[cQ,fB]at hc;split at hc
    ·rename_i x y T U e1 e2
     rw[bX]at hc;have aes:∀(k:Nat)(y:AV)(F:aqP (aqP D)->Prop),uy h k y F->∃ys,F ys/\∀F':aqP (aqP D)->Prop,F' ys->uy h k y F':=λk y F hF=>by
       unfold uy at hF ⊢;split at hF
       ·split at hF
        ·split at hF
         ·rw[bX]at hF;exact⟨_,hF.2,λF' lO=>bX.2 ⟨hF.1,lO⟩⟩
         ·exact hF.elim
        ·exact hF.elim
       ·split at hF
        ·exact⟨_,hF.2,λF' lO=>⟨hF.1,lO⟩⟩
        ·exact hF.elim
     have key:∀F:AV->aqP aq->Prop,ue P T h (ρ x) (ρ y) F->∃v J,F v J/\(jw h J/\jw J h/\iT h J)/\∀F':AV->aqP aq->Prop,F' v J->ue P T h (ρ x) (ρ y) F':=λF hF=>by
      unfold ue at hF ⊢;split at hF
      ·split at hF
       ·rw[bX]at hF;obtain⟨h0,hF⟩:=hF;obtain⟨ys,hF,hs⟩:=aes _ _ _ hF;split at hF
        ·split at hF
         ·rename_i hn
          rw[bX]at hF;obtain⟨g1,g2,g3,g4,g5,g6⟩:=hF;exact⟨_,_,g6,⟨(adh hn).1,(adh hn).2,iT.set hn rfl⟩,λF' lO=>bX.2 ⟨h0,hs _ (bX.2 ⟨g1,g2,g3,g4,g5,lO⟩)⟩⟩
         ·exact hF.elim
        ·obtain⟨g4,g5,g6⟩:=hF;exact⟨_,_,g6,⟨KV.1,KV.2,iT.app rfl⟩,λF' lO=>bX.2 ⟨h0,hs _ ⟨g4,g5,lO⟩⟩⟩
        ·obtain⟨g3,g4,g5,g6⟩:=hF;exact⟨_,_,g6,⟨KV.1,KV.2,iT.app rfl⟩,λF' lO=>bX.2 ⟨h0,hs _ ⟨g3,g4,g5,lO⟩⟩⟩
        ·exact hF.elim
       ·exact hF.elim
      ·exact hF.elim
     obtain⟨v,J,k1,c1,k2⟩:=key _ hc.2;exact⟨v,J,k1,c1,λC' dD=>by simp only[cQ,fB,e1,e2];rw[bX];exact⟨hc.1,k2 _ dD⟩⟩
    ·exact hc.elim
   |_=>simp [fB]at hk
 |_=>simp [cx]at hk
theorem acH{m:Bool}(kF:nK m o=false){s:St}{K:St->Prop}(hd:Cp P o K s):∃x J,eG m P o (ev s) s.h x J/\K ((s.wh J).put o.dst x):=by
 have km:j8 m o=cx o:=by unfold j8;rw[kF];rfl
 have plain:rz P o K s->cx o≠4->cx o≠6->∃x J,eG m P o (ev s) s.h x J/\K ((s.wh J).put o.dst x):=λha WJ EW=>by
  unfold rz at ha;by_cases h0:cx o=0
  ·obtain⟨x,J,h2⟩:=ae6 h0 ha;exact⟨x,s.h,by unfold eG;rw[km,h0];exact⟨rfl,λh' _ C' dD=> .inl (h2 h' C' dD)⟩,J⟩
  ·by_cases J:cx o=1
   ·obtain⟨dst,op,type,pos,after,guard⟩:=o;cases op with
    |load t a=>
     simp only[cQ]at ha;obtain⟨x,k1,k2⟩:=ag4 ha;exact⟨x,s.h,by unfold eG;rw[km,J];exact⟨rfl,λh' hh C' dD=> .inl (by simp only[cQ];exact k2 h' hh _ dD)⟩,k1⟩
    |lookup t a b ok=>
     simp only[cQ]at ha;split at ha
     ·rename_i x h' p hx
      obtain⟨rfl,k2⟩:=amC hx;exact⟨x,s.h,by unfold eG;rw[km,J];exact⟨rfl,λh' hh C' dD=> .inl (by simp only[cQ,k2 h' hh];exact⟨ha.1,dD⟩)⟩,ha.2⟩
     ·exact ha.elim
    |call c=>
     simp only[cx]at J;cases fB:c.callee with
     |value f=>cases my:qm f<;>simp [fB,my]at J
     |invoke=>simp [fB]at J
     |builtin b=>cases b<;>simp [fB]at J
    |_=>simp [cx]at J
   ·by_cases h2:cx o=2
    ·obtain⟨B,kB,k1,k2⟩:=afz h2 ha;exact⟨_,_,by unfold eG;rw[km,h2];exact⟨B,kB,rfl,rfl,λh' C' dD=> .inl (k2 h' C' dD)⟩,k1⟩
    ·by_cases h3:cx o=3
     ·obtain⟨x,mM,k1,kv,k2⟩:=anO h3 ha;exact⟨x,mM,by unfold eG;rw[km,h3];exact⟨kv,λC' dD=> .inl (k2 C' dD)⟩,k1⟩
     ·by_cases h5:cx o=5
      ·obtain⟨x,mM,k1,c1,k2⟩:=akT h5 ha;exact⟨x,mM,by unfold eG;rw[km,h5];exact⟨c1,λC' dD=> .inl (k2 C' dD)⟩,k1⟩
      exfalso;obtain⟨dst,op,type,pos,after,guard⟩:=o;cases op with
      |call c=>
       simp only[cx]at h0 h3 WJ EW h5;simp only[cQ]at ha;cases fB:c.callee with
       |value f=>cases my:qm f<;>simp [fB,my]at WJ EW
       |invoke=>simp only[fB]at ha
       |builtin b=>cases b<;>simp only[fB]at ha h0 h3 h5<;>first|exact ha|exact absurd rfl h0|exact absurd rfl h3|exact absurd rfl h5|exact h3 trivial|exact h0 trivial|exact h5 trivial
      |_=>first|exact absurd rfl h0|exact absurd rfl J|exact absurd rfl h2|exact absurd rfl h3|exact ha
 unfold Cp at hd;split at hd
 ·rename_i c ia
  split at hd
  ·rename_i f fB
   have fin:∀x:AV,(∀e,∀C':AV->aqP aq->Prop,C' x (s.h++e)->cQ P o (ev s) (s.h++e) C')->eG m P o (ev s) s.h x s.h:=λx hx=>by
    have hk:cx o=4\/cx o=6:=by
     unfold cx;simp only[ia,fB];cases qm f<;>simp
    unfold eG;rw[km];rcases hk with hk|hk
    ·rw[hk];exact⟨rfl,λe C' dD=> .inl (hx e C' dD)⟩
    ·rw[hk];refine⟨[],(aqm _).symm,λC' dD=> .inl ?_⟩;have:=hx [] C' (by rw[aqm];exact dD)
     rwa [aqm]at this
   split at hd
   ·rename_i g db hg
    obtain⟨x,hK,jR⟩:=hd;refine⟨x,s.h,fin x λe C' dD=> ?_,hK⟩;unfold cQ;simp only[ia,fB,hg];exact(jR e).mono λr' h' ⟨e1,e2⟩=>by subst e1;subst e2;exact dD
   ·rename_i q hg
    obtain⟨g,as,eq,x,hK,jR⟩:=hd;refine⟨x,s.h,fin x λe C' dD=> ?_,hK⟩;unfold cQ;simp only[ia,fB,hg];exact⟨g,as,eq,(jR e).mono λr' h' ⟨e1,e2⟩=>by subst e1;subst e2;exact dD⟩
   ·exact hd.elim
  ·rename_i fB
   exact plain hd (by
    unfold cx;simp only[ia];cases hc:c.callee with
    |value f=>exact absurd hc (fB f)
    |invoke=>simp
    |builtin b=>cases b<;>simp) (by
    unfold cx;simp only[ia];cases hc:c.callee with
    |value f=>exact absurd hc (fB f)
    |invoke=>simp
    |builtin b=>cases b<;>simp)
 ·rename_i ia
  exact plain hd (by
   unfold cx;split<;>first|(rename_i c hc;exact(ia c hc).elim)|simp) (by
   unfold cx;split<;>first|(rename_i c hc;exact(ia c hc).elim)|simp)
theorem abM{m:Bool}{J:aqP aq}{x:AV}(h0:eG m P o ρ h x J):∀C:AV->aqP aq->Prop,C x J->jZ P o ρ h C:=λC hC=>by
 unfold eG at h0;split at h0
 ·obtain⟨e,h0⟩:=h0;subst e;exact h0 _ (.inr (jj.refl _)) _ hC
 ·obtain⟨e,h0⟩:=h0;subst e;exact h0 _ (jw.refl _) _ hC
 ·obtain⟨B,_,rfl,rfl,h0⟩:=h0;exact h0 _ _ hC
 ·exact h0.2 _ hC
 ·obtain⟨e,h0⟩:=h0;subst e;have:=h0 [] C (by rw[aqm];exact hC)
  rwa [aqm]at this
 ·exact h0.2 _ hC
 ·obtain⟨e0,_,h0⟩:=h0;exact h0 _ hC
 ·exact h0 _ hC
 ·exact h0.elim
theorem Ly{m:Bool}{s:St}{K:St->Prop}(hd:yt m P o K s):∃x J,eG m P o (ev s) s.h x J/\K ((s.wh J).put o.dst x):=by
 cases kF:nK m o with
 |true=>
  have k7:j8 m o=7:=by unfold j8;rw[kF];rfl
  rcases hd with hd|⟨_,x,J,hK,hc⟩|⟨hv,a,x,h',p,hx,hp,hK⟩|⟨_,x,e0,hK,hc⟩
  ·obtain⟨x,J,h2,hK⟩:=acH (m:=false) rfl hd;refine⟨x,J,?_,hK⟩;have:=abM h2;unfold eG;rw[k7];exact this
  ·exact⟨x,J,by unfold eG;rw[k7];exact λC hC=> .inl (hc C hC),hK⟩
  ·exact⟨x,h',by unfold eG;rw[k7];exact λC hC=> .inr ⟨hv.imp (·.1) (λe=>(ap3 _ _▸e).2),a,x,h',p,hx,hp,hC⟩,hK⟩
  ·exact⟨x,_,by unfold eG;rw[k7];exact λC hC=> .inl (hc C hC),hK⟩
 |false=>
 have km:j8 m o=cx o:=by unfold j8;rw[kF];rfl
 rcases hd with hd|⟨hb,_⟩|⟨hv,a,x,h',p,hx,hp,hK⟩|⟨hk,x,e0,hK,hc⟩
 ·exact acH kF hd
 ·rw[kF]at hb;cases hb
 ·obtain⟨hv,XR⟩:jO o=true/\(m&&cx o==0)=false:=hv.resolve_right λe=>by
   rw[ap3]at e;unfold nK at kF;rw[e.1,e.2]at kF;simp at kF
  have hk:cx o=0\/cx o=1\/cx o=3:=by
   unfold jO at hv;unfold cx;split at hv
   all_goals first|(next e=>simp only[e];simp)|skip
   ·next c e=>
    split at hv
    ·next e2=>simp only[e,e2];simp
    ·cases hv
   ·cases hv
  rcases hk with hk|hk|hk
  ·obtain⟨rfl,h2⟩:=ann hv hk hx hp;refine⟨x,_,?_,hK⟩;unfold eG;rw[km,hk];exact⟨rfl,λh' hh C hC=> .inr ⟨.inl hv,a,x,h',by obtain⟨p',q1,q2⟩:=h2 h' (hh.resolve_left λe=>by rw[e,hk]at XR;cases XR);exact⟨p',q1,q2,hC⟩⟩⟩
  ·obtain⟨rfl,h2⟩:=anx hv hk hx hp;refine⟨x,_,?_,hK⟩;unfold eG;rw[km,hk];exact⟨rfl,λh' hh C hC=> .inr ⟨.inl hv,a,x,h',by obtain⟨p',q1,q2⟩:=h2 h' hh;exact⟨p',q1,q2,hC⟩⟩⟩
  ·refine⟨x,h',?_,hK⟩;unfold eG;rw[km,hk];exact⟨amf hv hk hx hp,λC hC=> .inr ⟨.inl hv,a,x,h',p,hx,hp,hC⟩⟩
 ·refine⟨x,_,?_,hK⟩;unfold eG;rw[km,hk];exact⟨e0,rfl,λC hC=> .inl (hc C hC)⟩
end
structure jC(s s':St):Prop where
 n:s.n=s'.n
 h:s.h=s'.h
 t:∀i,bp s.t i=bp s'.t i
theorem jC.refl(s:St):jC s s:=⟨rfl,rfl,λ_=>rfl⟩
theorem jC.symm{s s':St}(h:jC s s'):jC s' s:=⟨h.n.symm,h.h.symm,λi=>(h.t i).symm⟩
theorem jC.trans{a b c:St}(h:jC a b)(k:jC b c):jC a c:=⟨h.n.trans k.n,h.h.trans k.h,λi=>(h.t i).trans (k.t i)⟩
theorem sW(s:St)(d:aqR Nat)(x:AV)(i:Nat):bp (s.put d x).t i=if d=some i/\i<s.n then x else bp s.t i:=by
 cases d with
 |none=>simp [St.put]
 |some k=>
  by_cases hk:k<s.n
  ·rw[qT hk,lI];by_cases hi:i=k
   ·subst hi;simp [hk]
   ·rw[if_neg hi,if_neg (by simp;intro e;exact absurd e.symm hi)]
  ·rw[Hb hk];rw[if_neg (by rintro⟨e,aN⟩;cases e;exact hk aN)]
theorem rD(s:St)(d:aqR Nat)(x:AV):(s.put d x).n=s.n:=by
 cases d with
 |none=>rfl
 |some k=>
  by_cases hk:k<s.n
  ·rw[qT hk]
  ·rw[Hb hk]
theorem DF(s:St)(d:aqR Nat)(x:AV):(s.put d x).h=s.h:=by
 cases d with
 |none=>rfl
 |some k=>
  by_cases hk:k<s.n
  ·rw[qT hk]
  ·rw[Hb hk]
theorem jC.put{s s':St}(h:jC s s')(J:aqP aq)(d:aqR Nat)(x:AV):jC ((s.wh J).put d x) ((s'.wh J).put d x):=
 ⟨by rw[rD,rD];exact h.n,by rw[DF,DF];rfl,λi=>by
  rw[sW,sW];show(if d=some i/\i<s.n then x else bp s.t i)=(if d=some i/\i<s'.n then x else bp s'.t i);rw[h.n,h.t]⟩
theorem alo(s:St)(J mM h2:aqP aq){d d':aqR Nat}(x x':AV)(cG:∀k,d=some k->d'≠some k):jC ((((s.wh J).put d x).wh h2).put d' x') ((((s.wh mM).put d' x').wh h2).put d x):=by
 refine⟨by simp only[rD];show((s.wh J).put d x).n=((s.wh mM).put d' x').n;simp only[rD];rfl,by simp only[DF];rfl,λi=> ?_⟩;rw[sW,sW];show(if d'=some i/\i<((s.wh J).put d x).n then x' else bp ((s.wh J).put d x).t i)=(if d=some i/\i<((s.wh mM).put d' x').n then x else bp ((s.wh mM).put d' x').t i);rw[rD,rD,sW,sW];show(if d'=some i/\i<s.n then x' else(if d=some i/\i<s.n then x else bp s.t i))=(if d=some i/\i<s.n then x else(if d'=some i/\i<s.n then x' else bp s.t i));by_cases a:d=some i
 ·have:=cG i a;simp [a,this]
 ·simp [a]
section
variable {P:aqS} {ops:Array Oper}
def mI(m:Bool)(P:aqS)(ops:Array Oper)(o:Oper)(s:St)(x:AV)(J:aqP aq):Prop:=
 (jv ops o s True False/\eG m P o (ev s) s.h x J)\/(jv ops o s False True/\x= .d (.v undef)/\J=s.h)
theorem IP{o:Oper}{s:St}{yes no:Prop}(h:jv ops o s yes no):(jv ops o s True False/\yes)\/(jv ops o s False True/\no):=by
 unfold jv at h ⊢;split at h
 ·exact .inl ⟨trivial,h⟩
 ·rename_i j want hg
  split at h
  ·rename_i d hd
   split at h
   ·rename_i b hb
    by_cases xf:b=want
    ·exact .inl ⟨⟨λ_=>trivial,λe=>by subst xf;cases b<;>cases e⟩,h.1 xf⟩
    ·have Cz:b= !want:=by cases b<;>cases want<;>simp_all
     exact .inr ⟨⟨λe=>(xf e).elim,λ_=>trivial⟩,h.2 Cz⟩
   ·exact .inr ⟨trivial,h⟩
   ·exact h.elim
  ·exact h.elim
theorem wg{o:Oper}{s s':St}{yes no:Prop}(ht:∀d,d∈o.looksAt ops->bp s'.t d=bp s.t d)(h:jv ops o s yes no):jv ops o s' yes no:=by
 unfold jv at h ⊢;split at h
 ·exact h
 ·rename_i j want hg
  split at h
  ·rename_i d hd
   have:bp s'.t d=bp s.t d:=ht d (by unfold Oper.looksAt;rw[hg];simp [hd]);rw[this];exact h
  ·exact h.elim
theorem Q2{m:Bool}{o:Oper}{s s':St}{x:AV}{J:aqP aq}(ht:∀d,d∈o.looksAt ops->bp s'.t d=bp s.t d)(hh:s'.h=s.h)(h:mI m P ops o s x J):mI m P ops o s' x J:=by
 have dk:∀y∈o.op.operands,ev s y=ev s' y:=λy hy=>by
  cases y with
  |tmp t=>exact(ht t (by unfold Oper.looksAt;refine aqD.2 (.inl (List.mem_filterMap.2 ⟨.tmp t,Array.mem_toList_iff.2 hy,rfl⟩)))).symm
  |_=>rfl
 rcases h with⟨g,hc⟩|⟨g,e1,e2⟩
 ·refine .inl ⟨wg ht g,?_⟩;rw[hh];have ux:∀h C,jZ P o (ev s) h C=jZ P o (ev s') h C:=λh C=>Rg dk;unfold eG at hc ⊢;split at hc
  ·exact⟨hc.1,λh' hh C hC=>ux h' C▸hc.2 h' hh C hC⟩
  ·exact⟨hc.1,λh' hh C hC=>ux _ C▸hc.2 h' hh C hC⟩
  ·obtain⟨B,kB,a,b,c⟩:=hc;exact⟨B,kB,a,b,λh' C hC=>ux h' C▸c h' C hC⟩
  ·exact⟨hc.1,λC hC=>ux _ C▸hc.2 C hC⟩
  ·exact⟨hc.1,λe C hC=>ux _ C▸hc.2 e C hC⟩
  ·exact⟨hc.1,λC hC=>ux _ C▸hc.2 C hC⟩
  ·obtain⟨e0,a,b⟩:=hc;exact⟨e0,a,λC hC=>ux _ C▸b C hC⟩
  ·exact λC hC=>ux _ C▸hc C hC
  ·exact hc.elim
 ·exact .inr ⟨wg ht g,e1,e2.trans hh.symm⟩
theorem U7{o:Oper}(h:cx o=7):False:=by
 unfold cx at h
 repeat' (first|(split at h)|cases h)
 all_goals (cases hg:qm _<;>rw[hg]at h<;>cases h)
theorem ams{m:Bool}{o:Oper}{ρ:Operand->AV}{h J:aqP aq}{x:AV}(h7:nK m o=false)(h0:eG m P o ρ h x J):jj h J:=by
 unfold eG at h0;unfold j8 at h0;rw[h7]at h0;simp only[cond_false]at h0;split at h0
 ·rw[h0.1];exact jj.refl _
 ·rw[h0.1];exact jj.refl _
 ·obtain⟨B,kB,_,e,_⟩:=h0;rw[e];exact(iT.app kB).i
 ·exact h0.1.i
 ·rw[h0.1];exact jj.refl _
 ·exact h0.1.2.2.i
 ·obtain⟨e0,e,_⟩:=h0;rw[e];exact jj.app _ _
 ·next e=>exact(U7 e).elim
 ·exact h0.elim
theorem agM{m:Bool}{o:Oper}{ρ:Operand->AV}{h J:aqP aq}{x:AV}(h7:nK m o=false)(hk:cx o≠6)(h0:eG m P o ρ h x J):jj J h:=by
 unfold eG at h0;unfold j8 at h0;rw[h7]at h0;simp only[cond_false]at h0;split at h0
 ·rw[h0.1];exact jj.refl _
 ·rw[h0.1];exact jj.refl _
 ·obtain⟨B,kB,_,e,_⟩:=h0;rw[e];exact(iT.app kB).j
 ·exact h0.1.j
 ·rw[h0.1];exact jj.refl _
 ·exact h0.1.2.2.j
 ·next e=>exact(hk e).elim
 ·next e=>exact(U7 e).elim
 ·exact h0.elim
def BU(m:Bool)(a b:Oper):Bool:=(m&&((nK m a&&(!nK m b&&cx b==0))||(nK m b&&(!nK m a&&cx a==0))))|| !nK m a&& !nK m b&&(cx a==0||(cx b==0&& !(cx a==6))||((cx a==1||cx a==4)&&(cx b==1||cx b==4||cx b==2||cx b==6))||(cx a==1&&cx b==5)||(cx a==5&&cx b==1))
theorem apM{m:Bool}{oi oj:Oper}{s:St}{xi xj:AV}{hi hj:aqP aq}(J3:oi.apart ops oj=true)(iW:BU m oi oj=true)(J:mI m P ops oi s xi hi)(h2:mI m P ops oj ((s.wh hi).put oi.dst xi) xj hj):
 ∃iM,mI m P ops oj s xj iM/\mI m P ops oi ((s.wh iM).put oj.dst xj) xi hj:=by
 obtain⟨a1,a2,a3⟩:=Oper.apart_spec J3;have tj:∀d,d∈oj.looksAt ops->bp s.t d=bp ((s.wh hi).put oi.dst xi).t d:=λd hd=>by
  rw[sW,if_neg (λe=>a1 d e.1 hd)];rfl
 have ti:∀(h':aqP aq) d,d∈oi.looksAt ops->bp ((s.wh h').put oj.dst xj).t d=bp s.t d:=λh' d hd=>by
  rw[sW,if_neg (λe=>a3 d e.1 hd)];rfl
 have ft:((s.wh hi).put oi.dst xi).h=hi:=by rw[DF];rfl
 have qq:∀h',((s.wh h').put oj.dst xj).h=h':=λh'=>by rw[DF];rfl
 have same:hi=s.h->mI m P ops oj s xj hj:=λe=>Q2 tj (by rw[ft,e]) h2;have evi:∀h',∀y∈oi.op.operands,ev ((s.wh h').put oj.dst xj) y=ev s y:=λh' y hy=>by
  cases y with
  |tmp t=>exact ti h' t (by unfold Oper.looksAt;refine aqD.2 (.inl (List.mem_filterMap.2 ⟨.tmp t,Array.mem_toList_iff.2 hy,rfl⟩)))
  |_=>rfl
 have evj:∀y∈oj.op.operands,ev ((s.wh hi).put oi.dst xi) y=ev s y:=λy hy=>by
  cases y with
  |tmp t=>exact(tj t (by unfold Oper.looksAt;refine aqD.2 (.inl (List.mem_filterMap.2 ⟨.tmp t,Array.mem_toList_iff.2 hy,rfl⟩)))).symm
  |_=>rfl
 have ci:∀h' h C,jZ P oi (ev ((s.wh h').put oj.dst xj)) h C=jZ P oi (ev s) h C:=λh' h C=>Rg (evi h');have cj:∀h C,jZ P oj (ev ((s.wh hi).put oi.dst xi)) h C=jZ P oj (ev s) h C:=λh C=>Rg evj;unfold BU at iW;rw[Bool.or_eq_true]at iW;rcases J with⟨g1,o1⟩|⟨g1,e1,e2⟩
 ·rcases h2 with⟨g2,o2⟩|⟨g2,f1,f2⟩
  ·rcases iW with iW|iW
   ·
    rw[ap3,Bool.or_eq_true,ap3,ap3,ap3,ap3,Bool.not_eq_true',Bool.not_eq_true',beq_iff_eq,beq_iff_eq]at iW;obtain⟨hm,iW⟩:=iW;have vy:∀h',jv ops oi ((s.wh h').put oj.dst xj) True False:=λh'=>wg (ti h') g1;have Ke:jv ops oj s True False:=wg tj g2;rcases iW with⟨Di,lj,kj⟩|⟨haj,li,ki⟩
    ·have oe:j8 m oj=0:=by unfold j8;rw[lj];exact kj
     have ly:j8 m oi=7:=by unfold j8;rw[Di];rfl
     unfold eG at o1 o2;rw[ly]at o1;rw[oe]at o2;simp only at o1 o2;obtain⟨e,o2⟩:=o2;rw[ft]at e;refine⟨s.h, .inl ⟨Ke,?_⟩, .inl ⟨vy s.h,?_⟩⟩
     ·unfold eG;rw[oe];exact⟨rfl,λh' _ C hC=>by rw[<-cj];exact o2 h' (.inl hm) C hC⟩
     ·unfold eG;rw[ly,qq];exact λC hC=>by rw[ci];exact o1 C (e▸hC)
    ·have ly:j8 m oi=0:=by unfold j8;rw[li];exact ki
     have oe:j8 m oj=7:=by unfold j8;rw[haj];rfl
     unfold eG at o1;rw[ly]at o1;simp only at o1;obtain⟨e,o1⟩:=o1;refine⟨hj,same e, .inl ⟨vy hj,?_⟩⟩;unfold eG;rw[ly];exact⟨(qq hj).symm,λh' _ C hC=>by rw[ci];exact o1 h' (.inl hm) C hC⟩
   rw[ap3,ap3,Bool.not_eq_true',Bool.not_eq_true']at iW;obtain⟨⟨li,lj⟩,iW⟩:=iW;have ly:j8 m oi=cx oi:=by unfold j8;rw[li];rfl
   have oe:j8 m oj=cx oj:=by unfold j8;rw[lj];rfl
   have vy:∀h',jv ops oi ((s.wh h').put oj.dst xj) True False:=λh'=>wg (ti h') g1;have Ke:jv ops oj s True False:=wg tj g2;by_cases k0:cx oi=0
   ·unfold eG at o1;rw[ly,k0]at o1;simp only at o1;obtain⟨e,o1⟩:=o1;refine⟨hj,same e, .inl ⟨vy hj,?_⟩⟩;unfold eG;rw[ly,k0];have hv:jj s.h hj:=by
     have:=ams lj o2;rw[ft,e]at this;exact this
    exact⟨(qq hj).symm,λh' hh C hC=>by rw[qq]at hh;rw[ci];exact o1 h' (hh.imp id λhh=>hv.trans hh) C hC⟩
   ·by_cases k1:cx oj=0
    ·unfold eG at o2;rw[oe,k1]at o2;simp only at o2;obtain⟨e,o2⟩:=o2;rw[ft]at e o2;have k6:cx oi≠6:=λk6=>by
      simp [k6,k1]at iW
     have hv:=agM li k6 o1;refine⟨s.h, .inl ⟨Ke,?_⟩, .inl ⟨vy s.h,?_⟩⟩
     ·unfold eG;rw[oe,k1];exact⟨rfl,λh' hh C hC=>by rw[<-cj];exact o2 h' (hh.imp id λhh=>hv.trans hh) C hC⟩
     ·rw[e];unfold eG at o1 ⊢;rw[qq];simp only[ci];exact o1
    ·by_cases Wm:cx oi=1/\cx oj=5
     ·obtain⟨ka,kb⟩:=Wm;unfold eG at o1 o2;rw[ly,ka]at o1;rw[oe,kb]at o2;simp only at o1 o2;obtain⟨e,o1⟩:=o1;obtain⟨⟨c1,c2,_⟩,o2⟩:=o2;rw[ft,e]at c1 c2;refine⟨hj,same e, .inl ⟨vy hj,?_⟩⟩;unfold eG;rw[ly,ka];simp only;refine⟨(qq hj).symm,λh' hh C hC=> ?_⟩;rw[qq]at hh;rw[ci];exact o1 h' (λn cs hn hq=>hh n cs (c1 n cs hn hq) hq) C hC
     by_cases XI:cx oi=5/\cx oj=1
     ·obtain⟨ka,kb⟩:=XI;unfold eG at o1 o2;rw[ly,ka]at o1;rw[oe,kb]at o2;simp only at o1 o2;obtain⟨⟨c1,c2,c3⟩,o1⟩:=o1;obtain⟨e,o2⟩:=o2;rw[ft]at e o2;refine⟨s.h, .inl ⟨Ke,?_⟩, .inl ⟨vy s.h,?_⟩⟩
      ·unfold eG;rw[oe,kb];simp only;exact⟨trivial,λh' hh C hC=>by rw[<-cj];exact o2 h' (λn cs hn hq=>hh n cs (c2 n cs hn hq) hq) C hC⟩
      ·rw[e];unfold eG;rw[ly,ka];simp only;rw[qq];exact⟨⟨c1,c2,c3⟩,λC hC=>by rw[ci];exact o1 C hC⟩
     have hc:(cx oi=1\/cx oi=4)/\(cx oj=1\/cx oj=4\/cx oj=2\/cx oj=6):=by
      simp only[Bool.or_eq_true,ap3,beq_iff_eq,k0,k1,false_or,false_and]at iW;rcases iW with(iW|iW)|iW
      ·refine⟨iW.1,?_⟩;rcases iW.2 with((h|h)|h)|h
       ·exact .inl h
       ·exact .inr (.inl h)
       ·exact .inr (.inr (.inl h))
       ·exact .inr (.inr (.inr h))
      ·exact absurd iW Wm
      ·exact absurd iW XI
     have q1:hi=s.h/\∀e(C:AV->aqP aq->Prop),C xi (s.h++e)->jZ P oi (ev s) (s.h++e) C:=by
      unfold eG at o1;rcases hc.1 with k|k
      ·rw[ly,k]at o1;exact⟨o1.1,λe C hC=>o1.2 _ (jw.app _ _) C hC⟩
      ·rw[ly,k]at o1;exact o1
     have q2:∃e0,hj=s.h++e0:=by
      have tR:=o2;unfold eG at tR;rcases hc.2 with k|k|k|k
      ·rw[oe,k]at tR;exact⟨[],by rw[tR.1,ft,q1.1,aqm]⟩
      ·rw[oe,k]at tR;exact⟨[],by rw[tR.1,ft,q1.1,aqm]⟩
      ·rw[oe,k]at tR;obtain⟨B,_,_,b,_⟩:=tR;exact⟨[B],by rw[b,ft,q1.1]⟩
      ·rw[oe,k]at tR;obtain⟨e0,b,_⟩:=tR;exact⟨e0,by rw[b,ft,q1.1]⟩
     obtain⟨e0,CR⟩:=q2;refine⟨hj,same q1.1, .inl ⟨vy hj,?_⟩⟩;have:∀e(C:AV->aqP aq->Prop),C xi (hj++e)->jZ P oi (ev ((s.wh hj).put oj.dst xj)) (hj++e) C:=λe C hC=>by
      rw[ci,CR,aqi];rw[CR,aqi]at hC;exact q1.2 _ C hC
     unfold eG;rw[qq];rcases hc.1 with k|k
     ·rw[ly,k];simp only;refine⟨trivial,λh' hh C hC=> ?_⟩;rw[ci];unfold eG at o1;rw[ly,k]at o1;exact o1.2 h' (λn cs hn hq=>hh n cs (by rw[CR];exact jw.app _ _ n cs hn hq) hq) C hC
     ·rw[ly,k];exact⟨rfl,this⟩
  ·
   subst f1;rw[ft]at f2;refine⟨s.h, .inr ⟨wg tj g2,rfl,rfl⟩,?_⟩;rw[f2];exact Q2 (ti s.h) (by rw[qq]) (.inl ⟨g1,o1⟩)
 ·
  subst e1;refine⟨hj,same e2, .inr ⟨wg (ti hj) g1,rfl,(qq hj).symm⟩⟩
def rR(K:St->Prop):Prop:=∀s s',jC s s'->K s->K s'
def lf(m:Bool)(P:aqS)(ops:Array Oper)(K:St->Prop):Nat->Array Bool->St->Prop
 |0,listed,s=>Region.ready .any ops listed=[]/\K s
 |fuel+1,listed,s=>
  (Region.ready .any ops listed=[]->K s)/\
  ∀i∈Region.ready .any ops listed,∀o,ops[i]?=some o->∃x J,mI m P ops o s x J/\lf m P ops K fuel (listed.setIfInBounds i true) ((s.wh J).put o.dst x)
theorem XN{m:Bool}{K:St->Prop}(hK:rR K):∀(fuel:Nat)(listed:Array Bool)(s s':St),jC s s'->lf m P ops K fuel listed s->lf m P ops K fuel listed s'
 |0,_,s,s',hs,h=>⟨h.1,hK s s' hs h.2⟩
 |fuel+1,_,s,s',hs,h=>⟨λh0=>hK s s' hs (h.1 h0),λi hi o ho=>by
  obtain⟨x,J,h2,h3⟩:=h.2 i hi o ho;exact⟨x,J,Q2 (λd _=>(hs.t d).symm) hs.h.symm h2,XN hK fuel _ _ _ (hs.put J o.dst x) h3⟩⟩
def oU(M:Array Nat)(ops:Array Oper):Bool:=
 (List.range ops.size).all λj=>(List.range ops.size).all λi=> !(M.getD j 0).testBit i||match ops[j]? with
  |some o=>o.after.any λe=>Region.binds .any e&&decide (e.on<j)&&(e.on==i||(M.getD e.on 0).testBit i)
  |none=>false
def Dn(ops:Array Oper)(listed:Array Bool):Prop:=∀(j:Nat)(o:Oper),ops[j]?=some o->listed.getD j false=true->∀e∈o.after,Region.binds .any e=true->listed.getD e.on false=true
theorem akt{M:Array Nat}(hM:oU M ops=true){listed:Array Bool}(hD:Dn ops listed):∀(j i:Nat)(o:Oper),i<ops.size->ops[j]?=some o->(∀e∈o.after,Region.binds .any e=true->listed.getD e.on false=true)->(M.getD j 0).testBit i=true->listed.getD i false=true:=by
 intro j
 induction j using Nat.strongRecOn with
 |_ j ih=>
  intro i o hi ho hp hb;unfold oU at hM;simp only[aqr,List.mem_range]at hM;have J:=hM j (aqg.1 ho).1 i hi;rw[hb,ho]at J;simp only[Bool.not_true,Bool.false_or]at J;rw[Array.any_eq_true']at J;obtain⟨e,he,h2⟩:=J;simp only[ap3,decide_eq_true_eq,Bool.or_eq_true,beq_iff_eq]at h2;obtain⟨⟨Bv,aN⟩,h3⟩:=h2;have hl:=hp e he Bv;rcases h3 with h3|h3
  ·rw[<-h3];exact hl
  ·have Jh:e.on<ops.size:=Nat.lt_trans aN (aqg.1 ho).1;exact ih e.on aN i ops[e.on] hi (aqn Jh) (hD e.on _ (aqn Jh) hl) h3
theorem Dn.set{listed:Array Bool}(hD:Dn ops listed){i:Nat}(hr:i∈Region.ready .any ops listed):Dn ops (listed.setIfInBounds i true):=by
 intro j o ho hj e he hb;refine getD_set_true ?_;by_cases oW:i=j
 ·subst oW;obtain⟨_,o',oG,fO⟩:=mem_ready.1 hr;rw[ho]at oG;cases oG;exact fO e he hb
 ·rw[getD_set_ne false oW]at hj;exact hD j o ho hj e he hb
theorem HS{m:Bool}{K:St->Prop}(hK:rR K){M:Array Nat}(hM:oU M ops=true){i:Nat}{oi:Oper}{x:AV}{J:aqP aq}(hi:ops[i]?=some oi):
 ∀(fuel:Nat)(listed:Array Bool)(s:St),Dn ops listed->
  (∀j oj,ops[j]?=some oj->j≠i->listed.getD j true=false->(M.getD j 0).testBit i=false->oi.apart ops oj=true/\BU m oi oj=true)->
  i∈Region.ready .any ops listed->mI m P ops oi s x J->lf m P ops K fuel (listed.setIfInBounds i true) ((s.wh J).put oi.dst x)->lf m P ops K (fuel+1) listed s:=by
 intro fuel
 induction fuel generalizing x J with
 |zero=>
  intro listed s _ _ hr hy H;refine⟨λh=>(by rw[h]at hr;cases hr),λj hj o ho=> ?_⟩;by_cases vJ:j=i
  ·subst vJ;rw[hi]at ho;cases ho;exact⟨x,J,hy,H⟩
  ·have:=ready_mono hj vJ;rw[H.1]at this;cases this
 |succ fuel ih=>
  intro listed s hD Ud hr hy H;refine⟨λh=>(by rw[h]at hr;cases hr),λj hj oj AD=> ?_⟩;by_cases vJ:j=i
  ·subst vJ;rw[hi]at AD;cases AD;exact⟨x,J,hy,H⟩
  ·obtain⟨xj,hj1,QN,H2⟩:=H.2 j (ready_mono hj vJ) oj AD;obtain⟨Z8,oj',ac8,fO⟩:=mem_ready.1 hj;rw[AD]at ac8;cases ac8;have ahW:=(aqg.1 hi).1;have pK:listed.getD i false=false:=by
    have h0:=(mem_ready.1 hr).1;rcases Nat.lt_or_ge i listed.size with h'|h'
    ·simpa [h']using h0
    ·simp [Array.getElem?_eq_none h']at h0
   have ku:(M.getD j 0).testBit i=false:=by
    cases hb:(M.getD j 0).testBit i with
    |false=>rfl
    |true=>rw[akt hM hD j i oj ahW AD fO hb]at pK;cases pK
   obtain⟨J3,iW⟩:=Ud j oj AD vJ Z8 ku;obtain⟨iM,s1,s2⟩:=apM J3 iW hy QN;obtain⟨_,a2,_⟩:=Oper.apart_spec J3;refine⟨xj,iM,s1,ih (listed.setIfInBounds j true) _ (hD.set hj) (λk ok hk Q6 aaY tK=> ?_) (ready_mono hr (Ne.symm vJ)) s2 ?_⟩
   ·refine Ud k ok hk Q6 ?_ tK;by_cases Na:j=k
    ·subst Na;exact Z8
    ·rw[getD_set_ne true Na]at aaY;exact aaY
   ·rw[Array.setIfInBounds_comm _ _ vJ];exact XN hK _ _ _ _ (alo s J iM hj1 x xj (λk hk=>a2 k hk)) H2
def WG(M:Array Nat)(ops:Array Oper)(k:Nat):Bool:=
 match ops[k]? with
 |none=>false
 |some oi=>(List.range ops.size).all λj=>decide (j<=k)||(M.getD j 0).testBit k||match ops[j]? with
  |some oj=>oi.apart ops oj&&BU false oi oj
  |none=>true
def DT(M:Array Nat)(ops:Array Oper):Nat->Nat->Array Bool->Bool
 |0,_,listed=>(Region.ready .any ops listed).isEmpty
 |fuel+1,k,listed=>(Region.ready .any ops listed).contains k&&WG M ops k&&DT M ops fuel (k+1) (listed.setIfInBounds k true)
def rQ(ops:Array Oper):Bool:=oU (Region.before ops) ops&&DT (Region.before ops) ops ops.size 0 (Array.replicate ops.size false)
theorem YJ{K K':St->Prop}(hK:rR K')(Gs:∀s,K s->K' s){M:Array Nat}(hM:oU M ops=true):∀(l:aqP Oper)(k:Nat)(listed:Array Bool)(s:St),(∀j,l[j]?=ops[k+j]?)->(∀j,j<k->listed.getD j true=true)->Dn ops listed->
 DT M ops l.length k listed=true->Da P ops l K s->lf false P ops K' l.length listed s
 |[],_,_,_,_,_,_,hB,h=>⟨by simpa [DT]using hB,Gs _ h⟩
 |o::l,k,listed,s,hl,kJ,hD,hB,h=>by
  have h0:ops[k]?=some o:=by simpa using (hl 0).symm
  simp only[ap4,DT,ap3]at hB;obtain⟨⟨hr,hf⟩,dP⟩:=hB;have qo:k∈Region.ready .any ops listed:=by simpa using hr
  have qa:∀j,l[j]?=ops[k+1+j]?:=λj=>by have:=hl (j+1);simpa [Nat.add_assoc,Nat.add_comm 1 j]using this
  have afp:∀j,j<k+1->(listed.setIfInBounds k true).getD j true=true:=λj hj=>by
   by_cases e:k=j
   ·subst e;rcases Nat.lt_or_ge k listed.size with h'|h'
    ·simp [h']
    ·have:(listed.setIfInBounds k true)[k]?=none:=Array.getElem?_eq_none (by simpa using h');rw[Array.getD_eq_getD_getElem?,this];rfl
   ·rw[getD_set_ne true e];exact kJ j (by omega)
  obtain⟨x,J,hy,BL⟩:∃x J,mI false P ops o s x J/\Da P ops l K ((s.wh J).put o.dst x):=by
   rcases IP h with⟨g,hd⟩|⟨g,hd⟩
   ·obtain⟨x,J,h2,h3⟩:=Ly hd;exact⟨x,J, .inl ⟨g,h2⟩,h3⟩
   ·exact⟨_,s.h, .inr ⟨g,rfl,rfl⟩,hd⟩
  refine HS hK hM h0 l.length listed s hD (λj oj hj cG pK tK=> ?_) qo hy (YJ hK Gs hM l (k+1) _ _ qa afp (hD.set qo) dP BL);unfold WG at hf;rw[h0]at hf;simp only[aqr,List.mem_range]at hf;have:=hf j (aqg.1 hj).1;rw[tK,hj]at this;simp only[Bool.or_false,Bool.or_eq_true,ap3,decide_eq_true_eq]at this;rcases this with this|this
  ·exfalso;have:=kJ j (by omega);rw[this]at pK;cases pK
  ·exact this
def Vx(ops:Array Oper):Nat->Array Bool->aqP Nat
 |0,_=>[]
 |f+1,listed=>match (Region.ready .any ops listed).find? (λk=>match ops[k]? with|some o=> !(cx o==6)&& !IB o|none=>false)with
  |some k=>k::Vx ops f (listed.setIfInBounds k true)
  |none=>match Region.ready .any ops listed with
   |k::_=>k::Vx ops f (listed.setIfInBounds k true)
   |[]=>[]
def Ge(m:Bool)(M:Array Nat)(ops:Array Oper):aqP Nat->Array Bool->Bool
 |[],listed=>(Region.ready .any ops listed).isEmpty
 |k::l,listed=>(Region.ready .any ops listed).contains k&&(match ops[k]? with
  |none=>false
  |some oi=>(List.range ops.size).all λj=>j==k||listed.getD j true||(M.getD j 0).testBit k||match ops[j]? with
   |some oj=>oi.apart ops oj&&BU m oi oj
   |none=>true)&&Ge m M ops l (listed.setIfInBounds k true)
def F6(m:Bool)(ops:Array Oper)(p:aqP Nat):Bool:=oU (Region.before ops) ops&&Ge m (Region.before ops) ops p (Array.replicate ops.size false)
def tY(ops:Array Oper):aqP Nat->aqP Oper
 |[]=>[]
 |k::l=>match ops[k]? with
  |some o=>o::tY ops l
  |none=>tY ops l
theorem ac4{m:Bool}{K K':St->Prop}(hK:rR K')(Gs:∀s,K s->K' s){M:Array Nat}(hM:oU M ops=true):∀(l:aqP Nat)(listed:Array Bool)(s:St),Dn ops listed->
 Ge m M ops l listed=true->uJ m P ops (tY ops l) K s->lf m P ops K' l.length listed s
 |[],_,_,_,hB,h=>⟨by simpa [Ge]using hB,Gs _ h⟩
 |k::l,listed,s,hD,hB,h=>by
  simp only[Ge,ap3]at hB;obtain⟨⟨hr,hf⟩,dP⟩:=hB;have qo:k∈Region.ready .any ops listed:=by simpa using hr
  obtain⟨_,o,h0,_⟩:=mem_ready.1 qo;rw[h0]at hf;simp only[aqr,List.mem_range]at hf;simp only[tY,h0]at h;obtain⟨x,J,hy,BL⟩:∃x J,mI m P ops o s x J/\uJ m P ops (tY ops l) K ((s.wh J).put o.dst x):=by
   rcases IP h with⟨g,hd⟩|⟨g,hd⟩
   ·obtain⟨x,J,h2,h3⟩:=Ly hd;exact⟨x,J, .inl ⟨g,h2⟩,h3⟩
   ·exact⟨_,s.h, .inr ⟨g,rfl,rfl⟩,hd⟩
  refine HS hK hM h0 l.length listed s hD (λj oj hj cG pK tK=> ?_) qo hy (ac4 hK Gs hM l _ _ (hD.set qo) dP BL);have:=hf j (aqg.1 hj).1;rw[tK,pK,hj]at this;simp only[Bool.or_false,Bool.or_eq_true,ap3,beq_iff_eq]at this;rcases this with this|this
  ·exact absurd this cG
  ·exact this
end
section
variable {P:aqS} {r:aqR Nat} {n N0:Nat} {G:Gh} {w:aqU} {a:Act} {s:St} {o:Oper} {Q:Exit->St->Prop}
theorem cY.drew(hs:cY G w a s):bV G.N G w G {w with drawn:=w.drawn+1}/\cY G {w with drawn:=w.drawn+1} a s:=by
 have hE:bV G.N G w G {w with drawn:=w.drawn+1}:=⟨aqc _,λ_ _ h=>h,λ_ _ _=>rfl,λ_ _=>rfl,λ_ _=> .inl ⟨rfl,rfl⟩,im rfl,λ_ _=>rfl,rfl,rfl,rfl,λ_ _ h=> .inl h⟩;have hi:bW G {w with drawn:=w.drawn+1} s.h:=⟨hs.inv.len,hs.inv.z,hs.inv.S,λn B hB=>eu.keep (hs.inv.lt hB) hE (aqc _) ⟨rfl,rfl,rfl⟩ (λ_ _=>⟨rfl,λ_ h=>h⟩) (hs.inv.dc n B hB),hs.inv.inj,hs.inv.gl.keep hE⟩;exact⟨hE,hs.move hE (aqc _) hi⟩
theorem aoi{m:Bool}{x:AV}{J:aqP aq}(h:eG m P o (ev s) s.h x J):jZ P o (ev s) s.h (λx' h'=>(s.wh h').put o.dst x'=(s.wh J).put o.dst x):=abM h _ rfl
theorem Gb{m:Bool}{ops:Array Oper}{K:St->Prop}{Q':Exit->Act->aqU->Prop}(hQ:∀a' w',jr N0 G w K a' w'->Q' .normal a' w'):∀(fuel:Nat)(listed:Array Bool)(G1:Gh)(w1:aqU)(a:Act)(s:St),
 bV N0 G w G1 w1->N0<=G1.N->cY G1 w1 a s->lf m P ops K fuel listed s->wpAnyIn (WF r) n P .any ops Q' fuel listed a w1
 |0,_,G1,w1,a,s,hE,hN,hs,h=>⟨h.1,hQ _ _ ⟨G1,s,hE,hN,hs,h.2⟩⟩
 |fuel+1,listed,G1,w1,a,s,hE,hN,hs,h=>by
  refine⟨λh0=>hQ _ _ ⟨G1,s,hE,hN,hs,h.1 h0⟩,λi hi=> ?_⟩;obtain⟨_,o,ho,_⟩:=mem_ready.1 hi;obtain⟨x,J,hy,BL⟩:=h.2 i hi o ho;unfold wpOpIn;rw[ho];simp only;rcases hy with⟨g,hc⟩|⟨g,rfl,rfl⟩
  ·have hg:=RH hs g;split at hg
   ·rename_i hw
    rw[if_pos hw];refine Oper.wpIn_mono (λa' w' hn=> ?_) ((aoi hc).elim (λk=>acX (K:=λs'=>s'=(s.wh J).put o.dst x) (r:=r) (n:=n) (N0:=N0) (Q:=Q') hs hN k) fun⟨_,va,x',h',p,k1,k2,k3⟩=>abw (K:=λs'=>s'=(s.wh J).put o.dst x) (r:=r) (n:=n) (N0:=N0) (Q:=Q') hs hN ⟨va,x',h',p,k1,k2,k3⟩);obtain⟨G2,s2,e2,n2,wU,rfl⟩:=hn;exact Gb hQ fuel _ G2 w' a' _ (hE.trans e2) n2 wU BL
   ·exact hg.elim
  ·have hg:=RH hs g;split at hg
   ·exact hg.elim
   ·rename_i hw
    rw[if_neg hw];exact⟨λ_ _=>trivial,Gb hQ fuel _ G1 w1 _ _ hE hN (hs.put (.d (.v undef)) o.dst) BL⟩
theorem Mk{id:Nat}{l:aqP Oper}(hm:P.follows .mixedOrders=true)(hl:rQ l.toArray=true)(h:Da P l.toArray l (Q .normal) s):bH P r N0 (.region id l.toArray true) Q s:=by
 constructor
 intro G w a n hs hN;unfold rQ at hl;rw[ap3]at hl;obtain⟨d1,d2⟩:=hs.drew;refine wpIn_region_any hm ?_;have hC:rR (λs=>∃s',jC s' s/\Q .normal s'):=λs s' e ⟨s0,e0,h0⟩=>⟨s0,e0.trans e,h0⟩;have:=YJ (K:=Q .normal) hC (λs h=>⟨s,jC.refl s,h⟩) hl.1 l 0 (Array.replicate l.toArray.size false) s (by simp) (λj hj=>absurd hj (aqt _)) (λj o ho hj=>by
  exfalso;rw[Array.getD_eq_getD_getElem?]at hj;rw[Array.getElem?_replicate]at hj;split at hj<;>simp at hj) (by simpa using hl.2) h
 refine Gb (G:=G) (w:=w) (N0:=N0) (K:=λs=>∃s',jC s' s/\Q .normal s') (λa' w' hn=> ?_) l.toArray.size _ G _ a s (d1.less hN) hN d2 (by simpa using this);obtain⟨G',s',x1,x2,x3,s0,e0,x4⟩:=hn;refine⟨G',s0,x1,x2,⟨x3.size.trans e0.n.symm,λi=>by rw[e0.t i];exact x3.tmp i,by rw[e0.h];exact x3.inv,x3.df⟩,x4⟩
theorem ads{m:Bool}{id:Nat}{ops:Array Oper}(p:aqP Nat)(hm:P.follows .mixedOrders=true)(hz:p.length=ops.size)(hl:F6 m ops p=true)(h:uJ m P ops (tY ops p) (Q .normal) s):bH P r N0 (.region id ops true) Q s:=by
 constructor
 intro G w a n hs hN;unfold F6 at hl;rw[ap3]at hl;obtain⟨d1,d2⟩:=hs.drew;refine wpIn_region_any hm ?_;have hC:rR (λs=>∃s',jC s' s/\Q .normal s'):=λs s' e ⟨s0,e0,h0⟩=>⟨s0,e0.trans e,h0⟩;have:=ac4 (K:=Q .normal) hC (λs h=>⟨s,jC.refl s,h⟩) hl.1 p (Array.replicate ops.size false) s (λj o ho hj=>by
  exfalso;rw[Array.getD_eq_getD_getElem?]at hj;rw[Array.getElem?_replicate]at hj;split at hj<;>simp at hj) hl.2 h
 rw[hz]at this;refine Gb (G:=G) (w:=w) (N0:=N0) (K:=λs=>∃s',jC s' s/\Q .normal s') (λa' w' hn=> ?_) ops.size _ G _ a s (d1.less hN) hN d2 this;obtain⟨G',s',x1,x2,x3,s0,e0,x4⟩:=hn;refine⟨G',s0,x1,x2,⟨x3.size.trans e0.n.symm,λi=>by rw[e0.t i];exact x3.tmp i,by rw[e0.h];exact x3.inv,x3.df⟩,x4⟩
end
def apW(want:Bool):AV->Bool
 | .d (.v (.bool b))=>b==want
 |_=>false
def gNo(want:Bool):AV->Bool
 | .d (.v (.bool b))=>b== !want
 | .d (.v (.tuple _))=>true
 |_=>false
def ajE(t:aqP (Nat×AV)):aqR Nat->AV
 |some d=>bp t d
 |none=> .dead
def vE(ops:Array Oper)(j:Nat)(t:aqP (Nat×AV)):AV:=ajE t ((ops[j]?).bind (·.dst))
section
variable {P:aqS} {ops:Array Oper} {dst:aqR Nat} {op:Op} {ty:TypeId} {pos:String} {after:Array Edge} {j:Nat} {w:Bool} {s:St} {rest:aqP Oper} {K:St->Prop} {y n:Prop}
theorem Kv:jv ops ⟨dst,op,ty,pos,after,some (j,w)⟩ s y n=(match vE ops j s.t with
 | .d (.v (.bool b))=>(b=w->y)/\(b= !w->n)
 | .d (.v (.tuple _))=>n
 |_=>False):=by
 show(match (ops[j]?).bind (·.dst)with
  |some d=>match bp s.t d with
   | .d (.v (.bool b))=>(b=w->y)/\(b= !w->n)
   | .d (.v (.tuple _))=>n
   |_=>False
  |none=>False)=_
 unfold vE;cases (ops[j]?).bind (·.dst)<;>rfl
end
section
variable {P:aqS} {r:aqR Nat} {n N0:Nat} {G:Gh} {w:aqU} {a:Act} {s:St} {o:Oper} {Q:Exit->St->Prop}
theorem bK{K:St->Prop}(h:K s):jc K Q .normal s:=h
theorem lF{K:St->Prop}{i:Nat}(h:Q (.exit i) s):jc K Q (.exit i) s:=h
theorem dg{K:St->Prop}(h:Q .ret s):jc K Q .ret s:=h
theorem iU{id:Nat}(h:Q .normal s):rZ id Q .normal s:=h
theorem fv{id:Nat}(h:Q .ret s):rZ id Q .ret s:=h
theorem rX{id i:Nat}(e:(i==id)=true)(h:Q .normal s):rZ id Q (.exit i) s:=by simpa only[rZ,e,cond_true]using h
theorem ahi{id i:Nat}(e:(i==id)=false)(h:Q (.exit i) s):rZ id Q (.exit i) s:=by simpa only[rZ,e,cond_false]using h
theorem mg{c:Operand}{x y:Code}(hc:ev s c= .d (.v (.bool true)))(h:bH P r N0 x Q s):bH P r N0 (.cond c x y) Q s:=S6 hc (λ_=>h) λh=>Bool.noConfusion h
theorem mj{c:Operand}{x y:Code}(hc:ev s c= .d (.v (.bool false)))(h:bH P r N0 y Q s):bH P r N0 (.cond c x y) Q s:=S6 hc (λh=>Bool.noConfusion h) λ_=>h
theorem eW{c:Operand}{x y:Code}{t:Bool}(hc:ev s c= .d (.v (.bool t)))(e:t=true)(h:bH P r N0 x Q s):bH P r N0 (.cond c x y) Q s:=mg (by rw[hc,e]) h
theorem eP{c:Operand}{x y:Code}{t:Bool}(hc:ev s c= .d (.v (.bool t)))(e:t=false)(h:bH P r N0 y Q s):bH P r N0 (.cond c x y) Q s:=mj (by rw[hc,e]) h
theorem Jp{c:Code}(k:Nat)(e:TypeId)(sz:Nat)(xs:aqP (aqP D))(hx:bp s.t k= .full xs\/(bp s.t k= .d (.v (.slice none 0 0))/\xs=[]))
 (h:bH P r N0 c Q ⟨s.n,(k, .own s.h.length xs)::s.t,s.h++[.front e sz xs.length]⟩):bH P r N0 c Q s:=by
 constructor
 intro G w a n hs hN;have hp:dw G.S w (a.tmps.getD k undef) (.sl xs)/\∃A,a.tmps.getD k undef= .slice A xs.length xs.length:=by
  have hv:=hs.tmp k;revert hv;generalize a.tmps.getD k undef=u;intro hv;rcases hx with hx|⟨hx,rfl⟩
  ·rw[hx]at hv;cases hv with|full _ hp hf=>exact⟨hp,hf⟩
  ·rw[hx]at hv;rw[hv.val];exact⟨Fe,none,rfl⟩
 obtain⟨a1,a2,a3,a4⟩:=Oi hs.inv hp.1 hp.2 e sz;have cE:cY (G.iC (a.tmps.getD k undef) xs.length) w a ⟨s.n,(k, .own s.h.length xs)::s.t,s.h++[.front e sz xs.length]⟩:=by
  refine⟨hs.size,λi=> ?_,a3,hs.df.keep a1⟩;show aH _ _ _ (bp ((k, .own s.h.length xs)::s.t) i);rw[lI];split
  ·next e=>exact e▸a4
  ·exact(hs.tmp i).keep a1 a2
 exact wpIn_mono (h.run _ w a n cE (aqj hN a2)) λ_ _ _ hn=>hn.trans (a1.less hN)
end
theorem ZP{G:Gh}{w:aqU}{h:aqP aq}{b:Nat}{cs cC:aqP AV}(hi:bW G w h)(hb:h[b]?=some (.cells cs))(hl:cC.length=cs.length)
 (hc:∀(vs:Array aqT)(T:TypeId),w.heap[G.aR b]?=some (.cells vs T (0,0))->∀(i:Nat)(u:aqT)(c:AV),vs[i]?=some u->cC[i]?=some c->aH G w u c):bW G w (h.set b (aq.cells cC)):=by
 have ho:∀n,bU (h.set b (aq.cells cC)) G n=bU h G n:=λn=>by
  have aN:=(ap1.1 hb).1;unfold bU;by_cases e:b=n
  ·subst e;rw[aqu aN,hb];rfl
  ·rw[aqz e]
 refine⟨by rw[List.length_set];exact hi.len,hi.z,hi.S,λn B hB=> ?_,λm n x hm hn=>hi.inj m n x (by rw[<-ho];exact hm) (by rw[<-ho];exact hn),hi.gl⟩;have aN:=(ap1.1 hb).1;by_cases e:b=n
 ·subst e;rw[aqu aN]at hB;cases hB
  obtain⟨J,h2,vs,T,h3,h4,_⟩:=hi.dc _ _ hb;exact⟨J,h2,vs,T,h3,h4.trans hl.symm,hc vs T h3⟩
 ·rw[aqz e]at hB;exact hi.dc n B hB
theorem ao8{P:aqS}{r:aqR Nat}{N0:Nat}{s:St}{Q:Exit->St->Prop}{c:Code}(b i:Nat)(e:TypeId)(sz:Nat)(xs:aqP (aqP D)){cs:aqP AV}(hb:s.h[b]?=some (.cells cs))(hx:cs[i]?=some (.full xs)\/(cs[i]?=some (.d (.v (.slice none 0 0)))/\xs=[]))
 (h:bH P r N0 c Q ⟨s.n,s.t,(s.h++[aq.front e sz xs.length]).set b (aq.cells (cs.set i (AV.own s.h.length xs)))⟩):bH P r N0 c Q s:=by
 constructor
 intro G w a n hs hN;obtain⟨J,h2,vs,T,h3,h4,h5⟩:=hs.inv.dc _ _ hb;have hi:i<cs.length:=by rcases hx with hx|⟨hx,_⟩<;>exact(ap1.1 hx).1
 have hv:vs[i]?=some vs[i]:=aqn (by omega);have hp:dw G.S w vs[i] (.sl xs)/\∃A,vs[i]= .slice A xs.length xs.length:=by
  rcases hx with hx|⟨hx,rfl⟩
  ·have:=h5 i _ _ hv hx;generalize vs[i]=u at this;cases this with|full _ hp hf=>exact⟨hp,hf⟩
  ·have:=h5 i _ _ hv hx;rw[this.val];exact⟨Fe,none,rfl⟩
 obtain⟨a1,a2,a3,a4⟩:=Oi hs.inv hp.1 hp.2 e sz;have aN:=(ap1.1 hb).1;have cE:cY (G.iC vs[i] xs.length) w a ⟨s.n,s.t,(s.h++[aq.front e sz xs.length]).set b (aq.cells (cs.set i (AV.own s.h.length xs)))⟩:=by
  refine⟨hs.size,λj=>(hs.tmp j).keep a1 a2,ZP a3 (by rw[aqb aN];exact hb) (by rw[List.length_set]) λgh T' EO j u c hu hc=> ?_,hs.df.keep a1⟩;have e1:(G.iC vs[i] xs.length).aR b=G.aR b:=by
   have:b≠G.N:=by have:=hs.inv.len;omega
   simp [Gh.iC]
  rw[e1,h3]at EO;cases EO
  by_cases e2:i=j
  ·subst e2;rw[aqu hi]at hc;cases hc
   rw[hv]at hu;cases hu
   exact a4
  ·rw[aqz e2]at hc;exact(h5 j u c hu hc).keep a1 a2
 exact wpIn_mono (h.run _ w a n cE (aqj hN a2)) λ_ _ _ hn=>hn.trans (a1.less hN)
def AV.Le(x y:AV):Prop:=∀(G:Gh)(w:aqU)(u:aqT),aH G w u x->aH G w u y
theorem AV.Le.refl(x:AV):AV.Le x x:=λ_ _ _ h=>h
theorem AV.Le.full(xs:aqP (aqP D)):AV.Le (.full xs) (.d (.sl xs)):=λ_ _ _ h=>by
 cases h with|full _ hp _=>exact .d hp
theorem AV.Le.nil:AV.Le (.d (.v (.slice none 0 0))) (.d (.sl [])):=λ_ _ _ h=>by
 rw[h.val];exact .d Fe
theorem AV.Le.agg{cs ds:aqP AV}(hl:cs.length=ds.length)(h:∀(i:Nat)(c d:AV),cs[i]?=some c->ds[i]?=some d->AV.Le c d):AV.Le (.agg cs) (.agg ds):=λG w u hu=>by
 cases hu with
 |agg vs _ qa hv=>
  refine .agg vs ds (qa.trans hl) λi u d hui hd=> ?_;have aN:i<cs.length:=by rw[hl];exact(ap1.1 hd).1
  exact h i _ d (ap5 aN) hd G w u (hv i u _ hui (ap5 aN))
set_option linter.unusedSimpArgs false
set_option linter.unusedVariables false
def rn:aqP Nat->Nat->Nat->Nat
 |[],base,i=>base+i
 |j::_,_,0=>j
 |_::l,base,i+1=>rn l base i
theorem As:∀(l:aqP Nat)(base i:Nat)(j:Nat),l[i]?=some j->rn l base i=j
 |[],_,i,j,h=>by simp at h
 |a::l,base,0,j,h=>by simpa [rn]using h
 |a::l,base,i+1,j,h=>by rw[rn];exact As l base i j (by simpa using h)
theorem MB:∀(l:aqP Nat)(base i:Nat),l.length<=i->rn l base i=base+(i-l.length)
 |[],base,i,_=>by simp [rn]
 |a::l,base,0,h=>by simp at h
 |a::l,base,i+1,h=>by rw[rn,MB l base i (by simpa using h)];simp
mutual
def AV.aM(σ:Nat->Nat):AV->AV
 | .ptr n off=> .ptr (σ n) off
 | .own n xs=> .own (σ n) xs
 | .row n off len cap k=> .row (σ n) off len cap k
 | .mp n=> .mp (σ n)
 | .cr n=> .cr (σ n)
 | .vec n o len L k=> .vec (σ n) o len L k
 | .dB n i j L k=> .dB (σ n) i j L k
 | .agg cs=> .agg (AV.gn σ cs)
 | .bj cs=> .bj (AV.gn σ cs)
 | .fn f cs=> .fn f (AV.gn σ cs)
 | .d x=> .d x
 | .bk xs i off=> .bk xs i off
 | .full xs=> .full xs
 | .hid c=> .hid c
 | .dead=> .dead
def AV.gn(σ:Nat->Nat):aqP AV->aqP AV
 |[]=>[]
 |x::l=>x.aM σ::AV.gn σ l
end
theorem renL_eq(σ:Nat->Nat):∀l,AV.gn σ l=l.map (AV.aM σ)
 |[]=>by simp [AV.gn]
 |x::l=>by simp [AV.gn,renL_eq σ l]
def aq.aM(σ:Nat->Nat):aq->aq
 | .cells cs=> .cells (AV.gn σ cs)
 | .lp ls p as bd cs=> .lp ls p as bd (AV.gn σ cs)
 | .it sn cs=> .it sn (AV.gn σ cs)
 | .e9 T cs=> .e9 T (AV.gn σ cs)
 | .vec e k cs=> .vec e k (cs.map (AV.gn σ))
 | .front e k len=> .front e k len
 | .iP e b=> .iP e b
 | .map kv=> .map kv
 | .ja kv=> .ja kv
 | .gone=> .gone
def ig:aqP Nat->aqP aq->aqP aq->aqP aq
 |[],Bs,h=>h++Bs
 |_::_,[],h=>h
 |i::l,B::Bs,h=>ig l Bs (h.set i B)
structure rm(σ:Nat->Nat)(G G2:Gh):Prop where
 lt:∀n,n<G.N->σ n<G2.N
 aR:∀n,n<G.N->G2.aR (σ n)=G.aR n
 sg:∀n,n<G.N->G2.sg (σ n)=G.sg n
 fl:∀n,n<G.N->G2.fl (σ n)=G.fl n
 ow:∀n,n<G.N->G2.ow (σ n)=G.ow n
 S:∀b o,G2.S b o↔G.S b o
theorem dw.uz{S S':Nat->Nat->Prop}{w:aqU}(hS:∀b o,S b o->S' b o){u:aqT}{x:D}(h:dw S w u x):dw S' w u x:=h.keep hS (λ_ _ _=>rfl)
theorem aH.aM{σ:Nat->Nat}{G G2:Gh}{w:aqU}(hR:rm σ G G2){u:aqT}{x:AV}(h:aH G w u x):aH G2 w u (x.aM σ):=by
 have hS:∀b o,G.S b o->G2.S b o:=λb o h=>(hR.S b o).2 h;have fM:∀(vs:Array aqT)(cs:aqP AV),(∀(i:Nat)(u:aqT)(c:AV),vs[i]?=some u->cs[i]?=some c->aH G2 w u (c.aM σ))->∀(i:Nat)(u:aqT)(c:AV),vs[i]?=some u->(AV.gn σ cs)[i]?=some c->aH G2 w u c:=by
  intro vs cs ih i u c hu hc;rw[renL_eq,ap8]at hc;cases hx:cs[i]? with
  |none=>rw[hx]at hc;cases hc
  |some x=>rw[hx]at hc;cases hc;exact ih i u x hu hx
 induction h with
 |agg vs cs hl _ ih=>rw[AV.aM];exact .agg vs _ (by rw[renL_eq,ap6];exact hl) (fM vs cs ih)
 |bj vs cs hl _ ih=>rw[AV.aM];exact .bj vs _ (by rw[renL_eq,ap6];exact hl) (fM vs cs ih)
 |fn f vs cs hl _ ih=>rw[AV.aM];exact .fn f vs _ (by rw[renL_eq,ap6];exact hl) (fM vs cs ih)
 |d h=>rw[AV.aM];exact .d (h.uz hS)
 |full xs hp hf=>rw[AV.aM];exact .full xs (hp.uz hS) hf
 |ptr n off h=>rw[AV.aM,<-hR.aR n h];exact .ptr _ off (hR.lt n h)
 |row n off len cap k h hl hm=>rw[AV.aM,<-hR.aR n h];exact .row _ off len cap k (hR.lt n h) hl hm
 |mp n h=>rw[AV.aM,<-hR.aR n h];exact .mp _ (hR.lt n h)
 |cr n h=>rw[AV.aM,<-hR.aR n h];exact .cr _ (hR.lt n h)
 |own n xs h hp hle hf=>rw[AV.aM];exact .own _ xs (hR.lt n h) (hp.uz hS) (by rw[hR.fl n h];exact hle) (by rw[hR.fl n h,hR.sg n h];exact hf)
 |vec n o len L k h hs hL hf=>rw[AV.aM];exact .vec _ o len L k (hR.lt n h) hs (by rw[hR.fl n h];exact hL) (by rw[hR.fl n h,hR.sg n h];exact hf)
 |dB n i j L k h hs hL hf=>rw[AV.aM];exact .dB _ i j L k (hR.lt n h) hs (by rw[hR.fl n h];exact hL) (by rw[hR.fl n h,hR.sg n h];exact hf)
 |bk xs i off b o u x hx rb hu=>rw[AV.aM];exact .bk xs i off b o u x hx (λj hj=>⟨hS _ _ (rb j hj).1,(rb j hj).2⟩) (λj d hd=>(hu j d hd).uz hS)
 |hid h J=>rw[AV.aM];exact .hid (h.keep hS (λ_ _ _=>rfl)) J
 |dead u=>rw[AV.aM];exact .dead u
theorem aH.tD{σ:Nat->Nat}{G G2:Gh}{w:aqU}(hR:rm σ G G2){u:aqT}{y:AV}(h:aH G2 w u y):∀x:AV,x.aM σ=y->x.aE G.N=true->aH G w u x:=by
 have hS:∀b o,G2.S b o->G.S b o:=λb o h=>(hR.S b o).1 h;have lt:∀n,(!ct G.N n)=true->n<G.N:=λn h=>by rw[Bool.not_eq_true',<-Bool.not_eq_true,dh]at h;omega
 have fM:∀(vs:Array aqT)(cs xs:aqP AV),(∀(i:Nat)(u:aqT)(c:AV),vs[i]?=some u->cs[i]?=some c->∀x:AV,x.aM σ=c->x.aE G.N=true->aH G w u x)->AV.gn σ xs=cs->AV.kK G.N xs=true->∀(i:Nat)(u:aqT)(c:AV),vs[i]?=some u->xs[i]?=some c->aH G w u c:=by
  intro vs cs xs ih e hb i u c hu hc;subst e;rw[nv,aqr]at hb;exact ih i u (c.aM σ) hu (by rw[renL_eq,ap8,hc];rfl) c rfl (hb c (aqe hc))
 induction h with
 |agg vs cs hl _ ih=>
  intro x e hb;cases x<;>simp only[AV.aM,AV.agg.injEq,reduceCtorEq]at e
  next xs=>
   rw[AV.aE]at hb;exact .agg vs xs (by rw[hl,<-e,renL_eq,ap6]) (fM vs cs xs ih e hb)
 |bj vs cs hl _ ih=>
  intro x e hb;cases x<;>simp only[AV.aM,AV.bj.injEq,reduceCtorEq]at e
  next xs=>
   rw[AV.aE]at hb;exact .bj vs xs (by rw[hl,<-e,renL_eq,ap6]) (fM vs cs xs ih e hb)
 |fn f vs cs hl _ ih=>
  intro x e hb;cases x<;>simp only[AV.aM,AV.fn.injEq,reduceCtorEq]at e
  next g xs=>
   obtain⟨rfl,e⟩:=e;rw[AV.aE]at hb;exact .fn _ vs xs (by rw[hl,<-e,renL_eq,ap6]) (fM vs cs xs ih e hb)
 |d h=>
  intro x e hb;cases x<;>simp only[AV.aM,AV.d.injEq,reduceCtorEq]at e
  next y=>subst e;exact .d (h.uz hS)
 |full xs hp hf=>
  intro x e hb;cases x<;>simp only[AV.aM,AV.full.injEq,reduceCtorEq]at e
  next y=>subst e;exact .full y (hp.uz hS) hf
 |ptr n off h=>
  intro x e hb;cases x<;>simp only[AV.aM,AV.ptr.injEq,reduceCtorEq]at e
  next m o=>
   obtain⟨e1,rfl⟩:=e;rw[AV.aE]at hb;have hm:=lt _ hb;rw[<-e1,hR.aR _ hm];exact .ptr _ _ hm
 |row n off len cap k h hl gu=>
  intro x e hb;cases x<;>simp only[AV.aM,AV.row.injEq,reduceCtorEq]at e
  next m o l c q=>
   obtain⟨e1,rfl,rfl,rfl,rfl⟩:=e;rw[AV.aE]at hb;have hm:=lt _ hb;rw[<-e1,hR.aR _ hm];exact .row _ _ _ _ _ hm hl gu
 |mp n h=>
  intro x e hb;cases x<;>simp only[AV.aM,AV.mp.injEq,reduceCtorEq]at e
  next m=>
   rw[AV.aE]at hb;have hm:=lt _ hb;rw[<-e,hR.aR _ hm];exact .mp _ hm
 |cr n h=>
  intro x e hb;cases x<;>simp only[AV.aM,AV.cr.injEq,reduceCtorEq]at e
  next m=>
   rw[AV.aE]at hb;have hm:=lt _ hb;rw[<-e,hR.aR _ hm];exact .cr _ hm
 |own n xs h hp hle hf=>
  intro x e hb;cases x<;>simp only[AV.aM,AV.own.injEq,reduceCtorEq]at e
  next m l=>
   obtain⟨e1,rfl⟩:=e;rw[AV.aE]at hb;have hm:=lt _ hb;rw[<-e1]at hle hf;exact .own _ _ hm (hp.uz hS) (by rw[<-hR.fl _ hm];exact hle) (by rw[<-hR.fl _ hm,<-hR.sg _ hm];exact hf)
 |vec n o len L k h hs hL hf=>
  intro x e hb;cases x<;>simp only[AV.aM,AV.vec.injEq,reduceCtorEq]at e
  next m a1 a2 a3 a4=>
   obtain⟨e1,rfl,rfl,rfl,rfl⟩:=e;rw[AV.aE]at hb;have hm:=lt _ hb;rw[<-e1]at hL hf;exact .vec _ _ _ _ _ hm hs (by rw[<-hR.fl _ hm];exact hL) (by rw[<-hR.fl _ hm,<-hR.sg _ hm];exact hf)
 |dB n i j L k h hs hL hf=>
  intro x e hb;cases x<;>simp only[AV.aM,AV.dB.injEq,reduceCtorEq]at e
  next m a1 a2 a3 a4=>
   obtain⟨e1,rfl,rfl,rfl,rfl⟩:=e;rw[AV.aE]at hb;have hm:=lt _ hb;rw[<-e1]at hL hf;exact .dB _ _ _ _ _ hm hs (by rw[<-hR.fl _ hm];exact hL) (by rw[<-hR.fl _ hm,<-hR.sg _ hm];exact hf)
 |bk xs i off b o u y hx rb hu=>
  intro x e hb;cases x<;>simp only[AV.aM,AV.bk.injEq,reduceCtorEq]at e
  next a1 a2 a3=>
   obtain⟨rfl,rfl,rfl⟩:=e;exact .bk _ _ _ b o u y hx (λj hj=>⟨hS _ _ (rb j hj).1,(rb j hj).2⟩) (λj d hd=>(hu j d hd).uz hS)
 |hid h J=>
  intro x e hb;cases x<;>simp only[AV.aM,AV.hid.injEq,reduceCtorEq]at e
  next c=>subst e;exact .hid (h.keep hS (λ_ _ _=>rfl)) J
 |dead u=>
  intro x e hb;cases x<;>simp only[AV.aM,reduceCtorEq]at e
  exact .dead u
theorem RZ{σ:Nat->Nat}{G G2:Gh}(hR:rm σ G G2){n:Nat}(hn:n<G.N)(B:aq):(B.aM σ).ee G2 (σ n)=B.ee G n:=by
 cases B<;>simp only[aq.aM,aq.ee,hR.aR n hn,hR.ow n hn]
theorem eu.aM{σ:Nat->Nat}{G G2:Gh}{w:aqU}(hR:rm σ G G2){n:Nat}(hn:n<G.N){B:aq}(hz:∀b,B.ee G n=some b->¬G2.Z b)(h:eu G w n B):eu G2 w (σ n) (B.aM σ):=by
 have hS:∀b o,¬G.S b o->¬G2.S b o:=λb o h h2=>h ((hR.S b o).1 h2);cases B with
 |gone=>trivial
 |cells cs=>
  obtain⟨J,h2,vs,T,h3,h4,h5⟩:=h;rw[aq.aM];refine⟨by rw[hR.aR n hn];exact hz _ rfl,by rw[hR.aR n hn];exact λo=>hS _ _ (h2 o),vs,T,by rw[hR.aR n hn];exact h3,by rw[renL_eq,ap6];exact h4,λi u c hu hc=> ?_⟩;rw[renL_eq,ap8]at hc;cases hx:cs[i]? with
  |none=>rw[hx]at hc;cases hc
  |some x=>rw[hx]at hc;cases hc;exact(h5 i u x hu hx).aM hR
 |lp ls p as bd cs=>
  obtain⟨J,h2,fn,vs,T,h3,h4,h5⟩:=h;rw[aq.aM];refine⟨by rw[hR.aR n hn];exact hz _ rfl,by rw[hR.aR n hn];exact λo=>hS _ _ (h2 o),fn,vs,T,by rw[hR.aR n hn];exact h3,by rw[renL_eq,ap6];exact h4,λi u c hu hc=> ?_⟩;rw[renL_eq,ap8]at hc;cases hx:cs[i]? with
  |none=>rw[hx]at hc;cases hc
  |some x=>rw[hx]at hc;cases hc;exact(h5 i u x hu hx).aM hR
 |it sn cs=>
  obtain⟨J,h2,fn,vs,T,h3,h4,h5⟩:=h;rw[aq.aM];refine⟨by rw[hR.aR n hn];exact hz _ rfl,by rw[hR.aR n hn];exact λo=>hS _ _ (h2 o),fn,vs,T,by rw[hR.aR n hn];exact h3,by rw[renL_eq,ap6];exact h4,λi u c hu hc=> ?_⟩;rw[renL_eq,ap8]at hc;cases hx:cs[i]? with
  |none=>rw[hx]at hc;cases hc
  |some x=>rw[hx]at hc;cases hc;exact(h5 i u x hu hx).aM hR
 |e9 T0 cs=>
  obtain⟨J,h2,fn,vs,T,h3,h4,h5⟩:=h;rw[aq.aM];refine⟨by rw[hR.aR n hn];exact hz _ rfl,by rw[hR.aR n hn];exact λo=>hS _ _ (h2 o),fn,vs,T,by rw[hR.aR n hn];exact h3,by rw[renL_eq,ap6,hR.aR n hn];exact h4,λi u c hu hc=> ?_⟩;rw[renL_eq,ap8]at hc;cases hx:cs[i]? with
  |none=>rw[hx]at hc;cases hc
  |some x=>rw[hx]at hc;cases hc;exact(h5 i u x hu hx).aM hR
 |map kv=>
  obtain⟨J,h2,es,c,h3,h4⟩:=h;exact⟨by rw[hR.aR n hn];exact hz _ rfl,by rw[hR.aR n hn];exact λo=>hS _ _ (h2 o),es,c,by rw[hR.aR n hn];exact h3,h4.keep (λb o h=>(hR.S b o).2 h) (λ_ _ _=>rfl)⟩
 |ja kv=>
  obtain⟨J,h2,es,c,h3,h4⟩:=h;exact⟨by rw[hR.aR n hn];exact hz _ rfl,by rw[hR.aR n hn];exact λo=>hS _ _ (h2 o),es,c,by rw[hR.aR n hn];exact h3,h4.keep (λb o h=>(hR.S b o).2 h) (λ_ _ _=>rfl)⟩
 |iP e b=>
  obtain⟨J,hm,h2⟩:=h;refine⟨(hR.fl n hn).trans J,hm,?_⟩;rcases h2 with⟨h2,h0,A,h3⟩|⟨g,cap,cur,h2,h3,h4,h5,h6,h7,h8,h9,bE⟩
  ·exact .inl ⟨(hR.ow n hn).trans h2,h0,A,(hR.sg n hn).trans h3⟩
  ·exact .inr ⟨g,cap,cur,(hR.ow n hn).trans h2,(hR.sg n hn).trans h3,hz g h2,h5,h6,h7,h8,λo=>hS _ _ (h9 o),bE⟩
 |front e k len=>
  obtain⟨J,hm,h2⟩:=h;refine⟨(hR.fl n hn).trans J,hm,?_⟩;rcases h2 with⟨h2,A,h3⟩|⟨g,cap,cur,h2,h3,h4,h5,h6,h7,h8,h9⟩
  ·exact .inl ⟨(hR.ow n hn).trans h2,A,(hR.sg n hn).trans h3⟩
  ·exact .inr ⟨g,cap,cur,(hR.ow n hn).trans h2,(hR.sg n hn).trans h3,hz g h2,h5,h6,h7,h8,λo ho=>hS _ _ (h9 o ho)⟩
 |vec e k cs=>
  obtain⟨J,hm,hk,h2⟩:=h;rw[aq.aM];refine⟨by rw[ap6];exact(hR.fl n hn).trans J,by rw[ap6];exact hm,λc hc=> ?_,?_⟩
  ·obtain⟨x,hx,rfl⟩:=List.mem_map.1 hc;rw[renL_eq,ap6];exact hk x hx
  ·rcases h2 with⟨h2,e2,A,h3⟩|⟨g,cap,cur,h2,h3,h4,h5,h6,h7,h8,h9,bE⟩
   ·exact .inl ⟨(hR.ow n hn).trans h2,by rw[e2];rfl,A,(hR.sg n hn).trans h3⟩
   ·refine .inr ⟨g,cap,cur,(hR.ow n hn).trans h2,by rw[ap6];exact(hR.sg n hn).trans h3,hz g h2,h5,by rw[ap6];exact h6,h7,h8,λo=>hS _ _ (h9 o),λi j c x u hc hx hu=> ?_⟩;rw[ap8]at hc;cases hy:cs[i]? with
    |none=>rw[hy]at hc;cases hc
    |some y=>
     rw[hy]at hc;cases hc
     rw[renL_eq,ap8]at hx;cases hw:y[j]? with
     |none=>rw[hw]at hx;cases hx
     |some z=>rw[hw]at hx;cases hx;exact(bE i j y z u hy hw hu).aM hR
theorem eu.tD{σ:Nat->Nat}{G G2:Gh}{w:aqU}(hR:rm σ G G2){n:Nat}(hn:n<G.N){B:aq}(hb:B.aE G.N=true)(hz:∀b,B.ee G n=some b->¬G.Z b)(h:eu G2 w (σ n) (B.aM σ)):eu G w n B:=by
 have hS:∀b o,¬G2.S b o->¬G.S b o:=λb o h h2=>h ((hR.S b o).2 h2);cases B with
 |gone=>trivial
 |cells cs=>
  rw[aq.aM]at h;obtain⟨J,h2,vs,T,h3,h4,h5⟩:=h;rw[hR.aR n hn]at h2 h3;rw[renL_eq,ap6]at h4;simp only[aq.aE,aqr]at hb;exact⟨hz _ rfl,λo=>hS _ _ (h2 o),vs,T,h3,h4,λi u c hu hc=>aH.tD hR (h5 i u (c.aM σ) hu (by rw[renL_eq,ap8,hc];rfl)) c rfl (hb c (aqe hc))⟩
 |lp ls p as bd cs=>
  rw[aq.aM]at h;obtain⟨J,h2,fn,vs,T,h3,h4,h5⟩:=h;rw[hR.aR n hn]at h2 h3;rw[renL_eq,ap6]at h4;simp only[aq.aE,aqr]at hb;exact⟨hz _ rfl,λo=>hS _ _ (h2 o),fn,vs,T,h3,h4,λi u c hu hc=>aH.tD hR (h5 i u (c.aM σ) hu (by rw[renL_eq,ap8,hc];rfl)) c rfl (hb c (aqe hc))⟩
 |it sn cs=>
  rw[aq.aM]at h;obtain⟨J,h2,fn,vs,T,h3,h4,h5⟩:=h;rw[hR.aR n hn]at h2 h3;rw[renL_eq,ap6]at h4;simp only[aq.aE,aqr]at hb;exact⟨hz _ rfl,λo=>hS _ _ (h2 o),fn,vs,T,h3,h4,λi u c hu hc=>aH.tD hR (h5 i u (c.aM σ) hu (by rw[renL_eq,ap8,hc];rfl)) c rfl (hb c (aqe hc))⟩
 |e9 T0 cs=>
  rw[aq.aM]at h;obtain⟨J,h2,fn,vs,T,h3,h4,h5⟩:=h;rw[hR.aR n hn]at h2 h3 h4;rw[renL_eq,ap6]at h4;simp only[aq.aE,aqr]at hb;exact⟨hz _ rfl,λo=>hS _ _ (h2 o),fn,vs,T,h3,h4,λi u c hu hc=>aH.tD hR (h5 i u (c.aM σ) hu (by rw[renL_eq,ap8,hc];rfl)) c rfl (hb c (aqe hc))⟩
 |map kv=>
  obtain⟨J,h2,es,c,h3,h4⟩:=h;rw[hR.aR n hn]at h2 h3;exact⟨hz _ rfl,λo=>hS _ _ (h2 o),es,c,h3,h4.keep (λb o h=>(hR.S b o).1 h) (λ_ _ _=>rfl)⟩
 |ja kv=>
  obtain⟨J,h2,es,c,h3,h4⟩:=h;rw[hR.aR n hn]at h2 h3;exact⟨hz _ rfl,λo=>hS _ _ (h2 o),es,c,h3,h4.keep (λb o h=>(hR.S b o).1 h) (λ_ _ _=>rfl)⟩
 |iP e b=>
  obtain⟨J,hm,h2⟩:=h;rw[hR.fl n hn]at J;rw[hR.ow n hn,hR.sg n hn]at h2;refine⟨J,hm,?_⟩;rcases h2 with⟨h2,h0,A,h3⟩|⟨g,cap,cur,h2,h3,h4,h5,h6,h7,h8,h9,bE⟩
  ·exact .inl ⟨h2,h0,A,h3⟩
  ·exact .inr ⟨g,cap,cur,h2,h3,hz g h2,h5,h6,h7,h8,λo=>hS _ _ (h9 o),bE⟩
 |front e k len=>
  obtain⟨J,hm,h2⟩:=h;rw[hR.fl n hn]at J;rw[hR.ow n hn,hR.sg n hn]at h2;refine⟨J,hm,?_⟩;rcases h2 with⟨h2,A,h3⟩|⟨g,cap,cur,h2,h3,h4,h5,h6,h7,h8,h9⟩
  ·exact .inl ⟨h2,A,h3⟩
  ·exact .inr ⟨g,cap,cur,h2,h3,hz g h2,h5,h6,h7,h8,λo ho=>hS _ _ (h9 o ho)⟩
 |vec e k cs=>
  rw[aq.aM]at h;obtain⟨J,hm,hk,h2⟩:=h;rw[hR.fl n hn,ap6]at J;rw[ap6]at hm;rw[hR.ow n hn,hR.sg n hn,ap6]at h2;simp only[aq.aE,aqr]at hb;refine⟨J,hm,λc hc=> ?_,?_⟩
  ·have:=hk _ (List.mem_map.2 ⟨c,hc,rfl⟩)
   rwa [renL_eq,ap6]at this
  ·rcases h2 with⟨h2,e2,A,h3⟩|⟨g,cap,cur,h2,h3,h4,h5,h6,h7,h8,h9,bE⟩
   ·exact .inl ⟨h2,List.map_eq_nil_iff.1 e2,A,h3⟩
   ·refine .inr ⟨g,cap,cur,h2,h3,hz g h2,h5,h6,h7,h8,λo=>hS _ _ (h9 o),λi j c x u hc hx hu=> ?_⟩;exact aH.tD hR (bE i j (AV.gn σ c) (x.aM σ) u (by rw[ap8,hc];rfl) (by rw[renL_eq,ap8,hx];rfl) hu) x rfl (hb c (aqe hc) x (aqe hx))
theorem ab0:∀(l:aqP Nat)(Bs h:aqP aq),l.length<=Bs.length->(ig l Bs h).length=h.length+(Bs.length-l.length)
 |[],Bs,h,_=>by simp [ig]
 |j::l,[],h,hl=>by simp at hl
 |j::l,B::Bs,h,hl=>by rw[ig,ab0 l Bs _ (by simpa using hl),List.length_set];simp
theorem Pg:∀(l:aqP Nat)(Bs h:aqP aq)(n:Nat),l.length<=Bs.length->n<h.length->n ∉ l->(ig l Bs h)[n]?=h[n]?
 |[],Bs,h,n,_,hn,_=>by rw[ig,aqb hn]
 |j::l,[],h,n,hl,_,_=>by simp at hl
 |j::l,B::Bs,h,n,hl,hn,hm=>by
  simp only[aqv,not_or]at hm;rw[ig,Pg l Bs _ n (by simpa using hl) (by rw[List.length_set];exact hn) hm.2,aqz (Ne.symm hm.1)]
theorem acW:∀(l:aqP Nat)(Bs h:aqP aq)(i:Nat),l.length<=Bs.length->l.Nodup->(∀j∈l,j<h.length)->i<Bs.length->(ig l Bs h)[rn l h.length i]?=Bs[i]?
 |[],Bs,h,i,_,_,_,hi=>by rw[ig,rn,aqh (aqG _ _),Nat.add_sub_cancel_left]
 |j::l,[],h,i,hl,_,_,_=>by simp at hl
 |j::l,B::Bs,h,0,hl,hd,aN,_=>by
  rw[List.nodup_cons]at hd;rw[ig,rn,Pg l Bs _ j (by simpa using hl) (by rw[List.length_set];exact aN j (by simp)) hd.1,aqu (aN j (by simp))];rfl
 |j::l,B::Bs,h,i+1,hl,hd,aN,hi=>by
  rw[List.nodup_cons]at hd;have:=acW l Bs (h.set j B) i (by simpa using hl) hd.2 (λx hx=>by rw[List.length_set];exact aN x (by simp [hx])) (by simpa using hi);rw[List.length_set]at this;rw[ig,rn,this];simp
def xE(l:aqP Nat)(base n:Nat):aqR Nat:=if n∈l then some (l.idxOf n)else if base<=n then some (l.length+(n-base))else none
theorem Si{l:aqP Nat}{base:Nat}(hd:l.Nodup)(aN:∀j∈l,j<base)(i:Nat):xE l base (rn l base i)=some i:=by
 unfold xE;by_cases hi:i<l.length
 ·have e:l[i]?=some l[i]:=ap5 hi;rw[As l base i _ e,if_pos (List.getElem_mem _),List.Nodup.idxOf_getElem hd i hi]
 ·rw[MB l base i (by omega),if_neg (λh=>by have:=aN _ h;omega),if_pos (aqG _ _)]
  congr 1;omega
theorem OE{l:aqP Nat}{base n i:Nat}(h:xE l base n=some i):rn l base i=n:=by
 unfold xE at h;split at h
 ·rename_i hm
  cases h
  have aN:=List.idxOf_lt_length_of_mem hm;refine As l base _ n ?_;rw[ap5 aN,List.getElem_idxOf]
 ·split at h
  ·cases h
   rw[MB _ _ _ (by omega)];omega
  ·cases h
theorem ad1{l:aqP Nat}{base n:Nat}(h:xE l base n=none):n<base/\n ∉ l:=by
 unfold xE at h;split at h
 ·cases h
 ·split at h
  ·cases h
  ·rename_i J h2;exact⟨by omega,J⟩
def tX{α:Type}(o:aqR Nat)(f:Nat->α)(d:α):α:=match o with|some i=>f i|none=>d
theorem adi{H:aqP aq}{l:aqP Nat}{h:aqP aq}
 (hd:l.Nodup) (aN:∀j∈l,j<h.length) (hH:∀(i j:Nat),l[i]?=some j->h[j]?=(H[i]?).map (aq.aM (rn l h.length))) (hk:l.length=H.length)
 (hb:H.all (aq.aE H.length)=true) {G:Gh} {w:aqU} (hi:bW G w h):
 ∃G0:Gh,G0.N=H.length/\bW G0 w H/\rm (rn l h.length) G0 G/\∀(G1:Gh)(w':aqU)(H':aqP aq),bV H.length G0 w G1 w'->H.length<=G1.N->bW G1 w' H'->
  ∃G2:Gh,bV G.N G w G2 w'/\G.N<=G2.N/\bW G2 w' (ig l (H'.map (aq.aM (rn l h.length))) h)/\rm (rn l h.length) G1 G2:=by
 obtain⟨σ,hσ⟩:∃σ,σ=rn l h.length:=⟨_,rfl⟩;rw[<-hσ]at hH ⊢;have Jy:h.length=G.N:=hi.len;obtain⟨own,eJ⟩:∃own:Nat->Prop,own=λb=>∃j∈l,bU h G j=some b:=⟨_,rfl⟩;obtain⟨G0,lg⟩:∃G0:Gh,G0={N:=H.length,Z:=λb=>b<w.heap.size/\¬own b,S:=G.S,aR:=λi=>G.aR (σ i),sg:=λi=>G.sg (σ i),ow:=λi=>G.ow (σ i),fl:=λi=>G.fl (σ i),M:=G.M}:=⟨_,rfl⟩;have MA:∀i,i<H.length->∃j,l[i]?=some j/\σ i=j/\j∈l:=λi dY=>by
  have j0:i<l.length:=by rw[hk];exact dY
  exact⟨l[i],ap5 j0,by rw[hσ];exact As l _ i _ (ap5 j0),List.getElem_mem _⟩
 have oh:rm σ G0 G:=by
  subst lg;refine⟨λn hn=> ?_,λ_ _=>rfl,λ_ _=>rfl,λ_ _=>rfl,λ_ _=>rfl,λ_ _=>Iff.rfl⟩;obtain⟨j,_,e,hj⟩:=MA n hn;rw[e,<-Jy];exact aN j hj
 have cy:G0.N=H.length:=by rw[lg]
 have W5:∀(i:Nat)(B:aq),H[i]?=some B->h[σ i]?=some (B.aM σ):=λi B hB=>by
  obtain⟨j,e1,e2,_⟩:=MA i (ap1.1 hB).1;rw[e2,hH i j e1,hB];rfl
 have Ri:∀(i:Nat)(B:aq)(b:Nat),H[i]?=some B->B.ee G0 i=some b->bU h G (σ i)=some b:=λi B b hB fE=>by
  rw[dJ (W5 i B hB),RZ oh (by rw[cy];exact(ap1.1 hB).1) B];exact fE
 have yX:∀(i:Nat)(B:aq)(b:Nat),H[i]?=some B->B.ee G0 i=some b->¬G0.Z b:=λi B b hB fE hz=>by
  rw[lg]at hz;refine hz.2 ?_;rw[eJ];obtain⟨j,_,e2,hj⟩:=MA i (ap1.1 hB).1;exact⟨j,hj,by rw[<-e2];exact Ri i B b hB fE⟩
 have amT:∀i i',σ i=σ i'->i=i':=λi i' e=>by
  have J:=Si hd aN i;have h2:=Si hd aN i';rw[hσ]at e;rw[e,h2]at J;exact(aqk J).symm
 have sA:bW G0 w H:=by
  refine⟨cy.symm,λb hz=> ?_,λb o hs=> ?_,λi B hB=> ?_,λm n b J h2=> ?_,by rw[lg];exact hi.gl⟩
  ·rw[lg]at hz;exact hz.1
  ·rw[lg]at hs;exact hi.S b o hs
  ·have hiN:i<G0.N:=by rw[cy];exact(ap1.1 hB).1
   rw[aqr]at hb;exact eu.tD oh hiN (by rw[cy];exact hb B (aqe hB)) (λb fE=>yX i B b hB fE) (hi.dc (σ i) _ (W5 i B hB))
  ·obtain⟨B1,vF,iS⟩:=nI J;obtain⟨B2,Ps,kh⟩:=nI h2;exact amT m n (hi.inj _ _ b (Ri m B1 b vF iS) (Ri n B2 b Ps kh))
 refine⟨G0,cy,sA,oh,λG1 w' H' hE gF jD=> ?_⟩;have DA:H'.length=G1.N:=jD.len;obtain⟨ps,DI⟩:∃ps,ps=xE l h.length:=⟨_,rfl⟩;obtain⟨G2,iG⟩:∃G2:Gh,G2={N:=G.N+(G1.N-H.length),Z:=G.Z,S:=G1.S,aR:=λn=>tX (ps n) G1.aR (G.aR n),sg:=λn=>tX (ps n) G1.sg (G.sg n),ow:=λn=>tX (ps n) G1.ow (G.ow n),fl:=λn=>tX (ps n) G1.fl (G.fl n),M:=G.M}:=⟨_,rfl⟩;have LC:∀i,ps (σ i)=some i:=λi=>by rw[DI,hσ];exact Si hd aN i
 have JL:∀i,H.length<=i->σ i=G.N+(i-H.length):=λi kf=>by rw[hσ,MB l _ i (by omega),Jy,hk]
 have alq:∀i,i<H.length->σ i<G.N:=λi Jh=>by
  obtain⟨j,_,e,hj⟩:=MA i Jh;rw[e,<-Jy];exact aN j hj
 have Rr:rm σ G1 G2:=by
  subst iG;refine⟨λn hn=> ?_,λn _=>by simp only[LC];rfl,λn _=>by simp only[LC];rfl,λn _=>by simp only[LC];rfl,λn _=>by simp only[LC];rfl,λ_ _=>Iff.rfl⟩;show σ n<G.N+(G1.N-H.length);by_cases eX:n<H.length
  ·have:=alq n eX;omega
  ·rw[JL n (by omega)];omega
 have Xy:∀b,G0.Z b->G1.Z b:=hE.Z.1.1;have Nr:∀b,G.Z b->G0.Z b:=λb hz=>by
  rw[lg];refine⟨hi.z b hz,λho=> ?_⟩;rw[eJ]at ho;obtain⟨j,_,ho⟩:=ho;obtain⟨B,hB,fE⟩:=nI ho;exact(hi.dc j B hB).lH fE hz
 have jG:bV G.N G w G2 w':=by
  refine⟨hE.size,λb o hs=> ?_,λb o hs=> ?_,λn hn=> ?_,λn hn=> ?_,im (by rw[iG]) (by rw[iG]),λb hz=>hE.old b (Nr b hz),hE.os,hE.tape,hE.output,λb o hs=> ?_⟩
  ·rw[iG];exact hE.S b o (by rw[lg];exact hs)
  ·exact hE.cell b o (by rw[lg];exact hs)
  ·rw[iG];show tX (ps n) G1.aR (G.aR n)=G.aR n;cases hp:ps n with
   |none=>rfl
   |some i=>
    have e:σ i=n:=by rw[hσ];rw[DI]at hp;exact OE hp
    have dY:i<H.length:=Nat.lt_of_not_le λkf=>by rw[JL i kf]at e;omega
    show G1.aR i=G.aR n;rw[hE.aR i dY,lg,<-e]
  ·rw[iG];show(tX (ps n) G1.fl (G.fl n)=G.fl n/\tX (ps n) G1.sg (G.sg n)=G.sg n)\/G.fl n<tX (ps n) G1.fl (G.fl n);cases hp:ps n with
   |none=>exact .inl ⟨rfl,rfl⟩
   |some i=>
    have e:σ i=n:=by rw[hσ];rw[DI]at hp;exact OE hp
    have dY:i<H.length:=Nat.lt_of_not_le λkf=>by rw[JL i kf]at e;omega
    have:=hE.fr i dY;rw[lg]at this;simp only[e]at this;exact this
  ·rw[iG]at hs;rcases hE.new b o hs with J|J
   ·rw[lg]at J;exact .inl J
   ·exact .inr λhz=>J (Nr b hz)
 have hlen:(ig l (H'.map (aq.aM σ)) h).length=G2.N:=by
  rw[ab0 _ _ _ (by rw[ap6,hk,DA];omega),ap6,DA,hk,Jy,iG]
 have aeJ:∀i,i<G1.N->(ig l (H'.map (aq.aM σ)) h)[σ i]?=(H'[i]?).map (aq.aM σ):=λi dY=>by
  rw[<-ap8,hσ];exact acW l _ h i (by rw[ap6,hk,DA];omega) hd aN (by rw[ap6,DA];exact dY)
 have M5:∀(n:Nat)(B:aq),(ig l (H'.map (aq.aM σ)) h)[n]?=some B->(∃i B',i<G1.N/\n=σ i/\H'[i]?=some B'/\B=B'.aM σ)\/(ps n=none/\n ∉ l/\h[n]?=some B):=λn B hB=>by
  have ab7:n<G2.N:=by rw[<-hlen];exact(ap1.1 hB).1
  cases hp:ps n with
  |none=>
   rw[DI]at hp;obtain⟨J,h2⟩:=ad1 hp;exact .inr ⟨rfl,h2,by rw[<-Pg l (H'.map (aq.aM σ)) h n (by rw[ap6,hk,DA];omega) J h2];exact hB⟩
  |some i=>
   have e:σ i=n:=by rw[hσ];rw[DI]at hp;exact OE hp
   have dY:i<G1.N:=Nat.lt_of_not_le λkf=>by
    rw[JL i (by omega)]at e;rw[iG]at ab7;have:n<G.N+(G1.N-H.length):=ab7;omega
   rw[<-e,aeJ i dY]at hB;cases hx:H'[i]? with
   |none=>rw[hx]at hB;cases hB
   |some B'=>rw[hx]at hB;cases hB;exact .inl ⟨i,B',dY,e.symm,hx,rfl⟩
 have hold:∀(n b:Nat),n ∉ l->bU h G n=some b->G0.Z b:=λn b hn fE=>by
  rw[lg];refine⟨hi.ib fE,λho=> ?_⟩;rw[eJ]at ho;obtain⟨j,hj,ho⟩:=ho;exact hn ((hi.inj n j b fE ho)▸hj)
 have Gj:∀(n b:Nat),bU (ig l (H'.map (aq.aM σ)) h) G2 n=some b->(∃i,n=σ i/\bU H' G1 i=some b/\¬G0.Z b)\/(n ∉ l/\bU h G n=some b/\G0.Z b):=λn b fE=>by
  obtain⟨B,hB,iS⟩:=nI fE;rcases M5 n B hB with⟨i,B',dY,rfl,dP,rfl⟩|⟨hp,hn,dP⟩
  ·rw[RZ Rr dY]at iS;exact .inl ⟨i,rfl,(dJ dP).trans iS,λhz=>(jD.dc i B' dP).lH iS (Xy _ hz)⟩
  ·have e:B.ee G2 n=B.ee G n:=by
    subst iG;cases B<;>simp only[aq.ee,hp,tX]
   have:=(dJ dP).trans (e▸iS);exact .inr ⟨hn,this,hold n b hn this⟩
 refine⟨G2,jG,by rw[iG];exact aqG _ _,⟨hlen,λb hz=> ?_,λb o hs=> ?_,λn B hB=> ?_,λm n b J h2=> ?_,hi.gl.keep jG⟩,Rr⟩
 ·rw[iG]at hz;exact aqp (hi.z b hz) hE.size
 ·rw[iG]at hs;exact jD.S b o hs
 ·rcases M5 n B hB with⟨i,B',dY,rfl,dP,rfl⟩|⟨hp,hn,dP⟩
  ·refine eu.aM Rr dY (λb fE hz=> ?_) (jD.dc i B' dP);have:=(jD.dc i B' dP).lH fE;rw[iG]at hz;exact this (Xy b (Nr b hz))
  ·have oS:n<G.N:=by rw[<-hi.len];exact(ap1.1 dP).1
   refine eu.keep oS jG (by rw[iG];exact aqG _ _) (by rw[iG];simp only[hp];exact⟨rfl,rfl,rfl⟩) (λb fE=> ?_) (hi.dc n B dP);have hz:=hold n b hn ((dJ dP).trans fE);refine⟨hE.old b hz,λo jX hs=> ?_⟩;rw[iG]at hs;rcases hE.new b o hs with J|J
   ·rw[lg]at J;exact jX J
   ·exact J hz
 ·rcases Gj m b J with⟨i,rfl,a1,a2⟩|⟨a0,a1,a2⟩<;>rcases Gj n b h2 with⟨j,rfl,b1,b2⟩|⟨b0,b1,b2⟩
  ·rw[jD.inj i j b a1 b1]
  ·exact absurd b2 a2
  ·exact absurd a2 b2
  ·exact hi.inj m n b a1 b1
theorem cV.aaP{P:aqS}{f:FuncId}{args:aqP AV}{H:aqP aq}{K:AV->aqP aq->Prop}(hc:cV P f args H K){l:aqP Nat}{h:aqP aq}
 (hd:l.Nodup) (aN:∀j∈l,j<h.length) (hH:∀(i j:Nat),l[i]?=some j->h[j]?=(H[i]?).map (aq.aM (rn l h.length))) (hk:l.length=H.length)
 (ha:args.all (AV.aE H.length)=true) (hb:H.all (aq.aE H.length)=true):
 cV P f (args.map (AV.aM (rn l h.length))) h λr' h'=>∃r H',K r H'/\r'=r.aM (rn l h.length)/\h'=ig l (H'.map (aq.aM (rn l h.length))) h:=by
 refine⟨hc.1,λG w vs hi yG hvr=> ?_⟩;obtain⟨G0,cy,sA,oh,Ns⟩:=adi hd aN hH hk hb hi;refine(hc.2 G0 w vs sA (by rw[yG,ap6]) λi u c hu hx=> ?_).mono λe w' hp=> ?_
 ·rw[aqr]at ha;exact aH.tD oh (hvr i u (c.aM (rn l h.length)) hu (by rw[ap8,hx];rfl)) c rfl (by rw[cy];exact ha c (aqe hx))
 ·obtain⟨v,G1,r,H',rfl,hE,gF,jD,hv,hK⟩:=hp;rw[cy]at gF hE;obtain⟨G2,e1,e2,e3,e4⟩:=Ns G1 w' H' hE gF jD;exact⟨v,G2,r.aM _,_,rfl,e1,e2,e3,hv.aM e4,r,H',hK,rfl,rfl⟩
mutual
theorem wZ{σ τ:Nat->Nat}{k:Nat}(h:∀i,i<k->σ i=τ i):∀x:AV,x.aE k=true->x.aM σ=x.aM τ
 | .ptr n off,hb=>by rw[AV.aE]at hb;rw[AV.aM,AV.aM,h n (by rw[Bool.not_eq_true',<-Bool.not_eq_true,dh]at hb;omega)]
 | .own n xs,hb=>by rw[AV.aE]at hb;rw[AV.aM,AV.aM,h n (by rw[Bool.not_eq_true',<-Bool.not_eq_true,dh]at hb;omega)]
 | .row n off len cap q,hb=>by rw[AV.aE]at hb;rw[AV.aM,AV.aM,h n (by rw[Bool.not_eq_true',<-Bool.not_eq_true,dh]at hb;omega)]
 | .mp n,hb=>by rw[AV.aE]at hb;rw[AV.aM,AV.aM,h n (by rw[Bool.not_eq_true',<-Bool.not_eq_true,dh]at hb;omega)]
 | .cr n,hb=>by rw[AV.aE]at hb;rw[AV.aM,AV.aM,h n (by rw[Bool.not_eq_true',<-Bool.not_eq_true,dh]at hb;omega)]
 | .vec n o len L q,hb=>by rw[AV.aE]at hb;rw[AV.aM,AV.aM,h n (by rw[Bool.not_eq_true',<-Bool.not_eq_true,dh]at hb;omega)]
 | .dB n i j L q,hb=>by rw[AV.aE]at hb;rw[AV.aM,AV.aM,h n (by rw[Bool.not_eq_true',<-Bool.not_eq_true,dh]at hb;omega)]
 | .agg cs,hb=>by rw[AV.aE]at hb;rw[AV.aM,AV.aM,tV h cs hb]
 | .bj cs,hb=>by rw[AV.aE]at hb;rw[AV.aM,AV.aM,tV h cs hb]
 | .fn f cs,hb=>by rw[AV.aE]at hb;rw[AV.aM,AV.aM,tV h cs hb]
 | .d x,_=>by rw[AV.aM,AV.aM]
 | .bk xs i off,_=>by rw[AV.aM,AV.aM]
 | .full xs,_=>by rw[AV.aM,AV.aM]
 | .hid c,_=>by rw[AV.aM,AV.aM]
 | .dead,_=>by rw[AV.aM,AV.aM]
theorem tV{σ τ:Nat->Nat}{k:Nat}(h:∀i,i<k->σ i=τ i):∀l:aqP AV,AV.kK k l=true->AV.gn σ l=AV.gn τ l
 |[],_=>by rw[AV.gn,AV.gn]
 |x::l,hb=>by
  rw[AV.kK,ap3]at hb;rw[AV.gn,AV.gn,wZ h x hb.1,tV h l hb.2]
end
theorem Sv{σ τ:Nat->Nat}{k:Nat}(h:∀i,i<k->σ i=τ i)(B:aq)(hb:B.aE k=true):B.aM σ=B.aM τ:=by
 cases B with
 |cells cs=>rw[aq.aM,aq.aM,tV h cs (by rw[nv];exact hb)]
 |lp ls p as bd cs=>rw[aq.aM,aq.aM,tV h cs (by rw[nv];exact hb)]
 |it sn cs=>rw[aq.aM,aq.aM,tV h cs (by rw[nv];exact hb)]
 |e9 T0 cs=>rw[aq.aM,aq.aM,tV h cs (by rw[nv];exact hb)]
 |vec e q cs=>
  rw[aq.aM,aq.aM]
  congr 1
  refine aqw λc hc=>tV h c ?_;simp only[aq.aE,aqr]at hb;rw[nv,aqr];exact hb c hc
 |_=>rfl
theorem Xo:∀(l:aqP Nat)(b c i:Nat),i<l.length->rn l b i=rn l c i
 |[],b,c,i,h=>by simp at h
 |a::l,b,c,0,_=>by rw[rn,rn]
 |a::l,b,c,i+1,h=>by rw[rn,rn];exact Xo l b c i (by simpa using h)
def qM:aqP Nat->Bool
 |[]=>true
 |a::l=> !l.any (·==a)&&qM l
theorem Yr:∀{l:aqP Nat},qM l=true->l.Nodup
 |[],_=>List.nodup_nil
 |a::l,h=>by
  rw[qM,ap3,Bool.not_eq_true',<-Bool.not_eq_true]at h;rw[List.nodup_cons];exact⟨λhm=>h.1 (List.any_eq_true.2 ⟨a,hm,by simp⟩),Yr h.2⟩
theorem Va:∀(l:aqP Nat)(h Bs:aqP aq),l.map (λj=>h[j]?)=Bs.map some->ig l Bs h=h
 |[],h,Bs,e=>by
  cases Bs with
  |nil=>rw[ig,aqm]
  |cons=>simp at e
 |j::l,h,Bs,e=>by
  cases Bs with
  |nil=>simp at e
  |cons B Bs=>
   rw[aqq,aqq]at e;injection e with e1 e2;have hs:h.set j B=h:=by
     refine List.ext_getElem? λm=> ?_;by_cases em:j=m
     ·subst em;rw[aqu (ap1.1 e1).1,e1]
     ·rw[aqz em]
   rw[ig,hs];exact Va l h Bs e2
section
variable {P:aqS} {f:FuncId} {fc:aqP AV} {H:aqP aq} {l:aqP Nat} {h:aqP aq}
theorem Wx{l:aqP Nat}{h H:aqP aq}{σ:Nat->Nat}(hb:l.map (λj=>h[j]?)=H.map λB=>some (B.aM σ)):l.length=H.length/\(∀j∈l,j<h.length)/\∀(i j:Nat),l[i]?=some j->h[j]?=(H[i]?).map (aq.aM σ):=by
 have J:l.length=H.length:=by simpa using congrArg List.length hb
 have key:∀(i j:Nat),l[i]?=some j->∃B,H[i]?=some B/\h[j]?=some (B.aM σ):=λi j e=>by
  have aN:i<H.length:=by rw[<-J];exact(ap1.1 e).1
  have:=congrArg (·[i]?) hb;simp only[ap8,e,ap5 aN,Option.map_some,Option.some.injEq]at this;exact⟨_,ap5 aN,this⟩
 refine⟨J,λj hj=> ?_,λi j e=> ?_⟩
 ·obtain⟨i,hi⟩:=List.mem_iff_getElem?.1 hj;obtain⟨B,_,h2⟩:=key i j hi;exact(ap1.1 h2).1
 ·obtain⟨B,h2,h3⟩:=key i j e;rw[h2,h3];rfl
theorem cV.oB{r:AV}{H':aqP aq}(hc:cV P f fc H λr1 J=>r1=r/\J=H')(hd:qM l=true)(hb:l.map (λj=>h[j]?)=H.map λB=>some (B.aM (rn l h.length)))(hl:(fc.all (AV.aE H.length)&&H.all (aq.aE H.length))=true):
 cV P f (fc.map (AV.aM (rn l h.length))) h λr1 J=>r1=r.aM (rn l h.length)/\J=ig l (H'.map (aq.aM (rn l h.length))) h:=by
 rw[ap3]at hl;obtain⟨J,h2,h3⟩:=Wx hb;exact(hc.aaP (Yr hd) h2 h3 J hl.1 hl.2).mono λr1 J ⟨r2,H2,⟨e1,e2⟩,e3,e4⟩=>by subst e1;subst e2;exact⟨e3,e4⟩
theorem cV.rq{r:AV}(hc:cV P f fc H λr1 J=>r1=r/\J=H)(hd:qM l=true)(hb:l.map (λj=>h[j]?)=H.map λB=>some (B.aM (rn l 0)))(hl:(fc.all (AV.aE H.length)&&H.all (aq.aE H.length)&&r.aE H.length)=true)(e:aqP aq):
 cV P f (fc.map (AV.aM (rn l 0))) (h++e) λr1 J=>r1=r.aM (rn l 0)/\J=h++e:=by
 rw[ap3,ap3]at hl;obtain⟨⟨l1,l2⟩,l3⟩:=hl;obtain⟨J,h2,_⟩:=Wx hb;have SF:∀i,i<H.length->rn l (h++e).length i=rn l 0 i:=λi hi=>Xo l _ _ i (by rw[J];exact hi);have iS:H.map (λB=>some (B.aM (rn l (h++e).length)))=H.map λB=>some (B.aM (rn l 0)):=by
   refine aqw λB hB=> ?_;rw[aqr]at l2;rw[Sv SF B (l2 B hB)]
 have kh:l.map (λj=>(h++e)[j]?)=H.map λB=>some (B.aM (rn l (h++e).length)):=by
  rw[iS,<-hb];refine aqw λj hj=> ?_;rw[aqb (h2 j hj)]
 have:=hc.oB hd kh (by rw[l1,l2];rfl);have ha:fc.map (AV.aM (rn l (h++e).length))=fc.map (AV.aM (rn l 0)):=by
  refine aqw λx hx=> ?_;rw[aqr]at l1;exact wZ SF x (l1 x hx)
 rw[ha,wZ SF r l3]at this;refine this.mono λr1 J ⟨e1,e2⟩=>⟨e1,?_⟩;rw[e2];refine Va l _ _ ?_;rw[kh,List.map_map];rfl
end
end Go.Proofs.YtpeecnpmcbnahaaGreatDoor
