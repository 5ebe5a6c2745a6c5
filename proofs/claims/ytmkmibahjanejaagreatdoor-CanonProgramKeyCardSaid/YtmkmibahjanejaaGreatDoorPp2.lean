/-
  Part 2 of the proof: AbsLeave, AbsLoop, AbsZero, AbsIter, AbsCode, AbsWalk, GrowF, AbsDraw, AbsFrame.
-/
import Derived.Test.YtmkmibahjanejaaGreatDoorPp1
import Derived.Lib.AppendZeros
import Derived.Maps.RangeRun
namespace Go.Proofs.YtmkmibahjanejaaGreatDoor
open Go.RowKit
theorem aD.zm{G:Gh}{w:aqC}{u:aqB}{x:AV}(Z:Nat->Prop)(M:Nat)(h:aD G w u x):aD {G with Z:=Z,M:=M} w u x:=by
 induction h with
 |agg vs cs hl _ ih=>exact .agg vs cs hl ih
 |bz vs cs hl _ ih=>exact .bz vs cs hl ih
 |fn f vs cs hl _ ih=>exact .fn f vs cs hl ih
 |own n xs h hp hle hf=>exact .own n xs h hp hle hf
 |ptr n off h=>exact .ptr (G:={G with Z:=Z,M:=M}) n off h
 |row n off len cap k h hl hm=>exact .row (G:={G with Z:=Z,M:=M}) n off len cap k h hl hm
 |mp n h=>exact .mp (G:={G with Z:=Z,M:=M}) n h
 |cY n h=>exact .cY (G:={G with Z:=Z,M:=M}) n h
 |vec n o len L k h hs hL hf=>exact .vec (G:={G with Z:=Z,M:=M}) n o len L k h hs hL hf
 |dq n i j L k h hs hL hf=>exact .dq (G:={G with Z:=Z,M:=M}) n i j L k h hs hL hf
 |hid h h1=>exact .hid h h1
 |d h=>exact .d h
 |bJ xs i off b o u x hx hS hu=>exact .bJ xs i off b o u x hx hS hu
 |full xs hp hf=>exact .full xs hp hf
 |dead u=>exact .dead u
theorem dD.zm{G:Gh}{w:aqC}{n:Nat}{B:an}(Z:Nat->Prop)(M:Nat)(hz:∀b,Z b->G.Z b)(h:dD G w n B):dD {G with Z:=Z,M:=M} w n B:=by
 cases B with
 |gone=>trivial
 |cells cs=>
  obtain⟨h1,h2,vs,T,h3,h4,h5⟩:=h;exact⟨λk=>h1 (hz _ k),h2,vs,T,h3,h4,λi u c hu hc=>(h5 i u c hu hc).zm Z M⟩
 |lp ls p as bd cs=>
  obtain⟨h1,h2,fn,vs,T,h3,h4,h5⟩:=h;exact⟨λk=>h1 (hz _ k),h2,fn,vs,T,h3,h4,λi u c hu hc=>(h5 i u c hu hc).zm Z M⟩
 |it sn cs=>
  obtain⟨h1,h2,fn,vs,T,h3,h4,h5⟩:=h;exact⟨λk=>h1 (hz _ k),h2,fn,vs,T,h3,h4,λi u c hu hc=>(h5 i u c hu hc).zm Z M⟩
 |aV T0 cs=>
  obtain⟨h1,h2,fn,vs,T,h3,h4,h5⟩:=h;exact⟨λk=>h1 (hz _ k),h2,fn,vs,T,h3,h4,λi u c hu hc=>(h5 i u c hu hc).zm Z M⟩
 |map kv=>
  obtain⟨h1,h2,es,c,h3,h4⟩:=h;exact⟨λk=>h1 (hz _ k),h2,es,c,h3,h4⟩
 |fV kv=>
  obtain⟨h1,h2,es,c,h3,h4⟩:=h;exact⟨λk=>h1 (hz _ k),h2,es,c,h3,h4⟩
 |front e k len=>
  obtain⟨h1,hm,h2⟩:=h;refine⟨h1,hm,?_⟩;rcases h2 with h2|⟨g,cap,cur,h2,h3,h4,h5⟩
  ·exact .inl h2
  ·exact .inr ⟨g,cap,cur,h2,h3,λk=>h4 (hz _ k),h5⟩
 |bm e b2=>
  obtain⟨h1,hm,h2⟩:=h;refine⟨h1,hm,?_⟩;rcases h2 with h2|⟨g,cap,cur,h2,h3,h4,h5⟩
  ·exact .inl h2
  ·exact .inr ⟨g,cap,cur,h2,h3,λk=>h4 (hz _ k),h5⟩
 |vec e k cs=>
  obtain⟨h1,hm,hk,h2⟩:=h;refine⟨h1,hm,hk,?_⟩;rcases h2 with h2|⟨g,cap,cur,h2,h3,h4,h5,h6,h7,h8,h9,aU⟩
  ·exact .inl h2
  ·exact .inr ⟨g,cap,cur,h2,h3,λk=>h4 (hz _ k),h5,h6,h7,h8,h9,λi j c x u hc hx hu=>(aU i j c x u hc hx hu).zm Z M⟩
theorem KB{h:aqx an}{G:Gh}{n:Nat}(Z:Nat->Prop)(M:Nat):bM h {G with Z:=Z,M:=M} n=bM h G n:=by
 unfold bM;cases h[n]? with
 |none=>rfl
 |some B=>cases B<;>rfl
theorem bD.zm{G:Gh}{w:aqC}{h:aqx an}(hi:bD G w h)(Z:Nat->Prop)(M:Nat)(hz:∀b,Z b->G.Z b)(hM:M<=w.heap.size):bD {G with Z:=Z,M:=M} w h:=
 ⟨hi.len,λb hb=>hi.z b (hz b hb),hi.S,λn B hB=>(hi.cD n B hB).zm Z M hz,λm n b h1 h2=>hi.inj m n b (by rw[<-KB Z M];exact h1) (by rw[<-KB Z M];exact h2),⟨hi.gl.1,hM⟩⟩
def ra(l:aqx Nat)(w:aqC):aqC:=l.foldl (λw D=>w.putObj D (.deferred none)) w
theorem Xv:∀(l:aqx Nat)(w:aqC),(∀D∈l,w.heap[D]?=some (.deferred (some [])))->l.Nodup->
 (ra l w).heap.size=w.heap.size/\(∀b,b ∉ l->(ra l w).heap[b]?=w.heap[b]?)/\(∀b o,(ra l w).cell? ⟨b,o,none⟩=w.cell? ⟨b,o,none⟩)/\(ra l w).os=w.os/\(ra l w).tape=w.tape/\(ra l w).output=w.output
 |[],w,_,_=>⟨rfl,λ_ _=>rfl,λ_ _=>rfl,rfl,rfl,rfl⟩
 |D::l,w,hd,hn=>by
  rw[List.nodup_cons]at hn;have hD:=hd D apP;have aH:=(apY.1 hD).1;obtain⟨h1,h2,h3,h4,h5,h6⟩:=Xv l (w.putObj D (.deferred none)) (λE hE=>by
    have cy:E≠D:=λe=>hn.1 (e▸hE);rw[World.putObj_heap_other cy];exact hd E (apS _ hE)) hn.2
  refine⟨h1.trans (by simp),λb hb=> ?_,λb o=> ?_,h4,h5,h6⟩
  ·exact(h2 b λh=>hb (apS _ h)).trans (World.putObj_heap_other λe=>hb (e▸apP))
  ·refine(h3 b o).trans ?_;by_cases e:b=D
   ·subst e;unfold World.cell?;simp only[World.putObj_heap_same aH,hD]
   ·exact World.cell?_of_block (World.putObj_heap_other e)
theorem abK{F:Fence}{n:Nat}{P:aqA}{fn:Func}{tmps:Array aqB}{R:Ending->aqC->Prop}:∀(l:aqx Nat)(w:aqC),(∀D∈l,w.heap[D]?=some (.deferred (some [])))->l.Nodup->
 LeavesIn F n P fn tmps R [] .returning (ra l w)->LeavesInM F n P fn tmps R (l.map λD=>{target:= .collected D,args:= #[]}) .returning w
 |[],w,_,_,h=>h
 |D::l,w,hd,hn,h=>by
  rw[List.nodup_cons]at hn;exact⟨by simp, .inl ⟨D,_,rfl,run_takeDeferred (hd D apP),abK l _ (λE hE=>by
    have cy:E≠D:=λe=>hn.1 (e▸hE);rw[World.putObj_heap_other cy];exact hd E (apS _ hE)) hn.2 h⟩⟩
theorem adE{N0:Nat}{G G1:Gh}{w w':aqC}{a':Act}{s1:St}(hE:bI N0 {G with M:=w.heap.size} w G1 w')(hN:N0<=G1.N)(hz:∀b,G.Z b->b<w.heap.size)(hMw:G.M<=w.heap.size)(hs:cG G1 w' a' s1):
 ∃(w2:aqC)(G2:Gh),(∀(F:Fence)(n:Nat)(P:aqA)(fn:Func)(R:Ending->aqC->Prop),(∃v,(results fn a'.tmps).run P w2= .ok v w2/\R (.returned v) w2)->LeavesInM F n P fn a'.tmps R a'.defers .returning w')/\
  bI N0 G w G2 w2/\G2.N=G1.N/\cG G2 w2 {a' with defers:=[]} s1:=by
 obtain⟨l,l1,l2,l3⟩:=hs.df;have hd:∀D∈l,w'.heap[D]?=some (.deferred (some [])):=λD hD=>(l3 D hD).2.2;obtain⟨h1,h2,h3,h4,h5,h6⟩:=Xv l w' hd l1;have hM:G1.M=w.heap.size:=hE.Z.2;have jq:∀b,G.Z b->b ∉ l:=λb hb hl=>by
  have:=(l3 b hl).1;have:=hz b hb;omega
 obtain⟨G2,iv⟩:∃G2:Gh,G2={G1 with Z:=G.Z,M:=G.M}:=⟨_,rfl⟩;have FQ:∀b,G.Z b->G1.Z b:=hE.Z.1.1;have kS:bD G2 w' s1.h:=by rw[iv];exact hs.inv.zm _ _ FQ (ap1 hMw hE.size)
 have ib:bI N0 G w G2 w':=by
  rw[iv];exact⟨hE.size,hE.S,hE.cell,hE.aI,hE.fr,gp rfl,hE.old,hE.os,hE.tape,hE.output,hE.new⟩
 have gX:bI G2.N G2 w' G2 (ra l w'):=⟨by rw[h1];exact apU _,λ_ _ h=>h,λb o _=>h3 b o,λ_ _=>rfl,λ_ _=> .inl ⟨rfl,rfl⟩,gp rfl,λb hb=>h2 b (jq b (by rw[iv]at hb;exact hb)),h4,h5,h6,λ_ _ h=> .inl h⟩;have K5:bD G2 (ra l w') s1.h:=⟨kS.len,λb hb=>by rw[h1];exact kS.z b hb,λb o hb=>by rw[h1];exact kS.S b o hb,λn B hB=>dD.aT (kS.lt hB) gX (apU _) ⟨rfl,rfl,rfl⟩ (λb hb=>⟨h2 b λhl=>(hs.inv.cD n B hB).kY (by rw[iv]at hb;cases B<;>exact hb) (l3 b hl).2.1,λ_ h=>h⟩) (kS.cD n B hB),kS.inj,kS.gl.aT gX⟩;refine⟨ra l w',G2,λF n P fn R h=> ?_,ib.trans (gX.less (by rw[iv];exact hN)),by rw[iv],⟨hs.size,λi=>aD.aT gX (apU _) (by rw[iv];exact(hs.tmp i).zm _ _),K5,se.nil _ _⟩⟩;rw[l2];exact abK l w' hd l1 h
section
variable {G:Gh} {w:aqC} {h:aqx an}
theorem amv(hi:bD G w h)(fn:FuncId)(tm:Array aqB)(D p:Nat)(as bd:Code)(cs:aqx AV)(hl:tm.size=cs.length)(hr:∀(i:Nat)(u:aqB)(c:AV),tm[i]?=some u->cs[i]?=some c->aD G w u c):bI G.N G w (G.cT w.heap.size) (w.alloc (.loop {state:= .ready,pending:=none,fn:=fn,tmps:=tm,params:= #[p],assign:=as,body:=bd,defers:=D}))/\bD (G.cT w.heap.size) (w.alloc (.loop {state:= .ready,pending:=none,fn:=fn,tmps:=tm,params:= #[p],assign:=as,body:=bd,defers:=D})) (h++[.lp .ready p as bd cs])/\aD (G.cT w.heap.size) (w.alloc (.loop {state:= .ready,pending:=none,fn:=fn,tmps:=tm,params:= #[p],assign:=as,body:=bd,defers:=D})) (.func (.yield w.heap.size) #[] #[]) (.cY h.length):=by
 have hE:=tu G w hi.z hi.S (.loop {state:= .ready,pending:=none,fn:=fn,tmps:=tm,params:= #[p],assign:=as,body:=bd,defers:=D});have hN:G.N<=(G.cT w.heap.size).N:=Nat.le_succ _;have fY:(G.cT w.heap.size).aI h.length=w.heap.size:=by simp [Gh.cT,hi.len]
 have lz:∀n(B:an),n<G.N->B.dA (G.cT w.heap.size) n=B.dA G n:=λn B hn=>by
  cases B<;>simp [an.dA,Gh.cT,Nat.ne_of_lt hn]
 have fq:∀n,n<G.N->bM (h++[.lp .ready p as bd cs]) (G.cT w.heap.size) n=bM h G n:=λn hn=>by
  have aH:n<h.length:=by rw[hi.len];exact hn
  unfold bM;rw[apT aH,apN aH];exact lz n _ hn
 have tS:bM (h++[.lp .ready p as bd cs]) (G.cT w.heap.size) h.length=some w.heap.size:=by
  rw[dc (B:= .lp .ready p as bd cs) (by simp)];exact congrArg some fY
 refine⟨hE,⟨by simp [Gh.cT,hi.len],λb hb=>ap7 (hi.z b hb) hE.size,λb o hs=>ap7 (hi.S b o hs) hE.size,λn B hB=> ?_,λm n b hm hn=> ?_,hi.gl.aT hE⟩,?_⟩
 ·by_cases hn:n<h.length
  ·rw[apT hn]at hB;have eE:n<G.N:=hi.len▸hn;exact dD.aT eE hE hN ⟨rfl,rfl,rfl⟩ (λb hb=>⟨Below.heap_alloc w _ _ (hi.gw (n:=n) ((dc hB).trans hb)),λo h=>h⟩) (hi.cD n B hB)
  ·have j6:n=h.length:=by
    have:=(apJ.1 hB).1;simp at this;omega
   subst j6;simp at hB;subst hB;exact⟨by rw[fY];exact λhz=>aqn _ (hi.z _ hz),λo hs=>by rw[fY]at hs;exact aqn _ (hi.S _ _ hs),fn,tm,D,by rw[fY];exact World.alloc_heap_new w _,hl,λi u c hu hc=>(hr i u c hu hc).aT hE hN⟩
 ·have key:∀n b,bM (h++[.lp .ready p as bd cs]) (G.cT w.heap.size) n=some b->(n<G.N/\bM h G n=some b)\/(n=h.length/\b=w.heap.size):=λn b hn=>by
   by_cases aH:n<G.N
   ·exact .inl ⟨aH,by rw[<-fq n aH];exact hn⟩
   ·by_cases e:n=h.length
    ·subst e;rw[tS]at hn;cases hn;exact .inr ⟨rfl,rfl⟩
    ·rw[wR (aqf (by simp;have:=hi.len;omega))]at hn;cases hn
  rcases key m b hm with⟨_,jf⟩|⟨rfl,rfl⟩<;>rcases key n _ hn with⟨_,eE⟩|⟨rfl,hb⟩
  ·exact hi.inj m n b jf eE
  ·have:=hi.gw jf;omega
  ·have:=hi.gw eE;omega
  ·rfl
 ·have:=aD.cY (G:=G.cT w.heap.size) (w:=w.alloc (.loop {state:= .ready,pending:=none,fn:=fn,tmps:=tm,params:= #[p],assign:=as,body:=bd,defers:=D})) h.length (by simp [Gh.cT,hi.len])
  rwa [fY]at this
theorem Qi{k:Nat}{B B':an}{ob yK:Obj}(hi:bD G w h)(hk:h[k]?=some B)(vi:B.dA G k=some (G.aI k))(hS:∀o,¬G.S (G.aI k) o)(kV:w.heap[G.aI k]?=some ob)(hn:B'= .gone\/B'.dA G k=some (G.aI k))
 (hB:∀w',(∀b o,G.S b o->w'.cell? ⟨b,o,none⟩=w.cell? ⟨b,o,none⟩)->w'.heap[G.aI k]?=some yK->bI G.N G w G w'->dD G w' k B'):bI G.N G w G (w.putObj (G.aI k) yK)/\bD G (w.putObj (G.aI k) yK) (h.set k B'):=by
 have aH:=(apY.1 kV).1;have hZ:¬G.Z (G.aI k):=(hi.cD k B hk).kY vi;have iQ:∀b,b≠G.aI k->(w.putObj (G.aI k) yK).heap[b]?=w.heap[b]?:=λb hb=>World.putObj_heap_other hb;have gD:∀b o,G.S b o->(w.putObj (G.aI k) yK).cell? ⟨b,o,none⟩=w.cell? ⟨b,o,none⟩:=λb o hs=>World.cell?_of_block (iQ b (λe=>hS o (e▸hs)));have hE:bI G.N G w G (w.putObj (G.aI k) yK):=⟨by simp,λ_ _ h=>h,gD,λ_ _=>rfl,λ_ _=> .inl ⟨rfl,rfl⟩,gp rfl,λb hb=>iQ b (λe=>hZ (e▸hb)),rfl,rfl,rfl,λ_ _ h=> .inl h⟩;refine⟨hE,?_⟩;have hkl:=(apJ.1 hk).1;have kO:(h.set k B')[k]?=some B':=by rw[aqc hkl]
 have eC:∀m,m≠k->(h.set k B')[m]?=h[m]?:=λm hm=>by rw[aqh (Ne.symm hm)]
 have kK:bM h G k=some (G.aI k):=(dc hk).trans vi;have dS:∀m b,bM (h.set k B') G m=some b->bM h G m=some b:=λm b hb=>by
  by_cases e:m=k
  ·subst e;rw[dc kO]at hb;rcases hn with rfl|hn
   ·cases hb
   ·rw[hn]at hb;cases hb;exact kK
  ·unfold bM at hb ⊢;rw[eC m e]at hb;exact hb
 refine⟨by rw[List.length_set];exact hi.len,λb hb=>ap7 (hi.z b hb) hE.size,λb o hs=>ap7 (hi.S b o hs) hE.size,λm C hC=> ?_,λm m' b h1 h2=>hi.inj m m' b (dS m b h1) (dS m' b h2),hi.gl.aT hE⟩;by_cases e:m=k
 ·subst e;rw[kO]at hC;cases hC
  exact hB _ gD (World.putObj_heap_same aH) hE
 ·rw[eC m e]at hC;have cy:∀b,bM h G m=some b->b≠G.aI k:=λb hb eb=>e (hi.inj m k b hb (by rw[eb];exact kK));exact dD.aT (hi.lt hC) hE (apU _) ⟨rfl,rfl,rfl⟩ (λb hb=>⟨iQ b (cy _ ((dc hC).trans hb)),λo h=>h⟩) (hi.cD m C hC)
theorem HT{k:Nat}{ls:LS}{p:Nat}{as bd:Code}{cs:aqx AV}(hi:bD G w h)(hk:h[k]?=some (.lp ls p as bd cs)):
 (∀o,¬G.S (G.aI k) o)/\∃(fn:FuncId)(tm:Array aqB)(D:Nat),w.heap[G.aI k]?=some (.loop {state:=ls.st,pending:=ls.pd,fn:=fn,tmps:=tm,params:= #[p],assign:=as,body:=bd,defers:=D})/\tm.size=cs.length/\(∀(i:Nat)(u:aqB)(c:AV),tm[i]?=some u->cs[i]?=some c->aD G w u c)/\
   ∀(zH:LS),bI G.N G w G (w.putObj (G.aI k) (.loop {state:=zH.st,pending:=zH.pd,fn:=fn,tmps:=tm,params:= #[p],assign:=as,body:=bd,defers:=D}))/\bD G (w.putObj (G.aI k) (.loop {state:=zH.st,pending:=zH.pd,fn:=fn,tmps:=tm,params:= #[p],assign:=as,body:=bd,defers:=D})) (h.set k (.lp zH p as bd cs)):=by
 obtain⟨h1,h2,fn,tm,D,h3,h4,h5⟩:=hi.cD k _ hk;refine⟨h2,fn,tm,D,h3,h4,h5,λzH=>Qi hi hk rfl h2 h3 (.inr rfl) λw' hc eQ hE=>⟨h1,h2,fn,tm,D,eQ,h4,λi u c hu ir=>(h5 i u c hu ir).aT hE (apU _)⟩⟩
theorem aki{k:Nat}{ls:LS}{p:Nat}{as bd:Code}{cs:aqx AV}(hi:bD G w h)(hk:h[k]?=some (.lp ls p as bd cs))(ob:Obj):bI G.N G w G (w.putObj (G.aI k) ob)/\bD G (w.putObj (G.aI k) ob) (h.set k .gone):=by
 obtain⟨h1,h2,fn,tm,D,h3,h4,h5⟩:=hi.cD k _ hk;exact Qi hi hk rfl h2 h3 (.inl rfl) λ_ _ _ _=>trivial
theorem agX(hi:bD G w h):bI G.N G w {G with Z:=λb=>G.Z b\/b=w.heap.size} (w.alloc (.deferred (some [])))/\bD {G with Z:=λb=>G.Z b\/b=w.heap.size} (w.alloc (.deferred (some []))) h:=by
 have hE:bI G.N G w {G with Z:=λb=>G.Z b\/b=w.heap.size} (w.alloc (.deferred (some []))):=
  ⟨by simp,λ_ _ h=>h,λb _ h=>World.cell?_alloc_lt _ _ _ (hi.S _ _ h),λ_ _=>rfl,λ_ _=> .inl ⟨rfl,rfl⟩,⟨⟨λ_ h=> .inl h,λb h=>h.imp id λe=>Nat.le_of_eq e.symm⟩,rfl⟩,λb hb=>Below.heap_alloc w _ b (hi.z b hb),rfl,rfl,rfl,λ_ _ h=> .inl h⟩
 refine⟨hE,hi.len,λb hb=> ?_,λb o hs=>ap7 (hi.S b o hs) hE.size,λn B hB=> ?_,λm n b h1 h2=>hi.inj m n b (by rw[<-KB (λb=>G.Z b\/b=w.heap.size) G.M];exact h1) (by rw[<-KB (λb=>G.Z b\/b=w.heap.size) G.M];exact h2),hi.gl.aT hE⟩
 ·rcases hb with hb|rfl
  ·exact ap7 (hi.z b hb) hE.size
  ·simp
 ·exact dD.aT (hi.lt hB) hE (apU _) ⟨rfl,rfl,rfl⟩ (λb hb=>⟨Below.heap_alloc w _ _ (hi.gw (n:=n) ((dc hB).trans hb)),λo h=>h⟩) (hi.cD n B hB)
end
end Go.Proofs.YtmkmibahjanejaaGreatDoor
namespace Go.Proofs.YtmkmibahjanejaaGreatDoor
open Go.RowKit Go.Lib
def AV.isNil:AV->Bool
 | .d (.v (.slice none 0 0))=>true
 |_=>false
theorem ah3{x:AV}(h:x.isNil=true):x= .d (.v (.slice none 0 0)):=by
 unfold AV.isNil at h;split at h
 ·rfl
 ·cases h
def BK(P:aqA)(op:Op)(ρ:Operand->AV)(h:aqx an):aqz (AV×aqx an):=
 match op with
 | .slice T x lo hi none=>match eJ P T,vx ρ 0 lo,vx ρ 0 hi with
   |some _,some 0,some 0=>bif (ρ x).isNil then some (.d (.v (.slice none 0 0)),h)else none
   |_,_,_=>none
 | .call c=>match c.callee with
   | .builtin .cap=>match c.args.toList,c.argTypes.toList with
     |[x],[T]=>bif (ρ x).isNil&&(eJ P T).isSome then some (.d (.v (.int .i64 0)),h)else none
     |_,_=>none
   | .builtin .append=>match c.args.toList,c.argTypes.toList with
     |[x,y],[T,U]=>match eJ P T,qR P U,ρ y with
      |some (e,k),some _, .d (.v (.int _ (.ofNat m)))=>match iu P e,qF P e with
       |some z,some da=>bif (ρ x).isNil&&cn 1 m&&cn 1 k&&z.cells.toList.length==k&&cn m maxLen&&cn (m*da) 140737488355328 then some (.vec h.length 0 m m k,h++[.vec e k (List.replicate m (z.cells.toList.map λu=> .d (.v u)))])else none
       |_,_=>none
      |_,_,_=>none
     |_,_=>none
   |_=>none
 |_=>none
section
variable {P:aqA} {r:aqz Nat} {n N0:Nat} {G:Gh} {w:aqC} {a:Act} {s:St} {o:Oper} {K:St->Prop} {Q:Exit->Act->aqC->Prop}
theorem aje{x:Operand}{T:TypeId}(c:Call)(hc:c.callee= .builtin .cap)(h1:c.args.toList=[x])(h2:c.argTypes.toList=[T])(ho:o.op= .call c):
 (execOp a.eval o).run P w=((Builtin.cap_ #[T] o.type #[a.eval x]).run P w).andThen λv w'=> .ok (.value v) w':=by
 have e1:c.args= #[x]:=by rw[<-Array.toList_inj];exact h1
 have e2:c.argTypes= #[T]:=by rw[<-Array.toList_inj];exact h2
 unfold execOp;simp only[ho,resolve,hc,e1,e2,invoke,builtin,Sem.run_bind,Sem.run_pure,Result.andThen_ok,List.map_toArray,ap8,List.map_nil]
theorem Vm(hs:cG G w a s){x:aqz Operand}(h:vx (ev s) 0 x=some 0):BS a x 0 0:=by
 cases x with
 |none=>rfl
 |some y=>exact N6 (d:=0) hs h (Int.le_refl _)
theorem ajg{x:AV}{h':aqx an}(hs:cG G w a s)(cm:N0<=G.N)(hx:BK P o.op (ev s) s.h=some (x,h'))(hK:K ((s.wh h').put o.dst x)):o.wpIn (WF r) n P a w (iN N0 G w K) Q:=by
 have db:=hs.ev;have nil:∀{y:Operand},(ev s y).isNil=true->a.eval y= .slice none 0 0:=fun{y} h=>by
  have:=db y;rw[ah3 h]at this;exact this.val
 unfold BK at hx;split at hx
 next T y lo hi ho=>
  split at hx
  ·next ek e1 e2 e3=>
   obtain⟨hb,he⟩:=mo hx;cases he
   obtain⟨eR,fR⟩:=j5 e1;refine fy (by rw[ho];simp) hs cm (v:= .slice none 0 0) ?_ (.d (.v _)) hK;have jR:=Ed (P:=P) (Bl:=true) (Vm hs e2) (Vm hs e3) (apU _) (apU 0) w;unfold execOp;simp [ho,nil hb,Instr.sliceAt,Instr.slice,run_underlying eR,jR,mr fR]
  ·cases hx
 next c ho=>
  split at hx
  ·next hc=>
   split at hx
   ·next y T e1 e2=>
    obtain⟨hb,he⟩:=mo hx;cases he
    rw[apL]at hb;cases hT:eJ P T with
    |none=>rw[hT]at hb;cases hb.2
    |some ek=>
     obtain⟨eR,fR⟩:=j5 hT;refine fy (by rw[ho];simp) hs cm (v:= .int .i64 0) ?_ (.d (.v _)) hK;rw[aje c hc e1 e2 ho,nil hb.1];simp [Builtin.cap_,run_underlying eR,goInt]
   ·cases hx
  ·next hc=>
   split at hx
   ·next y z T U e1 e2=>
    split at hx
    ·next e k kn kq m f1 f2 f3=>
     split at hx
     ·next zz da g1 g2=>
      obtain⟨hb,he⟩:=mo hx;cases he
      simp only[apL,dI,beq_iff_eq]at hb;obtain⟨⟨⟨⟨⟨iP,jR⟩,pJ⟩,rM⟩,R9⟩,Og⟩:=hb;clear hx;obtain⟨eR,fR⟩:=j5 f1;obtain⟨i,lf,jT⟩:∃i,P.info? e=some i/\i.size=k:=by
       unfold fW at fR;cases hq:P.info? e with
       |none=>rw[hq]at fR;cases fR
       |some i=>rw[hq]at fR;exact⟨i,rfl,ap2 fR⟩
      have hz:i.zero=some zz:=by unfold iu at g1;rw[lf]at g1;exact g1
      have hbt:i.bytes=da:=by unfold qF at g2;rw[lf]at g2;exact ap2 g2
      subst jT;subst hbt;have hy:=db z;rw[f3]at hy;have ey:a.eval z= .int kq (m:Nat):=hy.val;have dp:=run_append_nil_zeros (P:=P) w T U o.type e i zz kq kn eR (It f2) lf hz m (by omega) (by omega) (by have:=R9;simp [maxLen]at this;omega) (by omega);have jq:zz.cells.size=i.size:=by rw[<-aqg];exact rM
      have gn:(List.replicate m (zz.cells.toList.map λu=>AV.d (.v u))).length=m:=aqj;obtain⟨cap,j8⟩:∃cap,cap=grownCap w m 0 e:=⟨_,rfl⟩;have jU:m<=cap:=by rw[j8];exact grownCap_ge _ _ _ _
      have hle:cap<=maxLen:=by rw[j8];exact grownCap_le_maxLen _ _ _ _ R9
      rw[<-j8]at dp;obtain⟨cur,kx⟩:∃cur,cur=Builtin.zeroCells zz.cells m++Builtin.zeroCells zz.cells (cap-m):=⟨_,rfl⟩;rw[<-kx]at dp;have gj:cur.size=cap*i.size:=by
        rw[kx,Array.size_append,size_zeroCells,size_zeroCells,jq,<-Nat.add_mul]
        congr 1
        omega
      obtain⟨G',q1,q2,q3,q4⟩:=R6 (e:=e) (k:=i.size) (cap:=cap) (cs:=List.replicate m (zz.cells.toList.map λu=>AV.d (.v u))) (cur:=cur) hs.inv (by rw[gn];exact jU) hle gj (λc hc=>by
       rw[List.eq_of_mem_replicate hc,apO];exact rM) w.drew ⟨rfl,rfl,rfl,rfl⟩ (λa' b c x u hc hx hu=>by
       have:=List.eq_of_mem_replicate (apW hc);subst this;rw[apQ]at hx;cases hq:zz.cells.toList[b]? with
       |none=>rw[hq]at hx;cases hx
       |some y=>
        rw[hq]at hx;cases hx
        have jl:b<i.size:=by rw[<-rM];exact(apJ.1 hq).1
        have NV:a'<m:=by have:=(apJ.1 hc).1;rwa [gn]at this
        have aH:a'*i.size+b<m*i.size:=nf NV jl;rw[kx,Array.getElem?_append_left (by rw[size_zeroCells,jq];exact aH)]at hu;unfold Builtin.zeroCells at hu;rw[Array.getElem?_map,Array.getElem?_range,jq,if_pos aH]at hu;simp only[Option.map_some,Option.some.injEq]at hu;rw[(HR (i:=a') jl).2]at hu;have tR:zz.cells[b]?=some y:=by rw[<-ap6];exact hq
        rw[getElem!_pos zz.cells b (by rw[jq];exact jl)]at hu;rw[ap5 (by rw[jq];exact jl)]at tR;cases tR
        subst hu;exact .d (.v _))
      rw[gn]at q4;refine mm (by rw[ho];simp) hs cm (by rw[GP c hc e1 e2 ho,nil iP,ey,dp];rfl) q1 q2 q3 (q4 m (apU _)) hK
     ·cases hx
    ·cases hx
   ·cases hx
  ·cases hx
 next=>cases hx
end
end Go.Proofs.YtmkmibahjanejaaGreatDoor
namespace Go.Proofs.YtmkmibahjanejaaGreatDoor
open Go.RowKit
section
variable {G:Gh} {w:aqC} {h:aqx an}
theorem afc(hi:bD G w h){b mb c:Nat}(hr:aD G w (.map (some b)) (.mp mb)):bI G.N G w (G.cT w.heap.size) (w.alloc (.mapIter (some b) c #[] c))/\bD (G.cT w.heap.size) (w.alloc (.mapIter (some b) c #[] c)) (h++[.it (c,[]) [.mp mb]])/\aD (G.cT w.heap.size) (w.alloc (.mapIter (some b) c #[] c)) (.pointer (some ⟨w.heap.size,0,none⟩)) (.ptr h.length 0):=by
 have hE:=tu G w hi.z hi.S (.mapIter (some b) c #[] c);have hN:G.N<=(G.cT w.heap.size).N:=Nat.le_succ _;have fY:(G.cT w.heap.size).aI h.length=w.heap.size:=by simp [Gh.cT,hi.len]
 have lz:∀n(B:an),n<G.N->B.dA (G.cT w.heap.size) n=B.dA G n:=λn B hn=>by
  cases B<;>simp [an.dA,Gh.cT,Nat.ne_of_lt hn]
 have fq:∀n,n<G.N->bM (h++[.it (c,[]) [.mp mb]]) (G.cT w.heap.size) n=bM h G n:=λn hn=>by
  have aH:n<h.length:=by rw[hi.len];exact hn
  unfold bM;rw[apT aH,apN aH];exact lz n _ hn
 have tS:bM (h++[.it (c,[]) [.mp mb]]) (G.cT w.heap.size) h.length=some w.heap.size:=by
  rw[dc (B:= .it (c,[]) [.mp mb]) (by simp)];exact congrArg some fY
 refine⟨hE,⟨by simp [Gh.cT,hi.len],λb hb=>ap7 (hi.z b hb) hE.size,λb o hs=>ap7 (hi.S b o hs) hE.size,λn B hB=> ?_,λm n b hm hn=> ?_,hi.gl.aT hE⟩,?_⟩
 ·by_cases hn:n<h.length
  ·rw[apT hn]at hB;have eE:n<G.N:=hi.len▸hn;exact dD.aT eE hE hN ⟨rfl,rfl,rfl⟩ (λb hb=>⟨Below.heap_alloc w _ _ (hi.gw (n:=n) ((dc hB).trans hb)),λo h=>h⟩) (hi.cD n B hB)
  ·have j6:n=h.length:=by
    have:=(apJ.1 hB).1;simp at this;omega
   subst j6;simp at hB;subst hB;exact⟨by rw[fY];exact λhz=>aqn _ (hi.z _ hz),λo hs=>by rw[fY]at hs;exact aqn _ (hi.S _ _ hs),b, #[.map (some b)],(),by rw[fY];exact World.alloc_heap_new w _,⟨rfl,rfl⟩,λi u c hu hc=>by
    match i with
    |0=>cases hu;cases hc;exact hr.aT hE hN
    |i+1=>simp at hu⟩
 ·have key:∀n b,bM (h++[.it (c,[]) [.mp mb]]) (G.cT w.heap.size) n=some b->(n<G.N/\bM h G n=some b)\/(n=h.length/\b=w.heap.size):=λn b hn=>by
   by_cases aH:n<G.N
   ·exact .inl ⟨aH,by rw[<-fq n aH];exact hn⟩
   ·by_cases e:n=h.length
    ·subst e;rw[tS]at hn;cases hn;exact .inr ⟨rfl,rfl⟩
    ·rw[wR (aqf (by simp;have:=hi.len;omega))]at hn;cases hn
  rcases key m b hm with⟨_,jf⟩|⟨rfl,rfl⟩<;>rcases key n _ hn with⟨_,eE⟩|⟨rfl,hb⟩
  ·exact hi.inj m n b jf eE
  ·have:=hi.gw jf;omega
  ·have:=hi.gw eE;omega
  ·rfl
 ·have:=aD.ptr (G:=G.cT w.heap.size) (w:=w.alloc (.mapIter (some b) c #[] c)) h.length 0 (by simp [Gh.cT,hi.len])
  rwa [fY]at this
theorem TA(hi:bD G w h)(e:TypeId):bD (G.cT w.heap.size) (w.alloc (.cells #[.pointer none, .slice none 0 0] e)) (h++[.aV e [.d (.v (.slice none 0 0))]])/\aD (G.cT w.heap.size) (w.alloc (.cells #[.pointer none, .slice none 0 0] e)) (.pointer (some ⟨w.heap.size,0,none⟩)) (.ptr h.length 0):=by
 have hE:=tu G w hi.z hi.S (.cells #[.pointer none, .slice none 0 0] e);have hN:G.N<=(G.cT w.heap.size).N:=Nat.le_succ _;have fY:(G.cT w.heap.size).aI h.length=w.heap.size:=by simp [Gh.cT,hi.len]
 have lz:∀n(B:an),n<G.N->B.dA (G.cT w.heap.size) n=B.dA G n:=λn B hn=>by
  cases B<;>simp [an.dA,Gh.cT,Nat.ne_of_lt hn]
 have fq:∀n,n<G.N->bM (h++[.aV e [.d (.v (.slice none 0 0))]]) (G.cT w.heap.size) n=bM h G n:=λn hn=>by
  have aH:n<h.length:=by rw[hi.len];exact hn
  unfold bM;rw[apT aH,apN aH];exact lz n _ hn
 have tS:bM (h++[.aV e [.d (.v (.slice none 0 0))]]) (G.cT w.heap.size) h.length=some w.heap.size:=by
  rw[dc (B:= .aV e [.d (.v (.slice none 0 0))]) (by simp)];exact congrArg some fY
 refine⟨⟨by simp [Gh.cT,hi.len],λb hb=>ap7 (hi.z b hb) hE.size,λb o hs=>ap7 (hi.S b o hs) hE.size,λn B hB=> ?_,λm n b hm hn=> ?_,hi.gl.aT hE⟩,?_⟩
 ·by_cases hn:n<h.length
  ·rw[apT hn]at hB;have eE:n<G.N:=hi.len▸hn;exact dD.aT eE hE hN ⟨rfl,rfl,rfl⟩ (λb hb=>⟨Below.heap_alloc w _ _ (hi.gw (n:=n) ((dc hB).trans hb)),λo h=>h⟩) (hi.cD n B hB)
  ·have j6:n=h.length:=by
    have:=(apJ.1 hB).1;simp at this;omega
   subst j6;simp at hB;subst hB;exact⟨by rw[fY];exact λhz=>aqn _ (hi.z _ hz),λo hs=>by rw[fY]at hs;exact aqn _ (hi.S _ _ hs),(), #[.slice none 0 0], .pointer none,by rw[fY];exact World.alloc_heap_new w _,⟨rfl, .inl rfl,λv hv=>Or.inl (by simpa using hv)⟩,λi u c hu hc=>by
    match i with
    |0=>cases hu;cases hc;exact .d (.v _)
    |i+1=>simp at hu⟩
 ·have key:∀n b,bM (h++[.aV e [.d (.v (.slice none 0 0))]]) (G.cT w.heap.size) n=some b->(n<G.N/\bM h G n=some b)\/(n=h.length/\b=w.heap.size):=λn b hn=>by
   by_cases aH:n<G.N
   ·exact .inl ⟨aH,by rw[<-fq n aH];exact hn⟩
   ·by_cases e:n=h.length
    ·subst e;rw[tS]at hn;cases hn;exact .inr ⟨rfl,rfl⟩
    ·rw[wR (aqf (by simp;have:=hi.len;omega))]at hn;cases hn
  rcases key m b hm with⟨_,jf⟩|⟨rfl,rfl⟩<;>rcases key n _ hn with⟨_,eE⟩|⟨rfl,hb⟩
  ·exact hi.inj m n b jf eE
  ·have:=hi.gw jf;omega
  ·have:=hi.gw eE;omega
  ·rfl
 ·have:=aD.ptr (G:=G.cT w.heap.size) (w:=w.alloc (.cells #[.pointer none, .slice none 0 0] e)) h.length 0 (by simp [Gh.cT,hi.len])
  rwa [fY]at this
theorem Kz{n mb:Nat}{sn:Nat×aqx Nat}(hi:bD G w h)(hb:h[n]?=some (.it sn [.mp mb])):(∀o,¬G.S (G.aI n) o)/\w.heap[G.aI n]?=some (.mapIter (some (G.aI mb)) sn.1 sn.2.toArray sn.1)/\aD G w (.map (some (G.aI mb))) (.mp mb):=by
 obtain⟨h1,h2,fn,vs,_,h3,⟨_,h4⟩,h5⟩:=hi.cD n _ hb;have:=h5 0 (.map (some fn)) (.mp mb) (by rw[h4];rfl) rfl;cases this with
 |mp _ aH=>exact⟨h2,h3, .mp mb aH⟩
theorem an1(hi:bD G w h):bI G.N G w G w.drew/\bD G w.drew h:=by
 have hE:bI G.N G w G w.drew:=⟨apU _,λ_ _ h=>h,λ_ _ _=>rfl,λ_ _=>rfl,λ_ _=> .inl ⟨rfl,rfl⟩,gp rfl,λ_ _=>rfl,rfl,rfl,rfl,λ_ _ h=> .inl h⟩;exact⟨hE,hi.len,hi.z,hi.S,λn B hB=>dD.aT (hi.lt hB) hE (apU _) ⟨rfl,rfl,rfl⟩ (λ_ _=>⟨rfl,λ_ h=>h⟩) (hi.cD n B hB),hi.inj,hi.gl.aT hE⟩
end
def qN(P:aqA)(o:Oper)(K:St->Prop)(s:St):Prop:=
 match o.op with
 | .range T m=>match sw P T,ev s m with
   |some _, .mp mb=>match s.h[mb]? with
    |some (.fV kv)=>K ((s.wh (s.h++[.it (kv.length,[]) [.mp mb]])).put o.dst (.ptr s.h.length 0))
    |_=>False
   |_,_=>False
 | .next it false=>match ev s it with
   | .ptr m 0=>match s.h[m]? with
     |some (.it sn [.mp mb])=>match s.h[mb]? with
      |some (.fV kv)=>sn.1=kv.length/\(∀b p,kv[b]?=some p->b ∉ sn.2->K ((s.wh (s.h.set m (.it (sn.1,sn.2++[b]) [.mp mb]))).put o.dst (.bz [.d (.v (.bool true)), .d (.v (.string p.1)), .d p.2])))/\((∀b,b<kv.length->b∈sn.2)->K (s.put o.dst (.bz [.d (.v (.bool false))])))
      |_=>False
     |_=>False
   |_=>False
 | .entry it=>match ev s it with
   | .ptr m 0=>match s.h[m]? with
     |some (.it sn [.mp mb])=>match s.h[mb]? with
      |some (.fV kv)=>sn.1=kv.length/\∃l b p,sn.2=l++[b]/\kv[b]?=some p/\K (s.put o.dst (.bz [.d (.v (.string p.1)), .d p.2]))
      |_=>False
     |_=>False
   |_=>False
 | .alloc e=>match iu P e with
   |some z=>z.cells= #[.pointer none, .slice none 0 0]/\K ((s.wh (s.h++[.aV e [.d (.v (.slice none 0 0))]])).put o.dst (.ptr s.h.length 0))
   |none=>False
 | .box e x=>ev s x= .agg [.d (.v (.pointer none)), .d (.v (.slice none 0 0))]/\K ((s.wh (s.h++[.aV e [.d (.v (.slice none 0 0))]])).put o.dst (.ptr s.h.length 0))
 |_=>False
section
variable {P:aqA} {r:aqz Nat} {n N0:Nat} {G:Gh} {w:aqC} {a:Act} {s:St} {o:Oper} {K:St->Prop} {Q:Exit->Act->aqC->Prop}
theorem QY{mb:Nat}{kv:aqx (aqy×D)}(hi:bD G w s.h)(hb:s.h[mb]?=some (.fV kv)):∃es:Array MapEntry,w.heap[G.aI mb]?=some (.map es kv.length)/\wx G.S w es kv.length kv:=by
 obtain⟨_,_,es,c,h1,h2⟩:=hi.cD mb _ hb;have:c=kv.length:=h2.ok.A2.trans h2.all.symm;subst this;exact⟨es,h1,h2⟩
theorem wx.mem{S:Nat->Nat->Prop}{es:Array MapEntry}{c:Nat}{kv:aqx (aqy×D)}(h:wx S w es c kv){e:MapEntry}(he:e∈es.toList):es[e.born]?=some e/\e.born<kv.length:=by
 obtain⟨i,hi,rfl⟩:=List.getElem_of_mem he;have hs:es[i]?=some es.toList[i]:=by simp
 have hb:=h.ok.born i _ hs;rw[hb];exact⟨hs,by rw[h.all];simpa using hi⟩
theorem amd(hs:cG G w a s)(cm:N0<=G.N)(hx:qN P o K s):o.wpIn (WF r) n P a w (iN N0 G w K) Q:=by
 have db:=hs.ev;have ptr:∀{y:Operand}{n:Nat},ev s y= .ptr n 0->a.eval y= .pointer (some ⟨G.aI n,0,none⟩):=fun{y n} h=>by
  have:=db y;rw[h]at this;generalize a.eval y=u at this;cases this;rfl
 unfold qN at hx;split at hx
 next T m ho=>
  split at hx
  ·next ke mb e1 e2=>
   split at hx
   ·next kv hb=>
    obtain⟨es,h1,h2⟩:=QY hs.inv hb;have hv:=db m;rw[e2]at hv;have ea:a.eval m= .map (some (G.aI mb)):=by
     generalize a.eval m=u at hv;cases hv;rfl
    rw[ea]at hv;obtain⟨i1,i2,i3⟩:=afc (c:=kv.length) hs.inv hv;obtain⟨k0,el⟩:=ke;refine mm (by rw[ho];simp) hs cm (v:= .pointer (some ⟨w.heap.size,0,none⟩)) (w':=w.alloc (.mapIter (some (G.aI mb)) kv.length #[] kv.length)) ?_ i1 (Nat.le_succ _) i2 i3 hx;unfold execOp;simp [ho,ea,Instr.range,run_underlying (Em e1),MapKept.run_getObj_map h1,Result.andThen]
   ·cases hx
  ·cases hx
 next it ho=>
  split at hx
  ·next m e1=>
   split at hx
   ·next sn mb hn=>
    split at hx
    ·next kv hb=>
     obtain⟨hc,hK1,hK2⟩:=hx;obtain⟨es,h1,h2⟩:=QY hs.inv hb;obtain⟨t1,t2,t3⟩:=Kz hs.inv hn;rw[hc]at t2;have hr:=run_next_at (P:=P) w o.type _ _ _ _ _ _ _ t2 h1 (λx hx=>(h2.mem hx).2) (apU _);rcases hr with⟨h0,hr⟩|⟨e',uo,w1,LD,hr⟩
     ·refine fy (by rw[ho];simp) hs cm (v:= .tuple #[.bool false]) ?_ (.bz _ _ rfl λi u c hu hc=> ?_) (hK2 λb fB=> ?_)
      ·unfold execOp;simp [ho,ptr e1,hr]
      ·match i with
       |0=>cases hu;cases hc;exact .d (.v _)
       |i+1=>simp at hu
      ·have aH:b<es.size:=by rw[<-h2.all];exact fB
       have Hl:es[b]?=some es[b]:=ap5 aH;have F5:=h2.ok.born b _ Hl;have Of:leftOf es sn.2.toArray= #[]:=Array.eq_empty_of_size_eq_zero h0;unfold leftOf at Of;rw[Array.filter_eq_empty_iff]at Of;have:=Of es[b] (Array.getElem_mem aH);rw[F5]at this
       simpa using this
     ·have hm:e'∈es.toList/\e'.born ∉ sn.2:=by
       unfold leftOf at uo;simp only[Array.toList_filter,List.mem_filter]at uo;exact⟨uo.1,by simpa using uo.2⟩
      obtain⟨q1,q2⟩:=h2.mem hm.1;obtain⟨p,p1,p2,p3⟩:=h2.ord _ _ q1;have hK:=hK1 e'.born p p1 hm.2;obtain⟨ib,nM⟩:bI G.N G w G w1/\bD G w1 s.h:=by
       rcases LD with rfl|rfl
       ·exact⟨bI.refl _ _ _,hs.inv⟩
       ·exact an1 hs.inv
      obtain⟨t1',t2',_⟩:=Kz nM hn;obtain⟨z1,z2,z3,z4,z5,z6,z7⟩:=nM.cD m _ hn;obtain⟨gX,sP⟩:=Qi (B':= .it (sn.1,sn.2++[e'.born]) [.mp mb]) (yK:= .mapIter (some (G.aI mb)) kv.length (sn.2.toArray.push e'.born) kv.length) nM hn rfl t1' t2' (.inr rfl) λw' ir eQ hE=>by
       have hvv:=(Kz nM hn).2.2;refine⟨z1,z2,G.aI mb, #[.map (some (G.aI mb))],(),?_,⟨rfl,rfl⟩,λi u c hu hc=> ?_⟩
       ·rw[eQ];simp [hc]
       ·match i with
        |0=>cases hu;cases hc;exact hvv.aT hE (apU _)
        |i+1=>simp at hu
      refine mm (by rw[ho];simp) hs cm (v:= .tuple #[.bool true,e'.key,e'.val]) ?_ (ib.trans gX) (apU _) sP (.bz _ _ rfl λi u c hu hc=> ?_) hK
      ·unfold execOp;simp only[ho,ptr e1];simp [hr];rfl
      ·match i with
       |0=>cases hu;cases hc;exact .d (.v _)
       |1=>cases hu;cases hc;rw[p2];exact .d (.v _)
       |2=>cases hu;cases hc;exact .d (p3.aT (ib.trans gX).S (ib.trans gX).cell)
       |i+3=>simp at hu
    ·cases hx
   ·cases hx
  ·cases hx
 next it ho=>
  split at hx
  ·next m e1=>
   split at hx
   ·next sn mb hn=>
    split at hx
    ·next kv hb=>
     obtain⟨hc,l,b,p,hl,hp,hK⟩:=hx;obtain⟨es,h1,h2⟩:=QY hs.inv hb;obtain⟨t1,t2,t3⟩:=Kz hs.inv hn;have aH:b<es.size:=by rw[<-h2.all];exact(apJ.1 hp).1
     have Hl:es[b]?=some es[b]:=ap5 aH;have F5:=h2.ok.born b _ Hl;obtain⟨p',p1,p2,p3⟩:=h2.ord _ _ Hl;rw[hp]at p1;cases p1
     have gd:(es.toList.map (·.born)).Nodup:=by
      have e:es.toList.map (·.born)=List.range es.size:=by
       apply List.ext_getElem?;intro i;rw[apQ,ap6];by_cases hi:i<es.size
       ·rw[ap5 hi,Option.map_some,h2.ok.born i _ (ap5 hi),List.getElem?_range hi]
       ·rw[Array.getElem?_eq_none (by omega),aqf (by simp;omega)];rfl
      rw[e];exact List.nodup_range
     have hr:=run_entry_at (P:=P) w (G.aI m) (G.aI mb) sn.1 l.toArray es kv.length es[b] (by rw[t2,hl,F5,hc];simp) h1 (by simp) gd;refine fy (by rw[ho];simp) hs cm (v:= .tuple #[es[b].key,es[b].val]) ?_ (.bz _ _ rfl λi u c hu hc=> ?_) hK
     ·unfold execOp;simp [ho,ptr e1,hr]
     ·match i with
      |0=>cases hu;cases hc;rw[p2];exact .d (.v _)
      |1=>cases hu;cases hc;exact .d p3
      |i+2=>simp at hu
    ·cases hx
   ·cases hx
  ·cases hx
 next e ho=>
  split at hx
  ·next z hz=>
   obtain⟨hc,hK⟩:=hx;obtain⟨i1,i2⟩:=TA hs.inv e;exact mm (by rw[ho];simp) hs cm (by unfold execOp;simp [ho,Instr.alloc,Gz hz,newVar,newRow,hc]) (tu G w hs.inv.z hs.inv.S _) (Nat.le_succ _) i1 i2 hK
  ·cases hx
 next e x ho=>
  obtain⟨hx1,hK⟩:=hx;have hc:(a.eval x).cells= #[.pointer none, .slice none 0 0]:=by
   have hv:=db x;rw[hx1]at hv;generalize a.eval x=u at hv;cases hv with|agg vs _ hl hr=>
   obtain⟨l⟩:=vs
   match l,hl with
   |[p,q],_=>
    have h0:=(hr 0 p _ rfl rfl).val;have h1:=(hr 1 q _ rfl rfl).val;subst h0;subst h1;rfl
  obtain⟨i1,i2⟩:=TA hs.inv e;exact mm (by rw[ho];simp) hs cm (by unfold execOp;simp [ho,Instr.box,newVar,newRow,hc]) (tu G w hs.inv.z hs.inv.S _) (Nat.le_succ _) i1 i2 hK
 ·cases hx
end
def ig(ops:Array Oper)(o:Oper)(s:St)(yes no:Prop):Prop:=
 match o.guard with
 |none=>yes
 |some (j,want)=>match (ops[j]?).bind (·.dst)with
  |some d=>match bC s.t d with
   | .d (.v (.bool b))=>(b=want->yes)/\(b= !want->no)
   | .d (.v (.tuple _))=>no
   |_=>False
  |none=>False
structure bu(P:Program)(r:Option Nat)(N0:Nat)(c:Code)(Q:Exit->St->Prop)(s:St):Prop where
 run:∀(G:Gh)(w:World)(a:Act)(n:Nat),cG G w a s->N0<=G.N->c.wpIn (WF r) n P (λe a' w'=>iN N0 G w (Q e) a' w') a w
def gy(K:St->Prop)(Q:Exit->St->Prop):Exit->St->Prop
 | .normal,s=>K s
 |e,s=>Q e s
def mA:Nat->aqx AV->aqx (Nat×AV)
 |_,[]=>[]
 |k,x::l=>(k,x)::mA (k+1) l
theorem Re:∀(l:aqx AV)(k i:Nat),bC (mA k l) i=if k<=i then(l[i-k]?).getD .dead else .dead
 |[],k,i=>by simp [mA,bC]
 |x::l,k,i=>by
  rw[mA,nq,Re l (k+1) i];by_cases h:i=k
  ·subst h;simp
  ·rw[if_neg h];by_cases h2:k<=i
   ·rw[if_pos (by omega),if_pos h2,show i-k=i-(k+1)+1 by omega,aqk]
   ·rw[if_neg (by omega),if_neg h2]
def YS(P:aqA)(k:Nat)(x:AV)(h:aqx an)(C:Bool->aqx an->Prop):Prop:=
 ∀(G:Gh)(w:aqC)(v:aqB)(r:aqz Nat)(n:Nat),bD G w h->aD G w v x->k<G.N/\∃(p:Nat)(as bd:Code)(fn:FuncId)(tm:Array aqB)(D:Nat),
  w.heap[G.aI k]?=some (.loop {state:= .ready,pending:=none,fn:=fn,tmps:=tm,params:= #[p],assign:=as,body:=bd,defers:=D})/\
  RoundIn (WF r) n P (G.aI k) fn (tm.setIfInBounds p v) as bd w λe w'=>∃(b:Bool)(G':Gh)(h':aqx an),e= .returned (.bool b)/\bI G.N G w G' w'/\G.N<=G'.N/\bD G' w' h'/\C b h'
def aii(C:Bool->aqx an->Prop)(k:Nat):Exit->St->Prop
 | .normal,s2=>∃p as bd kD,s2.h[k]?=some (.lp .busy p as bd kD)/\C true (s2.h.set k (.lp .ready p as bd kD))
 | .ret,s2=>∃p as bd kD,s2.h[k]?=some (.lp .busy p as bd kD)/\C false (s2.h.set k (.lp (.done .ret) p as bd kD))
 | .exit i,s2=>∃p as bd kD,s2.h[k]?=some (.lp .busy p as bd kD)/\C false (s2.h.set k (.lp (.done (.exit i)) p as bd kD))
 |_,_=>False
def I8(P:aqA)(o:Oper)(K:St->Prop)(s:St):Prop:=
 match o.op with
 | .call c=>match c.callee with
   | .value f=>match ev s f,c.args.toList.map (ev s)with
     | .cY k,[x]=>YS P k x s.h λb h'=>K ((s.wh h').put o.dst (.d (.v (.bool b))))
     |_,_=>False
   |_=>False
 |_=>False
def aeX(P:aqA)(o:Oper)(K:St->Prop)(s:St):Prop:=∃x h',BK P o.op (ev s) s.h=some (x,h')/\K ((s.wh h').put o.dst x)
def n5(P:aqA)(o:Oper)(K:St->Prop)(s:St):Prop:=G9 P o K s\/FE P o K s\/qG P o K s\/I8 P o K s\/aeX P o K s\/qN P o K s
def iM(P:aqA)(ops:Array Oper):aqx Oper->(St->Prop)->St->Prop
 |[],K,s=>K s
 |o::rest,K,s=>ig ops o s (n5 P o (iM P ops rest K) s) (iM P ops rest K (s.put o.dst (.d (.v undef))))
def rE(id:Nat)(Q:Exit->St->Prop):Exit->St->Prop
 | .exit qL,s=>bif qL==id then Q .normal s else Q (.exit qL) s
 |e,s=>Q e s
section
variable {P:aqA} {r:aqz Nat} {n N0:Nat} {G:Gh} {w:aqC} {a:Act} {s:St} {o:Oper} {Q:Exit->St->Prop}
theorem iN.mono{K K':St->Prop}(h:∀s,K s->K' s){a':Act}{w':aqC}(hn:iN N0 G w K a' w'):iN N0 G w K' a' w':=
 let ⟨G',s',h1,h2,h3,h4⟩:=hn;⟨G',s',h1,h2,h3,h _ h4⟩
theorem iN.trans{K:St->Prop}{G1:Gh}{w1:aqC}(hE:bI N0 G w G1 w1){a':Act}{w':aqC}(hn:iN N0 G1 w1 K a' w'):iN N0 G w K a' w':=
 let ⟨G',s',h1,h2,h3,h4⟩:=hn;⟨G',s',hE.trans h1,h2,h3,h4⟩
theorem bu.mono{c:Code}{Q':Exit->St->Prop}(h:bu P r N0 c Q s)(hq:∀e s,Q e s->Q' e s):bu P r N0 c Q' s:=
 ⟨λG w a n hs hN=>wpIn_mono (h.run G w a n hs hN) λe _ _ hn=>hn.mono (hq e)⟩
theorem Ov{ops:Array Oper}{yes no:Prop}(hs:cG G w a s)(h:ig ops o s yes no):if Region.wanted o (yielded ops a.tmps)then yes else no:=by
 unfold ig at h;split at h
 ·rename_i hg
  rw[if_pos (by simp [Region.wanted,hg])];exact h
 ·rename_i j want hg
  split at h
  ·rename_i d hd
   have hv:=hs.tmp d;split at h
   ·rename_i b hb
    rw[hb]at hv;have e:=hv.bool;have hy:yielded ops a.tmps j=some b:=by
      unfold yielded;rw[hd,apI];by_cases aH:d<a.tmps.size
      ·rw[ap5 aH];have:a.tmps.getD d undef=a.tmps[d]:=by simp [Array.getD,aH]
       rw[this]at e;rw[e]
      ·have:a.tmps.getD d undef=undef:=by simp [Array.getD,aH]
       rw[this]at e;cases e
    by_cases zb:b=want
    ·rw[if_pos (by simp [Region.wanted,hg,hy,zb])];exact h.1 zb
    ·rw[if_neg (by simp [Region.wanted,hg,hy,zb])];exact h.2 (by cases b<;>cases want<;>simp_all)
   ·rename_i vs hb
    rw[hb]at hv;have e:=hv.val;have hy:yielded ops a.tmps j=none:=by
      unfold yielded;rw[hd,apI];by_cases aH:d<a.tmps.size
      ·rw[ap5 aH];have:a.tmps.getD d undef=a.tmps[d]:=by simp [Array.getD,aH]
       rw[this]at e;rw[e]
      ·rw[Array.getElem?_eq_none (Nat.le_of_not_lt aH)]
    rw[if_neg (by simp [Region.wanted,hg,hy])];exact h
   ·exact h.elim
  ·exact h.elim
theorem YS.mono{k:Nat}{x:AV}{h:aqx an}{C C':Bool->aqx an->Prop}(hy:YS P k x h C)(hc:∀b h',C b h'->C' b h'):YS P k x h C':=λG w v r n hi hv=>
 let ⟨h0,p,as,bd,fn,tm,D,h1,h2⟩:=hy G w v r n hi hv
 ⟨h0,p,as,bd,fn,tm,D,h1,h2.mono λ_ _ ⟨b,G',h',a1,a2,a3,a4,a5⟩=>⟨b,G',h',a1,a2,a3,a4,hc _ _ a5⟩⟩
theorem anv{k:Nat}{x:AV}{h:aqx an}{C:Bool->aqx an->Prop}
 (hA:∃p as bd cs,h[k]?=some (.lp .ready p as bd cs)/\p<cs.length/\∀(l:Nat),bu P (some l) h.length as (gy (λs1=>∃p1 tU uw xr,s1.h[k]?=some (.lp .ready p1 tU uw xr)/\bu P (some l) h.length bd (aii C k) ⟨s1.n,s1.t,s1.h.set k (.lp .busy p1 tU uw xr)⟩) (λ_ _=>False)) ⟨cs.length,(p,x)::mA 0 cs,h⟩):YS P k x h C:=by
 intro G w v r n hi Ow;obtain⟨p,as,bd,cs,hk,hp,hA⟩:=hA;have Bu:k<G.N:=hi.lt hk;obtain⟨hS,fn,tm,D,h3,h4,h5,apw⟩:=HT hi hk;refine⟨Bu,p,as,bd,fn,tm,D,h3,?_⟩;refine roundIn_of_wpIn (F:=WF r) trivial ?_;have PM:cG G w {tmps:=tm.setIfInBounds p v,defers:=[]} ⟨cs.length,(p,x)::mA 0 cs,h⟩:=by
  refine⟨by simp [h4],λi=> ?_,hi,se.nil _ _⟩;show aD _ _ _ (bC ((p,x)::mA 0 cs) i);rw[nq];split
  ·next e=>
   subst e;have:(tm.setIfInBounds i v).getD i undef=v:=by simp [Array.getD,h4,hp]
   rw[this];exact Ow
  ·next e=>
   rw[Re];simp only[Nat.zero_le,if_true,Nat.sub_zero];cases ir:cs[i]? with
   |none=>exact .dead _
   |some y=>
    have aH:i<tm.size:=by rw[h4];exact(apJ.1 ir).1
    have:(tm.setIfInBounds p v).getD i undef=tm[i]:=by
     simp [Array.getD,aH,Ne.symm e]
    rw[this];exact h5 i _ y (ap5 aH) ir
 have JJ:=hA (G.aI k);rw[hi.len]at JJ;refine wpIn_mono (JJ.run G w _ n PM (apU _)) λe1 a1 w1 vM=> ?_;obtain⟨G1,s1,ib,gK,fj,A8⟩:=vM;cases e1 with
 |normal=>
  obtain⟨p1,tU,uw,xr,wo,iP⟩:=A8;have jk:G1.aI k=G.aI k:=ib.aI k Bu;obtain⟨_,fn1,tm1,D1,g3,g4,g5,Xd⟩:=HT fj.inv wo;obtain⟨gE,gI⟩:=Xd .busy;rw[jk]at g3 gE gI;refine⟨_,run_beginRound g3 rfl,?_⟩;have Ax:cG G1 (w1.putObj (G.aI k) (.loop {state:= .busy,pending:=none,fn:=fn1,tmps:=tm1,params:= #[p1],assign:=tU,body:=uw,defers:=D1})) a1 ⟨s1.n,s1.t,s1.h.set k (.lp .busy p1 tU uw xr)⟩:=fj.move gE (apU _) gI;refine wpIn_mono (iP.run G1 _ a1 n Ax gK) λe3 a3 w3 hn3=> ?_;obtain⟨G3,s3,Er,Uj,hs3,qQ⟩:=hn3;have fin:∀(jump:aqz Code)(ls:LS)(b:Bool)(p:Nat)(as bd:Code)(kD:aqx AV),s3.h[k]?=some (.lp .busy p as bd kD)->ls.pd=jump->ls.st=(if jump.isNone then .ready else .done)->jump.isNone=b->C b (s3.h.set k (.lp ls p as bd kD))->
   ∃v w',(Instr.endRound (G.aI k) jump).run P w3= .ok v w'/\∃(b:Bool)(G':Gh)(h':aqx an),(Ending.returned v:Ending)= .returned (.bool b)/\bI G.N G w G' w'/\G.N<=G'.N/\bD G' w' h'/\C b h':=λjump ls b p as bd kD hk3 q1 q2 q3 hK=>by
   have Jo:G3.aI k=G.aI k:=(Er.aI k Bu).trans jk;obtain⟨_,fn3,tm3,D3,z3,z4,z5,akj⟩:=HT hs3.inv hk3;obtain⟨zE,zI⟩:=akj ls;rw[Jo]at z3 zE zI;subst q1;have Fj:=run_endRound (P:=P) ls.pd z3;rw[<-q2]at Fj;refine⟨_,_,Fj,b,G3,_,by rw[q3],?_,Uj,zI,hK⟩;exact(ib.trans ((gE.less gK).trans Er)).trans (zE.less Uj)
  cases e3 with
  |normal=>obtain⟨p2,CJ,EA,kD,y1,y2⟩:=qQ;exact fin none .ready true p2 CJ EA kD y1 rfl rfl rfl y2
  |ret=>obtain⟨p2,CJ,EA,kD,y1,y2⟩:=qQ;exact fin (some .ret) (.done .ret) false p2 CJ EA kD y1 rfl rfl rfl y2
  |exit i=>obtain⟨p2,CJ,EA,kD,y1,y2⟩:=qQ;exact fin (some (.exit i)) (.done (.exit i)) false p2 CJ EA kD y1 rfl rfl rfl y2
  |_=>exact qQ.elim
 |_=>exact A8.elim
theorem ajM{K:St->Prop}{Q:Exit->Act->aqC->Prop}(hs:cG G w a s)(hN:N0<=G.N)(h:I8 P o K s):o.wpIn (WF r) n P a w (iN N0 G w K) Q:=by
 unfold I8 at h;split at h
 ·next c ho=>
  split at h
  ·next f hc=>
   split at h
   ·next k x hf hx=>
    have hv:=hs.ev f;rw[hf]at hv;have ea:a.eval f= .func (.yield (G.aI k)) #[] #[]:=by
     generalize a.eval f=u at hv;cases hv;rfl
    obtain⟨p1,p2⟩:=yG hs c.args;obtain⟨v,nR⟩:∃v,c.args.map a.eval= #[v]:=by
     have:(c.args.map a.eval).size=1:=by rw[p1,hx];rfl
     exact⟨(c.args.map a.eval)[0],Array.ext (by simp [this]) λi h1 h2=>by
      have:i=0:=by simp at h2;exact h2
      subst this;rfl⟩
    have Ow:aD G w v x:=p2 0 v x (by rw[nR];rfl) (by rw[hx];rfl);obtain⟨Bu,p,as,bd,fn,tm,D,h3,hA⟩:=h G w v r (n-1) hs.inv Ow;have gd:∀c',o.op≠ .defer c':=λc' e=>by rw[ho]at e;cases e
    have hy:=run_yield (P:=P) (args:= #[v]) h3 rfl;have dp:(o.semAt (WF r).round a.eval).run P w= .ok (.round (G.aI k) fn (tm.setIfInBounds p v) as bd) w:=by
     rw[Oper.semAt_eq _ _ _ gd];unfold execOp;simp only[ho,resolve,hc,ea];simp [Deferred.ofValue,invoke,nR,hy]
    unfold Oper.wpIn;refine⟨λg hg=>trivial,?_⟩;rw[dp,Oper.uponIn_round];refine⟨λh=>(by simp [WF,Fence.wide]at h),hA.mono λe w' hp=> ?_⟩;obtain⟨b,G',h',rfl,hE,WE,de,hK⟩:=hp;exact⟨G',_,hE.less hN,ap1 hN WE,(hs.move hE WE de).put (.d (.v _)) o.dst,hK⟩
   ·exact h.elim
  ·exact h.elim
 ·exact h.elim
theorem ada{K:St->Prop}{Q:Exit->Act->aqC->Prop}(hs:cG G w a s)(hN:N0<=G.N)(h:n5 P o K s):o.wpIn (WF r) n P a w (iN N0 G w K) Q:=by
 rcases h with h|h|h|h|⟨x,h',h,hK⟩|h
 ·exact OY hs hN (.inl h)
 ·exact OY hs hN (.inr (.inl h))
 ·exact OY hs hN (.inr (.inr h))
 ·exact ajM hs hN h
 ·exact ajg hs hN h hK
 ·exact amd hs hN h
theorem Pe{ops:Array Oper}{K:St->Prop}{Q':Exit->Act->aqC->Prop}(hQ:∀a' w',iN N0 G w K a' w'->Q' .normal a' w'):∀(l:aqx Oper)(k:Nat),(∀j,l[j]?=ops[k+j]?)->∀(G1:Gh)(w1:aqC)(a:Act)(s:St),
 bI N0 G w G1 w1->N0<=G1.N->cG G1 w1 a s->iM P ops l K s->wpOpsIn (WF r) n P ops Q' (List.range' k l.length) a w1
 |[],k,_,G1,w1,a,s,hE,hN,hs,h=>hQ _ _ ⟨G1,s,hE,hN,hs,h⟩
 |o::l,k,hl,G1,w1,a,s,hE,hN,hs,h=>by
  have h0:ops[k]?=some o:=by simpa using (hl 0).symm
  have qc:∀j,l[j]?=ops[k+1+j]?:=λj=>by have:=hl (j+1);simpa [Nat.add_assoc,Nat.add_comm 1 j]using this
  have hg:=Ov hs h;simp only[apM,List.range'_succ,wpOpsIn,h0];split
  ·rename_i hw
   rw[if_pos hw]at hg;exact Oper.wpIn_mono (λa' w' hn=>by
     obtain⟨G2,s2,e2,n2,RK,k2⟩:=hn;exact Pe hQ l (k+1) qc G2 w' a' s2 (hE.trans e2) n2 RK k2) (ada hs hN hg)
  ·rename_i hw
   rw[if_neg hw]at hg;exact⟨λ_ _=>trivial,Pe hQ l (k+1) qc G1 w1 _ _ hE hN (hs.put (.d (.v undef)) o.dst) hg⟩
theorem fP{id:Nat}{ops:Array Oper}(h:iM P ops ops.toList (Q .normal) s):bu P r N0 (.region id ops false) Q s:=by
 constructor
 intro G w a n hs hN;refine wpIn_region ?_;rw[List.range_eq_range',<-aqg];exact Pe (G:=G) (w:=w) (K:=Q .normal) (λ_ _ h=>h) ops.toList 0 (by simp) G w a s (bI.refl _ _ _) hN hs h
theorem jn(h:Q .normal s):bu P r N0 .skip Q s:=⟨λG _ _ _ hs hN=>wpIn_skip ⟨G,s,bI.refl _ _ _,hN,hs,h⟩⟩
theorem gN(h:Q .ret s):bu P r N0 .ret Q s:=⟨λG _ _ _ hs hN=>wpIn_ret ⟨G,s,bI.refl _ _ _,hN,hs,h⟩⟩
theorem wJ{id:Nat}(h:Q (.exit id) s):bu P r N0 (.exit id) Q s:=⟨λG _ _ _ hs hN=>wpIn_exit ⟨G,s,bI.refl _ _ _,hN,hs,h⟩⟩
theorem bW{x y:Code}(h:bu P r N0 x (gy (λs'=>bu P r N0 y Q s') Q) s):bu P r N0 (.seq x y) Q s:=by
 constructor
 intro G w a n hs hN;refine wpIn_seq (wpIn_mono (h.run G w a n hs hN) λe a1 w1 hn=> ?_);obtain⟨G1,s1,hE,gK,fj,hq⟩:=hn;cases e with
 |normal=>exact wpIn_mono (hq.run G1 w1 a1 n fj gK) λ_ _ _ hn=>hn.trans hE
 |_=>exact⟨G1,s1,hE,gK,fj,hq⟩
theorem DC{c:Operand}{x y:Code}{t:Bool}(hc:ev s c= .d (.v (.bool t)))(h1:t=true->bu P r N0 x Q s)(h2:t=false->bu P r N0 y Q s):bu P r N0 (.cond c x y) Q s:=by
 constructor
 intro G w a n hs hN;have hb:=hs.ev c;rw[hc]at hb;exact wpIn_cond_split hb.bool (λe=>(h1 e).run G w a n hs hN) (λe=>(h2 e).run G w a n hs hN)
theorem ky{id:Nat}{c:Code}(h:bu P r N0 c (rE id Q) s):bu P r N0 (.block id c) Q s:=by
 constructor
 intro G w a n hs hN;refine wpIn_block (wpIn_mono (h.run G w a n hs hN) λe a1 w1 hn=> ?_);obtain⟨G1,s1,hE,gK,fj,hq⟩:=hn;cases e with
 |exit qL=>
  by_cases he:qL=id
  ·simp only[rE,he,BEq.rfl,cond_true]at hq;simp only[Exit.inBlock,if_pos he];exact⟨G1,s1,hE,gK,fj,hq⟩
  ·have hbe:(qL==id)=false:=by simpa using he
   simp only[rE,hbe,cond_false]at hq;simp only[Exit.inBlock,if_neg he];exact⟨G1,s1,hE,gK,fj,hq⟩
 |_=>exact⟨G1,s1,hE,gK,fj,hq⟩
theorem Pd{F:Fence}{c:Code}{Q:Exit->Act->aqC->Prop}{ι:Type}(I:ι->Act->aqC->Prop)(μ:ι->Nat)(i0:ι)(h₀:I i0 a w)
 (round:∀i a w,I i a w->c.wpIn F n P (Exit.then (λa' w'=>∃i',I i' a' w'/\μ i'<μ i) Q) a w):(Code.loop c).wpIn F n P Q a w:=by
 intro b k cs zY hb hr;have key:∀j i a w,μ i=j->I i a w->
  ∃e a' w',Q e a' w'/\ArrivesIn (Machine.fenced P F) P (lone (b.atR a (.code c:: .inLoop c::k)) cs w) b k cs e a' w':=by
  intro j
  induction j using Nat.strongRecOn with
  |_ j ih=>
   intro i a w hn hI;obtain⟨e,a₁,w₁,hq,vW⟩:=round i a w hI b (.inLoop c::k) cs zY hb hr;cases e with
   |normal=>
    obtain⟨i',hI₁,aH⟩:=hq;obtain⟨e₂,a₂,w₂,hq₂,aoa⟩:=ih (μ i') (hn▸aH) i' a₁ w₁ rfl hI₁;exact⟨e₂,a₂,w₂,hq₂, .of_steps (StepsIn.trans vW (.one (fenced_calm hb hr rfl) stepR_inLoop)) aoa⟩
   |exit id=>exact⟨_,a₁,w₁,hq, .pass (x:= .inLoop c) rfl (λ_ _=> .inl (by simp)) vW⟩
   |goto l=>exact⟨_,a₁,w₁,hq, .pass (x:= .inLoop c) rfl (λ_ _=> .inl (by simp)) vW⟩
   |ret=>exact⟨_,a₁,w₁,hq, .pass (x:= .inLoop c) rfl (λ_ _=> .inl (by simp)) vW⟩
   |panic ch=>exact⟨_,a₁,w₁,hq, .pass (x:= .inLoop c) rfl (λ_ _=> .inl (by simp)) vW⟩
   |outgrown=>exact⟨_,a₁,w₁,hq, .pass (x:= .inLoop c) rfl (λ_ _=> .inl (by simp)) vW⟩
 obtain⟨e,a',w',hq,vW⟩:=key _ i0 a w rfl h₀;exact⟨e,a',w',hq, .of_steps (.one (fenced_calm hb hr rfl) stepR_loop) vW⟩
end
mutual
def AV.bw(m:Nat):AV->AV
 | .own n xs=>bif cn m n then .d (.sl xs)else .own n xs
 | .agg cs=> .agg (AV.p7 m cs)
 | .bz cs=> .bz (AV.p7 m cs)
 | .fn f cs=> .fn f (AV.p7 m cs)
 |x=>x
def AV.p7(m:Nat):aqx AV->aqx AV
 |[]=>[]
 |x::l=>x.bw m::AV.p7 m l
end
mutual
def AV.aQ(m:Nat):AV->Bool
 | .own n _| .ptr n _| .row n _ _ _ _| .mp n| .cY n| .vec n _ _ _ _| .dq n _ _ _ _=> !cn m n
 | .agg cs=>AV.oH m cs
 | .bz cs=>AV.oH m cs
 | .fn _ cs=>AV.oH m cs
 |_=>true
def AV.oH(m:Nat):aqx AV->Bool
 |[]=>true
 |x::l=>x.aQ m&&AV.oH m l
end
theorem CO(m:Nat):∀l,AV.p7 m l=l.map (AV.bw m)
 |[]=>by simp [AV.p7]
 |x::l=>by simp [AV.p7,CO m l]
theorem np(m:Nat):∀l,AV.oH m l=l.all (AV.aQ m)
 |[]=>by simp [AV.oH]
 |x::l=>by simp [AV.oH,np m l]
def an.bw(m:Nat):an->an
 | .cells cs=> .cells (cs.map (AV.bw m))
 | .lp ls p as bd cs=> .lp ls p as bd (cs.map (AV.bw m))
 | .it sn cs=> .it sn (cs.map (AV.bw m))
 | .aV T cs=> .aV T (cs.map (AV.bw m))
 | .vec e k cs=> .vec e k (cs.map (·.map (AV.bw m)))
 |B=>B
def an.aQ(m:Nat):an->Bool
 | .cells cs=>cs.all (AV.aQ m)
 | .lp _ _ _ _ cs=>cs.all (AV.aQ m)
 | .it _ cs=>cs.all (AV.aQ m)
 | .aV _ cs=>cs.all (AV.aQ m)
 | .vec _ _ cs=>cs.all (·.all (AV.aQ m))
 |_=>true
theorem aD.bw{G:Gh}{w:aqC}(m:Nat){u:aqB}{x:AV}(h:aD G w u x):aD G w u (x.bw m):=by
 have gk:∀(vs:Array aqB)(cs:aqx AV),(∀(i:Nat)(u:aqB)(c:AV),vs[i]?=some u->cs[i]?=some c->aD G w u (c.bw m))->∀(i:Nat)(u:aqB)(c:AV),vs[i]?=some u->(AV.p7 m cs)[i]?=some c->aD G w u c:=by
  intro vs cs ih i u c hu hc;rw[CO,apQ]at hc;cases hx:cs[i]? with
  |none=>rw[hx]at hc;cases hc
  |some x=>rw[hx]at hc;cases hc;exact ih i u x hu hx
 induction h with
 |agg vs cs hl _ ih=>rw[AV.bw];exact .agg vs _ (by rw[CO,apO];exact hl) (gk vs cs ih)
 |bz vs cs hl _ ih=>rw[AV.bw];exact .bz vs _ (by rw[CO,apO];exact hl) (gk vs cs ih)
 |fn f vs cs hl _ ih=>rw[AV.bw];exact .fn f vs _ (by rw[CO,apO];exact hl) (gk vs cs ih)
 |own n xs h hp hle hf=>
  rw[AV.bw,cond_eq_ite];split
  ·exact .d hp
  ·exact .own n xs h hp hle hf
 |d h=>simp only[AV.bw];exact .d h
 |ptr n off h=>simp only[AV.bw];exact .ptr n off h
 |bJ xs i off b o u x hx hS hu=>simp only[AV.bw];exact .bJ xs i off b o u x hx hS hu
 |full xs hp hf=>simp only[AV.bw];exact .full xs hp hf
 |row n off len cap k h hl hm=>simp only[AV.bw];exact .row n off len cap k h hl hm
 |mp n h=>simp only[AV.bw];exact .mp n h
 |cY n h=>simp only[AV.bw];exact .cY n h
 |vec n o len L k h hs hL hf=>simp only[AV.bw];exact .vec n o len L k h hs hL hf
 |dq n i j L k h hs hL hf=>simp only[AV.bw];exact .dq n i j L k h hs hL hf
 |hid h h1=>simp only[AV.bw];exact .hid h h1
 |dead u=>simp only[AV.bw];exact .dead u
def Gh.cut(G:Gh)(m:Nat):Gh:={G with N:=m}
theorem aD.cut{G:Gh}{w:aqC}{m:Nat}{u:aqB}{x:AV}(h:aD G w u x)(hb:x.aQ m=true):aD (G.cut m) w u x:=by
 induction h with
 |agg vs cs hl _ ih=>
  rw[AV.aQ,np,ap9]at hb;exact .agg vs cs hl λi u c hu hc=>ih i u c hu hc (hb c (apW hc))
 |bz vs cs hl _ ih=>
  rw[AV.aQ,np,ap9]at hb;exact .bz vs cs hl λi u c hu hc=>ih i u c hu hc (hb c (apW hc))
 |fn f vs cs hl _ ih=>
  rw[AV.aQ,np,ap9]at hb;exact .fn f vs cs hl λi u c hu hc=>ih i u c hu hc (hb c (apW hc))
 |own n xs h hp hle hf=>rw[AV.aQ]at hb;exact .own n xs (show n<m by rw[Bool.not_eq_true',<-Bool.not_eq_true,dI]at hb;omega) hp hle hf
 |ptr n off h=>rw[AV.aQ]at hb;exact .ptr (G:=G.cut m) n off (show n<m by rw[Bool.not_eq_true',<-Bool.not_eq_true,dI]at hb;omega)
 |row n off len cap k h hl hm=>rw[AV.aQ]at hb;exact .row (G:=G.cut m) n off len cap k (show n<m by rw[Bool.not_eq_true',<-Bool.not_eq_true,dI]at hb;omega) hl hm
 |mp n h=>rw[AV.aQ]at hb;exact .mp (G:=G.cut m) n (show n<m by rw[Bool.not_eq_true',<-Bool.not_eq_true,dI]at hb;omega)
 |cY n h=>rw[AV.aQ]at hb;exact .cY (G:=G.cut m) n (show n<m by rw[Bool.not_eq_true',<-Bool.not_eq_true,dI]at hb;omega)
 |vec n o len L k h hs hL hf=>rw[AV.aQ]at hb;exact .vec (G:=G.cut m) n o len L k (show n<m by rw[Bool.not_eq_true',<-Bool.not_eq_true,dI]at hb;omega) hs hL hf
 |dq n i j L k h hs hL hf=>rw[AV.aQ]at hb;exact .dq (G:=G.cut m) n i j L k (show n<m by rw[Bool.not_eq_true',<-Bool.not_eq_true,dI]at hb;omega) hs hL hf
 |hid h h1=>exact .hid (G:=G.cut m) h h1
 |d h=>exact .d h
 |bJ xs i off b o u x hx hS hu=>exact .bJ xs i off b o u x hx hS hu
 |full xs hp hf=>exact .full xs hp hf
 |dead u=>exact .dead u
def St.mask(s:St)(live:aqx Nat)(m:Nat):St:={s with t:=live.map λk=>(k,(bC s.t k).bw m),h:=(s.h.take m).map (an.bw m)}
def St.zS(s:St)(live:aqx Nat)(m:Nat):Prop:=m<=s.h.length/\(live.all λk=>((bC s.t k).bw m).aQ m)=true/\(((s.h.take m).map (an.bw m)).all (an.aQ m))=true
theorem tY(f:Nat->AV):∀(live:aqx Nat)(i:Nat),bC (live.map λk=>(k,f k)) i=if i∈live then f i else .dead
 |[],i=>by simp [bC]
 |k::l,i=>by
  simp only[ap8,nq,tY f l i,aqd];by_cases h:i=k
  ·subst h;simp
  ·simp [h]
theorem Th{G:Gh}{w:aqC}{h:aqx an}(hi:bD G w h){m:Nat}(hm:m<=h.length)(hb:(((h.take m).map (an.bw m)).all (an.aQ m))=true):bD (G.cut m) w ((h.take m).map (an.bw m)):=by
 have eC:∀(n:Nat)(B:an),((h.take m).map (an.bw m))[n]?=some B->n<m/\∃B',h[n]?=some B'/\B=B'.bw m/\(B'.bw m).aQ m=true:=λn B hB=>by
  have wO:=ap9.1 hb B (apW hB);rw[apQ,List.getElem?_take]at hB;split at hB
  ·rename_i hn
   cases hx:h[n]? with
   |none=>rw[hx]at hB;cases hB
   |some B'=>rw[hx]at hB;cases hB;exact⟨hn,B',rfl,rfl,wO⟩
  ·cases hB
 have dS:∀n b,bM ((h.take m).map (an.bw m)) (G.cut m) n=some b->bM h G n=some b:=λn b hb=>by
  obtain⟨B,hB,hb⟩:=od hb;obtain⟨_,B',h1,rfl,_⟩:=eC n B hB;rw[dc h1,<-hb];cases B'<;>rfl
 refine⟨by simp [Gh.cut];omega,hi.z,hi.S,λn B hB=> ?_,λi j b h1 h2=>hi.inj i j b (dS i b h1) (dS j b h2),hi.gl⟩;obtain⟨hn,B',h1,rfl,wO⟩:=eC n B hB;have dC:=hi.cD n B' h1;cases B' with
 |gone=>trivial
 |front e k len=>exact dC
 |bm e b=>exact dC
 |map kv=>exact dC
 |fV kv=>exact dC
 |vec e k cs=>
  obtain⟨c1,c2,c3,c4⟩:=dC;refine⟨by rw[apO];exact c1,by rw[apO];exact c2,λc hc=> ?_,?_⟩
  ·obtain⟨x,hx,rfl⟩:=List.mem_map.1 hc;rw[apO];exact c3 x hx
  ·rcases c4 with⟨d1,d2,A,d3⟩|⟨g,cap,cur,d1,d2,d3,d4,d5,d6,d7,d8,d9⟩
   ·exact .inl ⟨d1,by rw[d2];rfl,A,d3⟩
   ·refine .inr ⟨g,cap,cur,d1,by rw[apO];exact d2,d3,d4,by rw[apO];exact d5,d6,d7,d8,λi j c x u hc hx hu=> ?_⟩;simp only[an.bw,an.aQ,ap9]at wO;rw[apQ]at hc;cases hy:cs[i]? with
    |none=>rw[hy]at hc;cases hc
    |some y=>
     rw[hy]at hc;cases hc
     have hz:=hx;rw[apQ]at hx;cases hw:y[j]? with
     |none=>rw[hw]at hx;cases hx
     |some z=>
      rw[hw]at hx;cases hx
      exact((d9 i j y z u hy hw hu).bw m).cut (wO _ (List.mem_map.2 ⟨y,apW hy,rfl⟩) _ (apW hz))
 |cells cs=>
  obtain⟨c1,c2,vs,T,c3,c4,c5⟩:=dC;refine⟨c1,c2,vs,T,c3,by rw[apO];exact c4,λi u c hu hc=> ?_⟩;have hmem:=apW hc;rw[apQ]at hc;cases hx:cs[i]? with
  |none=>rw[hx]at hc;cases hc
  |some x=>
   rw[hx]at hc;cases hc
   exact((c5 i u x hu hx).bw m).cut (ap9.1 wO _ hmem)
 |lp ls p as bd cs=>
  obtain⟨c1,c2,fn,vs,T,c3,c4,c5⟩:=dC;refine⟨c1,c2,fn,vs,T,c3,by rw[apO];exact c4,λi u c hu hc=> ?_⟩;have hmem:=apW hc;rw[apQ]at hc;cases hx:cs[i]? with
  |none=>rw[hx]at hc;cases hc
  |some x=>
   rw[hx]at hc;cases hc
   exact((c5 i u x hu hx).bw m).cut (ap9.1 wO _ hmem)
 |it sn cs=>
  obtain⟨c1,c2,fn,vs,T,c3,c4,c5⟩:=dC;refine⟨c1,c2,fn,vs,T,c3,by rw[apO];exact c4,λi u c hu hc=> ?_⟩;have hmem:=apW hc;rw[apQ]at hc;cases hx:cs[i]? with
  |none=>rw[hx]at hc;cases hc
  |some x=>
   rw[hx]at hc;cases hc
   exact((c5 i u x hu hx).bw m).cut (ap9.1 wO _ hmem)
 |aV T0 cs=>
  obtain⟨c1,c2,fn,vs,T,c3,c4,c5⟩:=dC;refine⟨c1,c2,fn,vs,T,c3,by rw[apO];exact c4,λi u c hu hc=> ?_⟩;have hmem:=apW hc;rw[apQ]at hc;cases hx:cs[i]? with
  |none=>rw[hx]at hc;cases hc
  |some x=>
   rw[hx]at hc;cases hc
   exact((c5 i u x hu hx).bw m).cut (ap9.1 wO _ hmem)
theorem qA(N:Nat)(G:Gh)(w:aqC)(m:Nat):bI N G w (G.cut m) w:=
 ⟨apU _,λ_ _ h=>h,λ_ _ _=>rfl,λ_ _=>rfl,λ_ _=> .inl ⟨rfl,rfl⟩,gp rfl,λ_ _=>rfl,rfl,rfl,rfl,λ_ _ h=> .inl h⟩
section
variable {P:aqA} {r:aqz Nat} {n N0:Nat} {G:Gh} {w:aqC} {a:Act} {s:St} {o:Oper} {Q:Exit->St->Prop}
theorem cG.mask(hs:cG G w a s){live:aqx Nat}{m:Nat}(h:s.zS live m):cG (G.cut m) w a (s.mask live m):=by
 obtain⟨h1,h2,h3⟩:=h;refine⟨hs.size,λi=> ?_,Th hs.inv h1 h3,hs.df⟩;show aD _ _ _ (bC (live.map λk=>(k,(bC s.t k).bw m)) i);rw[tY (λk=>(bC s.t k).bw m)];split
 ·rename_i hi
  exact((hs.tmp i).bw m).cut (ap9.1 h2 i hi)
 ·exact .dead _
theorem NG{c:Code}{ι:Type}(live:aqx Nat)(m:Nat)(st:ι->St)(I:ι->Prop)(μ:ι->Nat)(i0:ι)(hm:N0<=m)(bQ:s.zS live m)(h0:s.mask live m=st i0)(hI:I i0)
 (round:∀i,I i->bu P r N0 c (gy (λs'=>s'.zS live m/\∃i',s'.mask live m=st i'/\I i'/\μ i'<μ i) Q) (st i)):bu P r N0 (.loop c) Q s:=by
 constructor
 intro G w a n hs _;refine Pd (λ(i:ι) a' w'=>∃G',I i/\bI N0 G w G' w'/\N0<=G'.N/\cG G' w' a' (st i)) μ i0 ⟨G.cut m,hI,qA _ _ _ _,hm,h0▸hs.mask bQ⟩ ?_;rintro i a' w' ⟨G',hi,hE,hN,ct⟩;refine wpIn_mono ((round i hi).run G' w' a' n ct hN) λe a1 w1 hn=> ?_;obtain⟨G1,s1,ib,gK,fj,hq⟩:=hn;cases e with
 |normal=>
  obtain⟨af6,i',h1,h2,h3⟩:=hq;exact⟨i',⟨G1.cut m,h2,(hE.trans ib).trans (qA _ _ _ _),hm,h1▸fj.mask af6⟩,h3⟩
 |_=>exact⟨G1,s1,hE.trans ib,gK,fj,hq⟩
def nh(P:aqA)(s:St):aqx ResultVar->(aqx AV->Prop)->Prop
 |[],C=>C []
 | .tmp t::l,C=>nh P s l λxs=>C (bC s.t t::xs)
 | .cell p t::l,C=>oK P t s.h (bC s.t p) λx=>nh P s l λxs=>C (x::xs)
def kP:aqx AV->AV
 |[x]=>x
 |l=> .bz l
def tN(P:aqA)(fn:Func)(m:Nat)(K:AV->aqx an->Prop)(s:St):Prop:=
 nh P s fn.results.toList λl=>m<=s.h.length/\((kP l).bw m).aQ m=true/\(((s.h.take m).map (an.bw m)).all (an.aQ m))=true/\K ((kP l).bw m) ((s.h.take m).map (an.bw m))
def JG(P:aqA)(fn:Func)(m:Nat)(K:AV->aqx an->Prop):Exit->St->Prop
 | .normal,s=>tN P fn m K s
 | .ret,s=>tN P fn m K s
 |_,_=>False
theorem aj4{C:aqx AV->Prop}(hs:cG G w a s)(g:ResultVar->Sem aqB)(Oe:∀t,g (.tmp t)=pure (a.tmps.getD t undef))(EO:∀p t,g (.cell p t)=(do loadVar t (<-asAddr (a.tmps.getD p undef)))):
 ∀(l:aqx ResultVar),nh P s l C->∃(vs:aqx aqB)(xs:aqx AV),(l.mapM g).run P w= .ok vs w/\vs.length=xs.length/\(∀(i:Nat)(u:aqB)(c:AV),vs[i]?=some u->xs[i]?=some c->aD G w u c)/\C xs:=by
 intro l
 induction l generalizing C with
 |nil=>exact λh=>⟨[],[],by simp,rfl,λi u c hu=>by simp at hu,h⟩
 |cons x l ih=>
  intro h;cases x with
  |tmp t=>
   obtain⟨vs,xs,h1,h2,h3,h4⟩:=ih h;refine⟨a.tmps.getD t undef::vs,bC s.t t::xs,by simp only[List.mapM_cons,Oe,Sem.run_bind,Sem.run_pure,Result.andThen_ok,h1],by simp [h2],λi u c hu hc=> ?_,h4⟩
   match i with
   |0=>simp only[List.getElem?_cons_zero,Option.some.injEq]at hu hc;subst hu;subst hc;exact hs.tmp t
   |i+1=>exact h3 i u c (by simpa using hu) (by simpa using hc)
  |cell p t=>
   obtain⟨u0,x0,r1,r2,r3⟩:=aa3 (P:=P) hs.inv (hs.tmp p) h;obtain⟨vs,xs,h1,h2,h3,h4⟩:=ih r3;have hv:=hs.tmp p;have e:∃ad,a.tmps.getD p undef= .pointer (some ad):=by
    have h':oK P t s.h (bC s.t p) λx=>nh P s l λxs=>C (x::xs):=h;generalize a.tmps.getD p undef=v at hv r1;generalize bC s.t p=y at hv h';cases hv with
    |ptr=>exact⟨_,rfl⟩
    |bJ=>exact⟨_,rfl⟩
    |_=>exact(show False from h').elim
   obtain⟨ad,e⟩:=e;rw[e]at r1;have r1':(loadVar t ad).run P w= .ok u0 w:=by simpa [Instr.loadAt,Instr.sureAddr]using r1
   have ha:(asAddr (a.tmps.getD p undef)).run P w= .ok ad w:=by rw[e];rfl
   refine⟨u0::vs,x0::xs,by simp only[List.mapM_cons,EO,Sem.run_bind,Sem.run_pure,Result.andThen_ok,h1,ha,r1'],by simp [h2],λi u c hu hc=> ?_,h4⟩
   match i with
   |0=>simp only[List.getElem?_cons_zero,Option.some.injEq]at hu hc;subst hu;subst hc;exact r2
   |i+1=>exact h3 i u c (by simpa using hu) (by simpa using hc)
theorem aio:∀(vs:aqx aqB)(xs:aqx AV),vs.length=xs.length->(∀(i:Nat)(u:aqB)(c:AV),vs[i]?=some u->xs[i]?=some c->aD G w u c)->aD G w (if h:vs.toArray.size=1 then vs.toArray[0]else .tuple vs.toArray) (kP xs)
 |[v],[x],_,h=>h 0 v x rfl rfl
 |[],[],_,_=> .bz _ _ rfl λi u c hu=>by simp at hu
 |v::u::vs,x::y::xs,hl,h=>by
  have:¬(v::u::vs).toArray.size=1:=by simp
  rw[dif_neg this];exact .bz _ _ (by simpa using hl) λi p q hp hq=>h i p q (by simpa using hp) hq
 |[],_::_,hl,_=>by simp at hl
 |_::_,[],hl,_=>by simp at hl
 |[_],_::_::_,hl,_=>by simp at hl
 |_::_::_,[_],hl,_=>by simp at hl
theorem apd{fn:Func}{m:Nat}{K:AV->aqx an->Prop}(hs:cG G w a s)(h:tN P fn m K s):∃v G' r h',(results fn a.tmps).run P w= .ok v w/\bI N0 G w G' w/\m<=G'.N/\bD G' w h'/\aD G' w v r/\K r h':=by
 obtain⟨g,hg⟩:∃g:ResultVar->Sem aqB,results fn a.tmps=(do let vs <-fn.results.mapM g;pure (if h:vs.size=1 then vs[0]else .tuple vs))/\(∀t,g (.tmp t)=pure (a.tmps.getD t undef))/\(∀p t,g (.cell p t)=(do loadVar t (<-asAddr (a.tmps.getD p undef)))):=
  ⟨_,rfl,λ_=>rfl,λ_ _=>rfl⟩
 obtain⟨vs,xs,h1,h2,h3,h4,h5,h6,h7⟩:=aj4 hs g hg.2.1 hg.2.2 fn.results.toList h;have hr:(results fn a.tmps).run P w= .ok (if h:vs.toArray.size=1 then vs.toArray[0]else .tuple vs.toArray) w:=by
  rw[hg.1,Sem.run_bind,Array.mapM_eq_mapM_toList];have e:∀X:Sem (aqx aqB),(Functor.map List.toArray X:Sem _)=X>>=λl=>pure l.toArray:=λ_=>rfl;rw[e,Sem.run_bind,h1];rfl
 have hv:=aio vs xs h2 h3;exact⟨_,G.cut m,_,_,hr,qA _ _ _ _,apU _,Th hs.inv h4 h6,(hv.bw m).cut h5,h7⟩
theorem B3{f:FuncId}{fn:Func}{c:Code}{args:aqx AV}{h:aqx an}{K:AV->aqx an->Prop}(m:Nat)(hf:P.funcs[f]?=some fn)(hb:fn.body=some c)(hn:(fn.name== "runtime.NumGoroutine")=false)(hm:h.length<=m)
 (hw:bu P none h.length c (JG P fn m K) {n:=args.length+(fn.ntmps-args.length),t:=mA 0 args,h:=h}):cF P f args h K:=by
 refine⟨by unfold Et;rw[hf];simp [hb];simpa using hn,λG w vs hi hl hr=> ?_⟩;refine callsIn_wide (n:=8).1 (callsIn_of_wp_marks (F:=Fence.wide) hf hb trivial ?_);have hs:cG {G with M:=w.heap.size} w {tmps:=vs++Array.replicate (fn.ntmps-vs.size) undef,defers:=[]} {n:=args.length+(fn.ntmps-args.length),t:=mA 0 args,h:=h}:=by
  refine⟨by simp [hl],λi=> ?_,hi.zm G.Z _ (λ_ h=>h) (apU _),se.nil _ _⟩;show aD _ _ _ (bC (mA 0 args) i);rw[Re];simp only[Nat.zero_le,if_true,Nat.sub_zero];cases hx:args[i]? with
  |none=>exact .dead _
  |some x=>
   have aH:i<vs.size:=by rw[hl];exact(apJ.1 hx).1
   have:(vs++Array.replicate (fn.ntmps-vs.size) undef).getD i undef=vs[i]:=by
    simp [Array.getElem?_append_left aH,ap5 aH]
   simp only[this,Option.getD_some];exact(hr i _ x (ap5 aH) hx).zm G.Z _
 refine wpIn_mono (hw.run _ w _ 8 hs (by rw[hi.len];exact apU _)) λe a' w' hn=> ?_;obtain⟨G1,s1,hE,gK,fj,hq⟩:=hn;have key:tN P fn m K s1->LeavesInM Fence.wide 8 P fn a'.tmps (λe w'=>∃v G' r h',e= .returned v/\bI G.N G w G' w'/\G.N<=G'.N/\bD G' w' h'/\aD G' w' v r/\K r h') a'.defers .returning w':=λhq=>by
  obtain⟨w2,G2,k1,k2,k3,k4⟩:=adE hE gK hi.z hi.gl.2 fj;obtain⟨v,G',r,h',r1,r2,r3,r4,r5,r6⟩:=apd (N0:=h.length) k4 hq;exact k1 _ _ _ _ _ ⟨v,r1,v,G',r,h',rfl,by rw[<-hi.len];exact k2.trans r2,by rw[<-hi.len];exact ap1 hm r3,r4,r5,r6⟩
 cases e with
 |normal=>exact key hq
 |ret=>exact key hq
 |_=>exact hq.elim
end
end Go.Proofs.YtmkmibahjanejaaGreatDoor
namespace Go.Proofs.YtmkmibahjanejaaGreatDoor
open Go.RowKit
section
variable {P:aqA} {r:aqz Nat} {N0:Nat} {s:St} {Q:Exit->St->Prop}
end
theorem cF.frame{P:aqA}{f:FuncId}{args:aqx AV}{K:AV->Prop}(hc:cF P f args [] λr h=>h=[]/\K r)(ha:args.all (AV.aQ 0)=true)(hK:∀r,K r->r.aQ 0=true)(h:aqx an):
 cF P f args h λr h'=>h'=h/\K r:=by
 refine⟨hc.1,λG w vs hi hl hr=> ?_⟩;have uv:bD {G with N:=0,Z:=λb=>b<w.heap.size} w []:=⟨rfl,λb hb=>hb,hi.S,λn B hB=>by simp at hB,λm n b h1=>by simp [bM]at h1,hi.gl⟩;refine(hc.2 {G with N:=0,Z:=λb=>b<w.heap.size} w vs uv hl λi u c hu hx=> ?_).mono λe w' hp=> ?_
 ·have:=(hr i u c hu hx).cut (ap9.1 ha c (apW hx));clear hc;generalize hG:({G with N:=0,Z:=λb=>b<w.heap.size}:Gh)=G0;have e:∀{v y},aD (G.cut 0) w v y->aD G0 w v y:=by
   intro v y hv;subst hG
   induction hv with
   |agg vs cs hl _ ih=>exact .agg vs cs hl ih
   |bz vs cs hl _ ih=>exact .bz vs cs hl ih
   |fn f vs cs hl _ ih=>exact .fn f vs cs hl ih
   |own n xs h hp hle hf=>exact absurd h (aqb _)
   |ptr n off h=>exact absurd h (aqb _)
   |row n off len cap k h hl hm=>exact absurd h (aqb _)
   |mp n h=>exact absurd h (aqb _)
   |cY n h=>exact absurd h (aqb _)
   |vec n o len L k h=>exact absurd h (aqb _)
   |dq n i j L k h=>exact absurd h (aqb _)
   |hid h h1=>exact .hid h h1
   |d h=>exact .d h
   |bJ xs i off b o u x hx hS hu=>exact .bJ xs i off b o u x hx hS hu
   |full xs hp hf=>exact .full xs hp hf
   |dead u=>exact .dead u
  exact e this
 ·obtain⟨v,G',r,h',rfl,hE,hN,de,hv,rfl,hk⟩:=hp;have apF:G'.N=0:=de.len.symm;have fq:∀b o,G'.S b o->G.S b o\/w.heap.size<=b:=λb o hs=>(hE.new b o hs).imp id Nat.le_of_not_lt;have gX:bI G.N G w {G with S:=G'.S} w':=
   ⟨hE.size,hE.S,hE.cell,λ_ _=>rfl,λ_ _=> .inl ⟨rfl,rfl⟩,gp rfl,λb hb=>hE.old b (hi.z b hb),hE.os,hE.tape,hE.output,λb o hs=>(fq b o hs).imp id λjU hz=>by have:=hi.z b hz;omega⟩
  refine⟨v,{G with S:=G'.S},r,h,rfl,gX,apU _,⟨hi.len,λb hb=>ap7 (hi.z b hb) hE.size,de.S,λn B hB=> ?_,λm n b h1 h2=>hi.inj m n b h1 h2,hi.gl.aT gX⟩,?_,rfl,hk⟩
  ·refine dD.aT (hi.lt hB) gX (apU _) ⟨rfl,rfl,rfl⟩ (λb hb=> ?_) (hi.cD n B hB);have aH:=hi.gw (n:=n) (b:=b) ((dc hB).trans hb);refine⟨hE.old _ aH,λo js hs=> ?_⟩;rcases fq _ o hs with hs|hs
   ·exact js hs
   ·omega
  ·have hr:=hK r hk;clear hk gX
   induction hv with
   |agg vs cs hl _ ih=>
    rw[AV.aQ,np,ap9]at hr;exact .agg vs cs hl λi u c hu hc=>ih i u c hu hc (hr c (apW hc))
   |bz vs cs hl _ ih=>
    rw[AV.aQ,np,ap9]at hr;exact .bz vs cs hl λi u c hu hc=>ih i u c hu hc (hr c (apW hc))
   |fn f vs cs hl _ ih=>
    rw[AV.aQ,np,ap9]at hr;exact .fn f vs cs hl λi u c hu hc=>ih i u c hu hc (hr c (apW hc))
   |own n xs h hp hle hf=>simp [AV.aQ,cn]at hr
   |ptr n off h=>simp [AV.aQ,cn]at hr
   |row n off len cap k h hl hm=>simp [AV.aQ,cn]at hr
   |mp n h=>simp [AV.aQ,cn]at hr
   |cY n h=>simp [AV.aQ,cn]at hr
   |vec n o len L k h=>simp [AV.aQ,cn]at hr
   |dq n i j L k h=>simp [AV.aQ,cn]at hr
   |hid h h1=>exact .hid h h1
   |d h=>exact .d h
   |bJ xs i off b o u x hx hS hu=>exact .bJ xs i off b o u x hx hS hu
   |full xs hp hf=>exact .full xs hp hf
   |dead u=>exact .dead u
def ij(P:aqA)(f:FuncId)(args:aqx AV)(K:AV->Prop):Prop:=cF P f args [] λr h=>h=[]/\K r
theorem ij.use{P:aqA}{f:FuncId}{args:aqx AV}{r:AV}{h:aqx an}{C:AV->aqx an->Prop}(hc:ij P f args (·=r))(ha:args.all (AV.aQ 0)=true)(hr:r.aQ 0=true)(hC:C r h):cF P f args h C:=
 (hc.frame ha (λ_ e=>e▸hr) h).mono λ_ _ ⟨e1,e2⟩=>by subst e1;subst e2;exact hC
def amF:aqx FuncId:=[267]
def ahz:aqx FuncId:=[68,70,170,208,209]
def qi:Operand->Bool
 | .func g=>amF.any (·==g)
 |_=>false
def ck(o:Oper):Nat:=
 match o.op with
 | .move _| .assign _| .pick .. | .nilCheck _| .fieldAddr .. | .field .. | .indexAddr .. | .index .. | .build .. | .buildSlice .. | .slice .. | .extract .. | .makeFunc .. | .binOp .. | .unOp .. | .convert .. =>0
 | .load .. | .lookup .. =>1
 | .alloc _| .box .. =>2
 | .store .. | .makeMap .. | .mapUpdate .. =>3
 | .call c=>match c.callee with
   | .builtin .len| .builtin .max| .builtin .min=>0
   | .builtin .append=>5
   | .value f=>bif qi f then 6 else 4
   |_=>9
 |_=>9
def OX(P:aqA)(g:FuncId)(args:aqx AV)(h:aqx an)(C:AV->Prop):Prop:=∃r,C r/\∀e,cF P g args (h++e) λr' h'=>r'=r/\h'=h++e
def Ai(P:aqA)(o:Oper)(K:St->Prop)(s:St):Prop:=
 match o.op with
 | .call c=>match c.callee with
   | .value f=>match ev s f with
     | .fn g c7=>OX P g (c.args.toList.map (ev s)++c7) s.h λr=>K (s.put o.dst r)
     | .hid q=>∃g as,q.app (c.args.toList.map (ev s))=some (g,as)/\OX P g as s.h λr=>K (s.put o.dst r)
     |_=>False
   |_=>qG P o K s
 |_=>qG P o K s
def jv(o:Oper):Bool:=
 match o.op with
 | .indexAddr .. | .fieldAddr .. | .nilCheck .. | .load .. | .store .. =>true
 | .call c=>match c.callee with
   | .builtin .len=>true
   |_=>false
 |_=>false
def JX(o:Oper):Bool:=match o.op with
 | .call c=>match c.callee with
   | .value (.tmp _)=>true
   | .value (.func g)=>ahz.any (·==g)
   |_=>false
 |_=>false
def qC(o:Oper):Bool:=match o.op with
 | .call c=>match c.callee with
   | .builtin .append=>true
   |_=>false
 |_=>false
def nG(m:Bool)(o:Oper):Bool:=m&&(JX o||qC o)
def yf(m:Bool)(P:aqA)(o:Oper)(K:St->Prop)(s:St):Prop:=
 Ai P o K s\/(nG m o=true/\∃x h1,K ((s.wh h1).put o.dst x)/\∀C:AV->aqx an->Prop,C x h1->cz P o (ev s) s.h C)\/((jv o=true/\(m&&ck o==0)=false\/(m&&qC o)=true)/\G9 P o K s)\/(ck o=6/\∃x e0,K ((s.wh (s.h++e0)).put o.dst x)/\∀C:AV->aqx an->Prop,C x (s.h++e0)->cz P o (ev s) s.h C)
def jx(P:aqA)(o:Oper)(ρ:Operand->AV)(h:aqx an)(C:AV->aqx an->Prop):Prop:=
 cz P o ρ h C\/((jv o=true\/qC o=true)/\∃a x h' p,iq P o.op ρ h a=some (x,h',p)/\p/\C x h')
def vm(m:Bool)(P:aqA)(ops:Array Oper):aqx Oper->(St->Prop)->St->Prop
 |[],K,s=>K s
 |o::rest,K,s=>ig ops o s (yf m P o (vm m P ops rest K) s) (vm m P ops rest K (s.put o.dst (.d (.v undef))))
abbrev Z2(P:aqA)(o:Oper)(K:St->Prop)(s:St):Prop:=yf false P o K s
abbrev FM(P:aqA)(ops:Array Oper)(l:aqx Oper)(K:St->Prop)(s:St):Prop:=vm false P ops l K s
section
variable {P:aqA} {o:Oper} {ρ ρ':Operand->AV} {h:aqx an} {C:AV->aqx an->Prop}
theorem S8(x:aqz Operand)(hx:∀y∈x.toArray,ρ y=ρ' y)(d:Nat)(F:Nat->Prop):j0 ρ x d F=j0 ρ' x d F:=by
 cases x with
 |none=>rfl
 |some y=>simp only[j0,hx y (by simp)]
theorem agL(hρ:∀x∈o.op.operands,ρ x=ρ' x):cz P o ρ h C=cz P o ρ' h C:=by
 obtain⟨dst,op,type,pos,after,guard⟩:=o;have Wv:∀ps:Array (Nat×Operand),(∀x∈ps.map (·.2),ρ x=ρ' x)->(ps.toList.map λp=>(p.1,ρ p.2))=(ps.toList.map λp=>(p.1,ρ' p.2)):=λps hp=>
  aqe λp hm=>by rw[hp p.2 (Array.mem_map.2 ⟨p,Array.mem_toList_iff.1 hm,rfl⟩)]
 have gk:∀l:Array Operand,(∀x∈l,ρ x=ρ' x)->l.toList.map ρ=l.toList.map ρ':=λl hl=>aqe λx hm=>hl x (Array.mem_toList_iff.1 hm);cases op with
 |build t ps=>simp only[cz,Wv ps λx hx=>hρ x (by simpa [Op.operands]using hx)]
 |buildSlice t n ps=>simp only[cz,Wv ps λx hx=>hρ x (by simpa [Op.operands]using hx)]
 |makeFunc fn first captured=>
  cases fn with
  |func f=>simp only[cz,gk captured λx hx=>hρ x (by simp [Op.operands,hx]),gk first λx hx=>hρ x (by simp [Op.operands,hx])]
  |_=>rfl
 |slice t x lo hi mx=>
  have e1:ρ x=ρ' x:=hρ x (by simp [Op.operands]);have e2:=λd F=>S8 (ρ:=ρ) (ρ':=ρ') lo (λy hy=>hρ y (by simp at hy;simp [Op.operands,hy])) d F;have e3:=λd F=>S8 (ρ:=ρ) (ρ':=ρ') hi (λy hy=>hρ y (by simp at hy;simp [Op.operands,hy])) d F;have e4:=λd F=>S8 (ρ:=ρ) (ρ':=ρ') mx (λy hy=>hρ y (by simp at hy;simp [Op.operands,hy])) d F;cases lo<;>cases hi<;>cases mx<;>simp only[cz,vn,e1,e2,e3,e4]
 |call c=>
  have ha:c.args.toList.map ρ=c.args.toList.map ρ':=gk c.args λx hx=>hρ x (by simp [Op.operands,Call.operands,hx]);have hm:∀x,x∈c.args.toList->ρ x=ρ' x:=λx hx=>hρ x (by simp [Op.operands,Call.operands];right;exact Array.mem_toList_iff.1 hx);cases hc:c.callee with
  |value f=>
   have hf:ρ f=ρ' f:=hρ f (by simp [Op.operands,Call.operands,hc]);simp only[cz,hc,hf,ha]
  |invoke=>simp only[cz,hc]
  |builtin b=>
   cases b with
   |len=>
    simp only[cz,hc];split
    ·rename_i x _ heq _
     rw[hm x (by rw[heq];simp)]
    ·rfl
   |append=>
    simp only[cz,hc];split
    ·rename_i x y _ _ heq _
     rw[hm x (by rw[heq];simp),hm y (by rw[heq];simp)]
    ·rfl
   |max=>simp only[cz,hc,ha]
   |min=>simp only[cz,hc,ha]
   |_=>simp only[cz,hc]
 |makeMap t r=>cases r<;>rfl
 |lookup t a b ok=>simp only[cz,qd,hρ a (by simp [Op.operands]),hρ b (by simp [Op.operands])]
 |mapUpdate t a b c=>simp only[cz,qd,hρ a (by simp [Op.operands]),hρ b (by simp [Op.operands]),hρ c (by simp [Op.operands])]
 |pick c a b=>simp only[cz,hρ c (by simp [Op.operands]),hρ a (by simp [Op.operands]),hρ b (by simp [Op.operands])]
 |store t a b=>simp only[cz,hρ a (by simp [Op.operands]),hρ b (by simp [Op.operands])]
 |binOp op t a b u=>simp only[cz,hρ a (by simp [Op.operands]),hρ b (by simp [Op.operands])]
 |indexAddr t a b=>simp only[cz,hρ a (by simp [Op.operands]),hρ b (by simp [Op.operands])]
 |index t a b=>simp only[cz,hρ a (by simp [Op.operands]),hρ b (by simp [Op.operands])]
 |move a|assign a|box t a|load t a|nilCheck a|fieldAddr t a f|field t a f|extract a i|unOp op t a|convert t u a=>simp only[cz,hρ a (by simp [Op.operands])]
 |_=>rfl
theorem ac8(hv:jv o=true\/qC o=true)(hρ:∀x∈o.op.operands,ρ x=ρ' x)(a:VA):iq P o.op ρ h a=iq P o.op ρ' h a:=by
 obtain⟨dst,op,type,pos,after,guard⟩:=o;cases op with
 |store t a b=>simp only[iq,hρ a (by simp [Op.operands]),hρ b (by simp [Op.operands])]
 |indexAddr t a b=>simp only[iq,hρ a (by simp [Op.operands]),hρ b (by simp [Op.operands])]
 |load t a|nilCheck a|fieldAddr t a f=>simp only[iq,hρ a (by simp [Op.operands])]
 |call c=>
  have hm:∀x,x∈c.args.toList->ρ x=ρ' x:=λx hx=>hρ x (by simp [Op.operands,Call.operands];right;exact Array.mem_toList_iff.1 hx);cases hc:c.callee with
  |builtin b=>
   cases b with
   |len=>
    simp only[iq,hc];split
    ·rename_i x _ heq _
     rw[hm x (by rw[heq];simp)]
    ·rfl
   |append=>
    simp only[iq,hc];split
    ·rename_i x y _ _ heq _
     rw[hm x (by rw[heq];simp),hm y (by rw[heq];simp)]
    ·rfl
   |_=>simp [jv,qC,hc]at hv
  |_=>simp [jv,qC,hc]at hv
 |_=>simp [jv,qC]at hv
theorem Pk(hρ:∀x∈o.op.operands,ρ x=ρ' x):jx P o ρ h C=jx P o ρ' h C:=by
 unfold jx;rw[agL hρ];by_cases hv:jv o=true\/qC o=true
 ·simp only[ac8 hv hρ]
 ·simp only[hv,false_and]
end
def aln:an->Bool
 | .cells _| .map _| .vec .. =>true
 |_=>false
def oa:aqz an->aqz (Nat×Nat)
 |some (.vec _ k cs)=>some (k,cs.length)
 |_=>none
def iO(h h':aqx an):Prop:=∀(m:Nat)(q:Nat×Nat),oa h[m]?=some q->oa h'[m]?=some q
def iK(h h':aqx an):Prop:=∀m:Nat,oa h[m]?=oa h'[m]?
theorem iK.i{h h':aqx an}(e:iK h h'):iO h h':=λm q hq=>by rw[<-e m];exact hq
theorem iK.j{h h':aqx an}(e:iK h h'):iO h' h:=λm q hq=>by rw[e m];exact hq
theorem iO.refl(h:aqx an):iO h h:=λ_ _ e=>e
theorem iO.trans{a b c:aqx an}(x:iO a b)(y:iO b c):iO a c:=λm q e=>y m q (x m q e)
theorem iO.app(h e:aqx an):iO h (h++e):=λm q hq=>by
 by_cases hl:m<h.length
 ·rw[apT hl];exact hq
 ·rw[aqf (by omega)]at hq;cases hq
theorem iK.app{h:aqx an}{B:an}(hB:oa (some B)=none):iK h (h++[B]):=λm=>by
 by_cases hl:m<h.length
 ·rw[apT hl]
 ·rw[apZ (by omega),aqf (by omega:h.length<=m)];by_cases h0:m-h.length=0
  ·rw[h0];exact hB.symm
  ·rw[aqf (by simp;omega)]
theorem iK.set{h:aqx an}{n:Nat}{B B':an}(hn:h[n]?=some B)(hB:oa (some B)=oa (some B')):iK h (h.set n B'):=λm=>by
 by_cases e:n=m
 ·subst e;rw[aqc (apJ.1 hn).1,hn];exact hB
 ·rw[aqh e]
def iV(h h':aqx an):Prop:=∀(n:Nat)(B:an),h[n]?=some B->aln B=true->h'[n]?=some B
theorem iV.app(h e:aqx an):iV h (h++e):=λn cs hn _=>by
 rw[apT (apJ.1 hn).1];exact hn
theorem iV.refl(h:aqx an):iV h h:=λ_ _ hn _=>hn
theorem ajZ{P:aqA}{ρ:Operand->AV}{h h1:aqx an}{T:TypeId}{m i:Operand}{ok:Bool}{x:AV}{p:Sd}(hx:qd P (.lookup T m i ok) ρ h=some (x,h1,p)):h1=h/\∀h',iV h h'->qd P (.lookup T m i ok) ρ h'=some (x,h',p):=by
 simp only[qd]at hx ⊢;split at hx
 ·next k e hT=>
  split at hx
  ·next z hz=>
   split at hx
   ·next b s' hm hi=>
    split at hx
    ·next kv hn=>
     cases hc:ia P k&&z.oneCell' with
     |false=>rw[hc]at hx;cases hx
     |true=>
      rw[hc]at hx;cases hx
      refine⟨rfl,λh' hh=> ?_⟩;rw[hh b _ hn rfl];simp only[cond_true]
    ·cases hx
   ·cases hx
  ·cases hx
 ·cases hx
theorem X6{h:aqx an}{n e k:Nat}{cs:aqx (aqx AV)}(hn:h[n]?=some (.vec e k cs)):oa h[n]?=some (k,cs.length):=by rw[hn];rfl
theorem WV{h:aqx an}{n k l:Nat}(hq:oa h[n]?=some (k,l)):∃e cs,h[n]?=some (.vec e k cs)/\cs.length=l:=by
 unfold oa at hq;split at hq
 ·next e k' cs e1=>cases hq;exact⟨e,cs,e1,rfl⟩
 ·cases hq
theorem ag6{P:aqA}{o:Oper}{ρ:Operand->AV}{h h1:aqx an}{a:VA}{x:AV}{p:Prop}(hv:jv o=true)(hk:ck o=0)(hx:iq P o.op ρ h a=some (x,h1,p))(hp:p):h1=h/\∀h',iO h h'->∃p',iq P o.op ρ h' a=some (x,h',p')/\p':=by
 obtain⟨dst,op,type,pos,after,guard⟩:=o;cases op with
 |indexAddr T y i=>
  simp only[iq]at hx ⊢;split at hx
  ·next n o len L k z e k' i' e1 e2 e3=>
   split at hx
   ·next e4 k2 cs hn=>
    obtain⟨hb,he⟩:=mo hx;cases he
    rw[apL,beq_iff_eq,beq_iff_eq]at hb;obtain⟨rfl,rfl⟩:=hb;refine⟨rfl,λh' hh=> ?_⟩;obtain⟨e5,cs5,q1,q2⟩:=WV (hh n _ (X6 hn));simp only[q1,aqs,Bool.and_self,cond_true];exact⟨_,rfl,by rw[q2];exact hp.1,hp.2⟩
   ·cases hx
  ·cases hx
 |fieldAddr T y f=>
  simp only[iq]at hx ⊢;split at hx
  ·next e1 e2=>cases hx;exact⟨rfl,λh' _=>⟨_,rfl,trivial⟩⟩
  ·cases hx
 |nilCheck y=>
  simp only[iq]at hx ⊢;split at hx
  ·next e1=>cases hx;exact⟨rfl,λh' _=>⟨_,rfl,trivial⟩⟩
  ·cases hx
 |call c=>
  cases hc:c.callee with
  |builtin b=>
   cases b with
   |len=>
    simp only[iq,hc]at hx ⊢;split at hx
    ·split at hx
     ·next n o len L k e1=>
      split at hx
      ·next e2 k2 cs hn=>
       obtain⟨hb,he⟩:=mo hx;cases he
       rw[apL,beq_iff_eq]at hb;obtain⟨iP,rfl⟩:=hb;refine⟨rfl,λh' hh=> ?_⟩;obtain⟨e5,cs5,q1,q2⟩:=WV (hh n _ (X6 hn));simp only[q1,iP,aqs,Bool.and_self,cond_true];exact⟨_,rfl,by rw[q2];exact hp⟩
      ·cases hx
     ·cases hx
    ·cases hx
   |_=>simp [jv,hc]at hv
  |_=>simp [jv,hc]at hv
 |load t y=>simp [ck]at hk
 |store t y z=>simp [ck]at hk
 |_=>simp [jv]at hv
theorem ajW{P:aqA}{o:Oper}{ρ:Operand->AV}{h h1:aqx an}{a:VA}{x:AV}{p:Prop}(hv:jv o=true)(hk:ck o=1)(hx:iq P o.op ρ h a=some (x,h1,p))(hp:p):h1=h/\∀h',iV h h'->∃p',iq P o.op ρ h' a=some (x,h',p')/\p':=by
 obtain⟨dst,op,type,pos,after,guard⟩:=o;cases op with
 |load t y=>
  simp only[iq]at hx ⊢;split at hx
  ·next n i j L k c e1=>
   split at hx
   ·next e2 k' cs z hn hz=>
    obtain⟨hb,he⟩:=mo hx;cases he
    refine⟨rfl,λh' hh=> ?_⟩;simp only[hh n _ hn rfl,hz,hb,cond_true];exact⟨_,rfl,hp⟩
   ·cases hx
  ·cases hx
 |indexAddr T y i=>simp [ck]at hk
 |fieldAddr T y f=>simp [ck]at hk
 |nilCheck y=>simp [ck]at hk
 |call c=>
  cases hc:c.callee with
  |builtin b=>cases b<;>simp [ck,hc]at hk
  |value f=>cases mD:qi f<;>simp [ck,hc,mD]at hk
  |invoke=>simp [ck,hc]at hk
 |store t y z=>simp [ck]at hk
 |_=>simp [jv]at hv
theorem alZ{P:aqA}{o:Oper}{ρ:Operand->AV}{h h1:aqx an}{a:VA}{x:AV}{p:Prop}(hv:jv o=true)(hk:ck o=3)(hx:iq P o.op ρ h a=some (x,h1,p))(hp:p):iK h h1:=by
 obtain⟨dst,op,type,pos,after,guard⟩:=o;cases op with
 |store t y z=>
  simp only[iq]at hx;split at hx
  ·next n i j L k c bP e1=>
   split at hx
   ·next e k' cs q hn hz=>
    obtain⟨hb,he⟩:=mo hx;cases he
    simp only[apL,beq_iff_eq]at hb;refine iK.set hn ?_;simp only[oa,List.length_set,hp.2.2,hb.1.1.1.1]
   ·cases hx
  ·cases hx
 |load t y=>simp [ck]at hk
 |indexAddr T y i=>simp [ck]at hk
 |fieldAddr T y f=>simp [ck]at hk
 |nilCheck y=>simp [ck]at hk
 |call c=>
  cases hc:c.callee with
  |builtin b=>cases b<;>simp [ck,hc]at hk
  |value f=>cases mD:qi f<;>simp [ck,hc,mD]at hk
  |invoke=>simp [ck,hc]at hk
 |_=>simp [jv]at hv
def jE(m:Bool)(o:Oper):Nat:=bif nG m o then 7 else ck o
def dY(m:Bool)(P:aqA)(o:Oper)(ρ:Operand->AV)(h:aqx an)(x:AV)(h1:aqx an):Prop:=
 match jE m o with
 |0=>h1=h/\∀h',(m=true\/iO h h')->∀C:AV->aqx an->Prop,C x h'->jx P o ρ h' C
 |1=>h1=h/\∀h',iV h h'->∀C:AV->aqx an->Prop,C x h'->jx P o ρ h' C
 |2=>∃B,oa (some B)=none/\x= .ptr h.length 0/\h1=h++[B]/\∀h'(C:AV->aqx an->Prop),C (.ptr h'.length 0) (h'++[B])->jx P o ρ h' C
 |3=>iK h h1/\∀C:AV->aqx an->Prop,C x h1->jx P o ρ h C
 |4=>h1=h/\∀e(C:AV->aqx an->Prop),C x (h++e)->jx P o ρ (h++e) C
 |5=>(iV h h1/\iV h1 h/\iK h h1)/\∀C:AV->aqx an->Prop,C x h1->jx P o ρ h C
 |6=>∃e0,h1=h++e0/\∀C:AV->aqx an->Prop,C x h1->jx P o ρ h C
 |7=>∀C:AV->aqx an->Prop,C x h1->jx P o ρ h C
 |_=>False
section
variable {P:aqA} {o:Oper} {ρ ρ':Operand->AV} {h:aqx an} {C:AV->aqx an->Prop}
theorem ajp{p:AV}{K:aqx AV->Nat->Prop}(hp:s8 h p K):∃cs off,K cs off/\∀h',iV h h'->∀K':aqx AV->Nat->Prop,K' cs off->s8 h' p K':=by
 unfold s8 at hp ⊢;split at hp
 ·rename_i n off
  split at hp
  ·rename_i cs gj
   refine⟨cs,off,hp,λh' hh K' hk=> ?_⟩;rw[hh n _ gj rfl];exact hk
  ·exact hp.elim
 ·rename_i xs i off
  split at hp
  ·rename_i cs gj
   refine⟨_,off,hp,λh' _ K' hk=> ?_⟩;exact hk
  ·exact hp.elim
 ·exact hp.elim
theorem acT{t:Nat}{p:AV}{K:AV->Prop}(hp:oK P t h p K):∃x,K x/\∀h',iV h h'->∀K':AV->Prop,K' x->oK P t h' p K':=by
 unfold oK at hp ⊢;obtain⟨cs,off,h1,h2⟩:=ajp hp;split at h1
 ·rw[bS]at h1;refine⟨_,h1.2,λh' hh K' lA=>h2 h' hh _ ?_⟩;exact bS.2 ⟨h1.1,lA⟩
 ·split at h1
  ·rename_i c hc
   refine⟨c,h1,λh' hh K' lA=>h2 h' hh _ ?_⟩;simp only[hc];exact lA
  ·exact h1.elim
 ·exact h1.elim
theorem vZ{x:aqz Operand}{d:Nat}{F:Nat->Prop}(hx:j0 ρ x d F):∃m,F m/\∀F':Nat->Prop,F' m->j0 ρ x d F':=by
 cases x with
 |none=>exact⟨d,hx,λ_ h=>h⟩
 |some y=>
  simp only[j0]at hx;split at hx
  ·rename_i z hz
   exact⟨_,hx.2,λF' hF=>by simp only[j0,hz];exact⟨hx.1,hF⟩⟩
  ·exact hx.elim
theorem adi(hk:ck o=0)(hc:cz P o ρ h C):∃x,C x h/\∀h'(C':AV->aqx an->Prop),C' x h'->cz P o ρ h' C':=by
 have wE:∀(F:(AV->Prop)->Prop),(∀K,F K->∃x,K x/\∀K',K' x->F K')->F (λx=>C x h)->(∀h' C',cz P o ρ h' C'=F (λx=>C' x h'))->∃x,C x h/\∀h'(C':AV->aqx an->Prop),C' x h'->cz P o ρ h' C':=λF hF h0 he=>by
  obtain⟨x,h1,h2⟩:=hF _ h0;exact⟨x,h1,λh' C' dt=>by rw[he];exact h2 _ dt⟩
 obtain⟨dst,op,type,pos,after,guard⟩:=o;cases op with
 |move a=>exact⟨ρ a,hc,λ_ _ h=>h⟩
 |assign a=>exact⟨ρ a,hc,λ_ _ h=>h⟩
 |pick c a b=>
  simp only[cz]at hc;split at hc
  ·rename_i t ht
   cases t with
   |true=>exact⟨ρ a,hc.1 rfl,λh' C' dt=>by simp only[cz,ht];exact⟨λ_=>dt,λe=>by cases e⟩⟩
   |false=>exact⟨ρ b,hc.2 rfl,λh' C' dt=>by simp only[cz,ht];exact⟨λe=>(by cases e),λ_=>dt⟩⟩
  ·exact hc.elim
 |nilCheck a=>
  simp only[cz]at hc;split at hc
  ·rename_i m off e;exact⟨_,hc,λh' C' dt=>by simp only[cz,e];exact dt⟩
  ·rename_i xs i off e;exact⟨_,hc,λh' C' dt=>by simp only[cz,e];exact dt⟩
  ·rename_i f cs e;exact⟨_,hc,λh' C' dt=>by simp only[cz,e];exact dt⟩
  ·exact hc.elim
 |fieldAddr t a f=>
  simp only[cz]at hc;split at hc
  ·rename_i fo k g hf
   split at hc
   ·rename_i m off e;exact⟨_,hc,λh' C' dt=>by simp only[cz,hf,e];exact dt⟩
   ·rename_i xs i off e;exact⟨_,hc,λh' C' dt=>by simp only[cz,hf,e];exact dt⟩
   ·exact hc.elim
  ·exact hc.elim
 |field t a f=>
  refine wE (xO P t (ρ a) f) (λK hK=> ?_) hc (λ_ _=>rfl);unfold xO at hK ⊢;split at hK
  ·rw[bS]at hK;exact⟨_,hK.2,λK' eF=>bS.2 ⟨hK.1,eF⟩⟩
  ·split at hK
   ·rename_i c ir;exact⟨c,hK,λK' eF=>eF⟩
   ·exact hK.elim
  ·exact hK.elim
 |indexAddr t a b=>
  refine wE (tX P t (ρ a) (ρ b)) (λK hK=> ?_) hc (λ_ _=>rfl);unfold tX at hK ⊢;split at hK
  ·rename_i e k hT
   split at hK
   ·rename_i n off len cap k'
    split at hK
    ·rename_i z hz
     rw[bS]at hK;obtain⟨h1,h2,h3,h4⟩:=hK;exact⟨_,h4,λK' eF=>bS.2 ⟨h1,h2,h3,eF⟩⟩
    ·exact hK.elim
   ·split at hK
    ·rename_i xs z lW hz
     obtain⟨h0,hK⟩:=hK;split at hK
     ·rename_i c ir
      exact⟨_,hK.2,λK' eF=>⟨h0,hK.1,eF⟩⟩
     ·exact hK.elim
    ·exact hK.elim
  ·split at hK
   ·rename_i n e k b' off z hT hz
    obtain⟨h1,h2,h3⟩:=hK;exact⟨_,h3,λK' eF=>⟨h1,h2,eF⟩⟩
   ·rename_i n e k xs i' off z hT hz
    rw[bS]at hK;obtain⟨h0,h1,h2,h3⟩:=hK;split at h3
    ·rename_i c ir
     split at h3
     ·rename_i d hd
      exact⟨_,h3,λK' eF=>bS.2 ⟨h0,h1,h2,eF⟩⟩
     ·exact h3.elim
    ·exact h3.elim
   ·exact hK.elim
 |index t a b=>
  simp only[cz]at hc;split at hc
  ·rename_i bb z e1 e2
   rw[bS]at hc;obtain⟨h1,h2,h3⟩:=hc;split at h3
   ·rename_i c ir
    exact⟨_,h3,λh' C' dt=>by simp only[cz,e1,e2];exact bS.2 ⟨h1,h2,by simp only[ir];exact dt⟩⟩
   ·exact h3.elim
  ·exact hc.elim
 |build t ps=>
  refine wE (yC P t (ps.toList.map λp:Nat×Operand=>(p.1,ρ p.2))) (λK hK=> ?_) hc (λ_ _=>rfl);unfold yC at hK ⊢;split at hK
  ·split at hK
   ·rename_i cs gj
    rw[bS]at hK;exact⟨_,hK.2,λK' eF=>bS.2 ⟨hK.1,eF⟩⟩
   ·exact hK.elim
  ·exact hK.elim
 |buildSlice t n ps=>
  refine wE (yM P t n (ps.toList.map λp:Nat×Operand=>(p.1,ρ p.2))) (λK hK=> ?_) hc (λ_ _=>rfl);unfold yM at hK ⊢;split at hK
  ·split at hK
   ·split at hK
    ·rename_i cs gj
     split at hK
     ·rename_i ds tG
      rw[bS]at hK;exact⟨_,hK.2,λK' eF=>bS.2 ⟨hK.1,eF⟩⟩
     ·exact hK.elim
    ·exact hK.elim
   ·exact hK.elim
  ·exact hK.elim
 |slice t a lo hi mx=>
  refine wE (vn P t ρ (ρ a) lo hi mx) (λK hK=> ?_) hc (λ_ _=>rfl);unfold vn at hK ⊢;split at hK
  ·split at hK
   ·rw[bS]at hK;obtain⟨h0,hK⟩:=hK;obtain⟨m1,hK,j1⟩:=vZ hK;obtain⟨h1,hK⟩:=hK;obtain⟨m2,hK,j2⟩:=vZ hK;obtain⟨h2,hK⟩:=hK;exact⟨_,hK,λK' eF=>bS.2 ⟨h0,j1 _ ⟨h1,j2 _ ⟨h2,eF⟩⟩⟩⟩
   ·split at hK
    ·rw[bS]at hK;obtain⟨h0,hK⟩:=hK;obtain⟨m1,hK,j1⟩:=vZ hK;rw[bS]at hK;obtain⟨h1,hK⟩:=hK;obtain⟨m2,hK,j2⟩:=vZ hK;rw[bS]at hK;obtain⟨h2,hK⟩:=hK;exact⟨_,hK,λK' eF=>by rw[bS];exact⟨h0,j1 _ (by rw[bS];exact⟨h1,j2 _ (by rw[bS];exact⟨h2,eF⟩)⟩)⟩⟩
    ·exact hK.elim
   ·split at hK
    ·obtain⟨h0,hK⟩:=hK;obtain⟨m1,hK,j1⟩:=vZ hK;obtain⟨h1,hK⟩:=hK;obtain⟨m2,hK,j2⟩:=vZ hK;obtain⟨h2,hK⟩:=hK;exact⟨_,hK,λK' eF=>⟨h0,j1 _ ⟨h1,j2 _ ⟨h2,eF⟩⟩⟩⟩
    ·exact hK.elim
  ·split at hK
   ·split at hK
    ·obtain⟨h0,hK⟩:=hK;obtain⟨m1,hK,j1⟩:=vZ hK;obtain⟨h1,hK⟩:=hK;obtain⟨m2,hK,j2⟩:=vZ hK;obtain⟨h2,hK⟩:=hK;exact⟨_,hK,λK' eF=>⟨h0,j1 _ ⟨h1,j2 _ ⟨h2,eF⟩⟩⟩⟩
    ·exact hK.elim
   ·exact hK.elim
 |extract a i=>
  simp only[cz]at hc;split at hc
  ·rename_i cs e
   split at hc
   ·rename_i c ir;exact⟨c,hc,λh' C' dt=>by simp only[cz,e,ir];exact dt⟩
   ·exact hc.elim
  ·exact hc.elim
 |makeFunc fn first c7=>
  cases fn with
  |func f=>
   simp only[cz]at hc;split at hc
   ·rename_i e;exact⟨_,hc,λh' C' dt=>by simp only[cz,e];exact dt⟩
   ·exact hc.elim
  |_=>exact hc.elim
 |binOp op t a b u=>
  refine wE (x6 P t op (ρ a) (ρ b)) (λK hK=> ?_) hc (λ_ _=>rfl);unfold x6 at hK ⊢;split at hK
  ·split at hK
   ·rw[bS]at hK;exact⟨_,hK.2.2,λK' eF=>bS.2 ⟨hK.1,hK.2.1,eF⟩⟩
   ·split at hK
    ·exact⟨_,hK.2,λK' eF=>⟨hK.1,eF⟩⟩
    ·split at hK
     ·rw[bS]at hK;exact⟨_,hK.2,λK' eF=>bS.2 ⟨hK.1,eF⟩⟩
     ·exact hK.elim
  ·split at hK
   ·exact⟨_,hK,λK' eF=>eF⟩
   ·split at hK
    ·exact⟨_,hK.2,λK' eF=>⟨hK.1,eF⟩⟩
    ·exact hK.elim
  ·split at hK
   ·rw[bS]at hK;exact⟨_,hK.2,λK' eF=>bS.2 ⟨hK.1,eF⟩⟩
   ·exact hK.elim
  ·split at hK
   ·split at hK
    ·exact⟨_,hK,λK' eF=>eF⟩
    ·exact hK.elim
   ·exact hK.elim
  ·exact hK.elim
 |unOp op t a=>
  refine wE (xv op (ρ a)) (λK hK=> ?_) hc (λ_ _=>rfl);unfold xv at hK ⊢;split at hK
  ·split at hK
   ·exact⟨_,hK,λK' eF=>eF⟩
   ·exact hK.elim
  ·exact hK.elim
 |convert t u a=>
  refine wE (yH P t u (ρ a)) (λK hK=> ?_) hc (λ_ _=>rfl);unfold yH at hK ⊢;split at hK
  ·split at hK
   ·exact⟨_,hK,λK' eF=>eF⟩
   ·exact hK.elim
  ·rw[bS]at hK;exact⟨_,hK.2,λK' eF=>bS.2 ⟨hK.1,eF⟩⟩
  ·split at hK
   ·rw[bS]at hK;obtain⟨h1,ns,h2,h3⟩:=hK;exact⟨_,h3,λK' eF=>bS.2 ⟨h1,ns,h2,eF⟩⟩
   ·exact hK.elim
 |call c=>
  simp only[ck]at hk;cases fm:c.callee with
  |value f=>cases mD:qi f<;>simp [fm,mD]at hk
  |invoke=>simp [fm]at hk
  |builtin b=>
   cases b with
   |len=>
    simp only[cz,fm]at hc;split at hc
    ·rename_i x T e1 e2
     have key:∀F:Nat->Prop,sH P T (ρ x) F->∃m,F m/\∀F':Nat->Prop,F' m->sH P T (ρ x) F':=λF hF=>by
      unfold sH at hF ⊢;split at hF
      ·rw[bS]at hF;exact⟨_,hF.2,λF' lr=>bS.2 ⟨hF.1,lr⟩⟩
      ·rw[bS]at hF;exact⟨_,hF.2,λF' lr=>bS.2 ⟨hF.1,lr⟩⟩
      ·split at hF
       ·rw[bS]at hF;exact⟨_,hF.2,λF' lr=>bS.2 ⟨hF.1,lr⟩⟩
       ·exact hF.elim
     obtain⟨m,h1,h2⟩:=key _ hc;exact⟨_,h1,λh' C' dt=>by simp only[cz,fm,e1,e2];exact h2 _ dt⟩
    ·exact hc.elim
   |max=>
    simp only[cz,fm]at hc;split at hc
    ·rename_i e1
     exact⟨_,hc,λh' C' dt=>by simp only[cz,fm,e1];exact dt⟩
    ·exact hc.elim
   |min=>
    simp only[cz,fm]at hc;split at hc
    ·rename_i e1
     exact⟨_,hc,λh' C' dt=>by simp only[cz,fm,e1];exact dt⟩
    ·exact hc.elim
   |_=>simp [fm]at hk
 |_=>simp [ck]at hk
theorem ahJ(hk:ck o=2)(hc:cz P o ρ h C):∃B,oa (some B)=none/\C (.ptr h.length 0) (h++[B])/\∀h'(C':AV->aqx an->Prop),C' (.ptr h'.length 0) (h'++[B])->cz P o ρ h' C':=by
 obtain⟨dst,op,type,pos,after,guard⟩:=o;cases op with
 |alloc e=>
  simp only[cz]at hc;split at hc
  ·rename_i z hz;exact⟨_,rfl,hc,λh' C' dt=>by simp only[cz,hz];exact dt⟩
  ·exact hc.elim
 |box e x=>
  simp only[cz]at hc;rw[bS]at hc;exact⟨_,rfl,hc.2,λh' C' dt=>by simp only[cz];rw[bS];exact⟨hc.1,dt⟩⟩
 |call c=>
  simp only[ck]at hk;cases fm:c.callee with
  |value f=>cases mD:qi f<;>simp [fm,mD]at hk
  |invoke=>simp [fm]at hk
  |builtin b=>cases b<;>simp [fm]at hk
 |_=>simp [ck]at hk
theorem ajv(hk:ck o=3)(hc:cz P o ρ h C):∃x h1,C x h1/\iK h h1/\∀C':AV->aqx an->Prop,C' x h1->cz P o ρ h C':=by
 obtain⟨dst,op,type,pos,after,guard⟩:=o;cases op with
 |store t a b=>
  simp only[cz]at hc;have key:∀F:aqx an->Prop,xJ P t h (ρ a) (ρ b) F->∃h1,F h1/\iK h h1/\∀F':aqx an->Prop,F' h1->xJ P t h (ρ a) (ρ b) F':=λF hF=>by
   unfold xJ at hF ⊢;split at hF
   ·split at hF
    ·next hn=>
     split at hF
     ·rw[bS]at hF;exact⟨_,hF.2,iK.set hn rfl,λF' lr=>bS.2 ⟨hF.1,lr⟩⟩
     ·exact hF.elim
    ·exact hF.elim
   ·exact hF.elim
  obtain⟨h1,k1,kv,k2⟩:=key _ hc;exact⟨_,h1,k1,kv,λC' dt=>by simp only[cz];exact k2 _ dt⟩
 |makeMap t r=>
  simp only[cz]at hc;split at hc
  ·rename_i x h' p hx
   refine⟨x,h',hc.2,?_,λC' dt=>by simp only[cz,hx];exact⟨hc.1,dt⟩⟩;unfold qd at hx;cases r with
   |none=>
    simp only at hx;split at hx
    ·cases hx;exact iK.app rfl
    ·cases hx
   |some r=>cases hx
  ·exact hc.elim
 |mapUpdate t a b c=>
  simp only[cz]at hc;split at hc
  ·rename_i x h' p hx
   refine⟨x,h',hc.2,?_,λC' dt=>by simp only[cz,hx];exact⟨hc.1,dt⟩⟩;unfold qd at hx;simp only at hx;split at hx
   ·split at hx
    ·split at hx
     ·next hn=>
      obtain⟨hb,he⟩:=mo hx;cases he
      exact iK.set hn rfl
     ·cases hx
    ·cases hx
   ·cases hx
  ·exact hc.elim
 |call c=>
  simp only[ck]at hk;cases fm:c.callee with
  |value f=>cases mD:qi f<;>simp [fm,mD]at hk
  |invoke=>simp [fm]at hk
  |builtin b=>cases b<;>simp [fm]at hk
 |_=>simp [ck]at hk
theorem aam{n:Nat}{e:TypeId}{k l e' k' l':Nat}(hn:h[n]?=some (.front e' k' l')):iV h (h.set n (.front e k l))/\iV (h.set n (.front e k l)) h:=by
 refine⟨λm cs hm hc=> ?_,λm cs hm hc=> ?_⟩
 ·have:n≠m:=λe=>by subst e;rw[hn]at hm;cases hm;cases hc
  rw[aqh this];exact hm
 ·by_cases e:n=m
  ·subst e;rw[aqc (apJ.1 hn).1]at hm;cases hm;cases hc
  ·rw[aqh e]at hm;exact hm
theorem Mz{e:TypeId}{k l:Nat}:iV h (h++[.front e k l])/\iV (h++[.front e k l]) h:=by
 refine⟨iV.app _ _,λm cs hm hc=> ?_⟩;by_cases hl:m<h.length
 ·rw[apT hl]at hm;exact hm
 ·rw[apZ (by omega)]at hm;by_cases h0:m-h.length=0
  ·rw[h0]at hm;cases hm;cases hc
  ·rw[aqf (by simp;omega)]at hm;cases hm
theorem aiO(hk:ck o=5)(hc:cz P o ρ h C):∃x h1,C x h1/\(iV h h1/\iV h1 h/\iK h h1)/\∀C':AV->aqx an->Prop,C' x h1->cz P o ρ h C':=by
 obtain⟨dst,op,type,pos,after,guard⟩:=o;cases op with
 |call c=>
  simp only[ck]at hk;cases fm:c.callee with
  |value f=>cases mD:qi f<;>simp [fm,mD]at hk
  |invoke=>simp [fm]at hk
  |builtin b=>
   cases b with
   |append=>
    simp only[cz,fm]at hc;split at hc
    ·rename_i x y T U e1 e2
     rw[bS]at hc;have alz:∀(k:Nat)(y:AV)(F:aqx (aqx D)->Prop),vC h k y F->∃ys,F ys/\∀F':aqx (aqx D)->Prop,F' ys->vC h k y F':=λk y F hF=>by
       unfold vC at hF ⊢;split at hF
       ·split at hF
        ·split at hF
         ·rw[bS]at hF;exact⟨_,hF.2,λF' lr=>bS.2 ⟨hF.1,lr⟩⟩
         ·exact hF.elim
        ·exact hF.elim
       ·split at hF
        ·exact⟨_,hF.2,λF' lr=>⟨hF.1,lr⟩⟩
        ·exact hF.elim
     have key:∀F:AV->aqx an->Prop,wj P T h (ρ x) (ρ y) F->∃v h1,F v h1/\(iV h h1/\iV h1 h/\iK h h1)/\∀F':AV->aqx an->Prop,F' v h1->wj P T h (ρ x) (ρ y) F':=λF hF=>by
      unfold wj at hF ⊢;split at hF
      ·split at hF
       ·rw[bS]at hF;obtain⟨h0,hF⟩:=hF;obtain⟨ys,hF,hs⟩:=alz _ _ _ hF;split at hF
        ·split at hF
         ·rename_i hn
          rw[bS]at hF;obtain⟨g1,g2,g3,g4,g5,g6⟩:=hF;exact⟨_,_,g6,⟨(aam hn).1,(aam hn).2,iK.set hn rfl⟩,λF' lr=>bS.2 ⟨h0,hs _ (bS.2 ⟨g1,g2,g3,g4,g5,lr⟩)⟩⟩
         ·exact hF.elim
        ·obtain⟨g4,g5,g6⟩:=hF;exact⟨_,_,g6,⟨Mz.1,Mz.2,iK.app rfl⟩,λF' lr=>bS.2 ⟨h0,hs _ ⟨g4,g5,lr⟩⟩⟩
        ·obtain⟨g3,g4,g5,g6⟩:=hF;exact⟨_,_,g6,⟨Mz.1,Mz.2,iK.app rfl⟩,λF' lr=>bS.2 ⟨h0,hs _ ⟨g3,g4,g5,lr⟩⟩⟩
        ·exact hF.elim
       ·exact hF.elim
      ·exact hF.elim
     obtain⟨v,h1,k1,c1,k2⟩:=key _ hc.2;exact⟨v,h1,k1,c1,λC' dt=>by simp only[cz,fm,e1,e2];rw[bS];exact⟨hc.1,k2 _ dt⟩⟩
    ·exact hc.elim
   |_=>simp [fm]at hk
 |_=>simp [ck]at hk
theorem Vb{m:Bool}(kp:nG m o=false){s:St}{K:St->Prop}(hd:Ai P o K s):∃x h1,dY m P o (ev s) s.h x h1/\K ((s.wh h1).put o.dst x):=by
 have km:jE m o=ck o:=by unfold jE;rw[kp];rfl
 have plain:qG P o K s->ck o≠4->ck o≠6->∃x h1,dY m P o (ev s) s.h x h1/\K ((s.wh h1).put o.dst x):=λha hk4 Cp=>by
  unfold qG at ha;by_cases h0:ck o=0
  ·obtain⟨x,h1,h2⟩:=adi h0 ha;exact⟨x,s.h,by unfold dY;rw[km,h0];exact⟨rfl,λh' _ C' dt=> .inl (h2 h' C' dt)⟩,h1⟩
  ·by_cases h1:ck o=1
   ·obtain⟨dst,op,type,pos,after,guard⟩:=o;cases op with
    |load t a=>
     simp only[cz]at ha;obtain⟨x,k1,k2⟩:=acT ha;exact⟨x,s.h,by unfold dY;rw[km,h1];exact⟨rfl,λh' hh C' dt=> .inl (by simp only[cz];exact k2 h' hh _ dt)⟩,k1⟩
    |lookup t a b ok=>
     simp only[cz]at ha;split at ha
     ·rename_i x h' p hx
      obtain⟨rfl,k2⟩:=ajZ hx;exact⟨x,s.h,by unfold dY;rw[km,h1];exact⟨rfl,λh' hh C' dt=> .inl (by simp only[cz,k2 h' hh];exact⟨ha.1,dt⟩)⟩,ha.2⟩
     ·exact ha.elim
    |call c=>
     simp only[ck]at h1;cases fm:c.callee with
     |value f=>cases mD:qi f<;>simp [fm,mD]at h1
     |invoke=>simp [fm]at h1
     |builtin b=>cases b<;>simp [fm]at h1
    |_=>simp [ck]at h1
   ·by_cases h2:ck o=2
    ·obtain⟨B,kB,k1,k2⟩:=ahJ h2 ha;exact⟨_,_,by unfold dY;rw[km,h2];exact⟨B,kB,rfl,rfl,λh' C' dt=> .inl (k2 h' C' dt)⟩,k1⟩
    ·by_cases h3:ck o=3
     ·obtain⟨x,rH,k1,kv,k2⟩:=ajv h3 ha;exact⟨x,rH,by unfold dY;rw[km,h3];exact⟨kv,λC' dt=> .inl (k2 C' dt)⟩,k1⟩
     ·by_cases h5:ck o=5
      ·obtain⟨x,rH,k1,c1,k2⟩:=aiO h5 ha;exact⟨x,rH,by unfold dY;rw[km,h5];exact⟨c1,λC' dt=> .inl (k2 C' dt)⟩,k1⟩
      exfalso;obtain⟨dst,op,type,pos,after,guard⟩:=o;cases op with
      |call c=>
       simp only[ck]at h0 h3 hk4 Cp h5;simp only[cz]at ha;cases fm:c.callee with
       |value f=>cases mD:qi f<;>simp [fm,mD]at hk4 Cp
       |invoke=>simp only[fm]at ha
       |builtin b=>cases b<;>simp only[fm]at ha h0 h3 h5<;>first|exact ha|exact absurd rfl h0|exact absurd rfl h3|exact absurd rfl h5|exact h3 trivial|exact h0 trivial|exact h5 trivial
      |_=>first|exact absurd rfl h0|exact absurd rfl h1|exact absurd rfl h2|exact absurd rfl h3|exact ha
 unfold Ai at hd;split at hd
 ·rename_i c hop
  split at hd
  ·rename_i f fm
   have fin:∀x:AV,(∀e,∀C':AV->aqx an->Prop,C' x (s.h++e)->cz P o (ev s) (s.h++e) C')->dY m P o (ev s) s.h x s.h:=λx hx=>by
    have hk:ck o=4\/ck o=6:=by
     unfold ck;simp only[hop,fm];cases qi f<;>simp
    unfold dY;rw[km];rcases hk with hk|hk
    ·rw[hk];exact⟨rfl,λe C' dt=> .inl (hx e C' dt)⟩
    ·rw[hk];refine⟨[],(ap4 _).symm,λC' dt=> .inl ?_⟩;have:=hx [] C' (by rw[ap4];exact dt)
     rwa [ap4]at this
   split at hd
   ·rename_i g c7 hg
    obtain⟨x,hK,jw⟩:=hd;refine⟨x,s.h,fin x λe C' dt=> ?_,hK⟩;unfold cz;simp only[hop,fm,hg];exact(jw e).mono λr' h' ⟨e1,e2⟩=>by subst e1;subst e2;exact dt
   ·rename_i q hg
    obtain⟨g,as,eq,x,hK,jw⟩:=hd;refine⟨x,s.h,fin x λe C' dt=> ?_,hK⟩;unfold cz;simp only[hop,fm,hg];exact⟨g,as,eq,(jw e).mono λr' h' ⟨e1,e2⟩=>by subst e1;subst e2;exact dt⟩
   ·exact hd.elim
  ·rename_i fm
   exact plain hd (by
    unfold ck;simp only[hop];cases hc:c.callee with
    |value f=>exact absurd hc (fm f)
    |invoke=>simp
    |builtin b=>cases b<;>simp) (by
    unfold ck;simp only[hop];cases hc:c.callee with
    |value f=>exact absurd hc (fm f)
    |invoke=>simp
    |builtin b=>cases b<;>simp)
 ·rename_i hop
  exact plain hd (by
   unfold ck;split<;>first|(rename_i c hc;exact(hop c hc).elim)|simp) (by
   unfold ck;split<;>first|(rename_i c hc;exact(hop c hc).elim)|simp)
theorem X9{m:Bool}{h1:aqx an}{x:AV}(h0:dY m P o ρ h x h1):∀C:AV->aqx an->Prop,C x h1->jx P o ρ h C:=λC hC=>by
 unfold dY at h0;split at h0
 ·obtain⟨e,h0⟩:=h0;subst e;exact h0 _ (.inr (iO.refl _)) _ hC
 ·obtain⟨e,h0⟩:=h0;subst e;exact h0 _ (iV.refl _) _ hC
 ·obtain⟨B,_,rfl,rfl,h0⟩:=h0;exact h0 _ _ hC
 ·exact h0.2 _ hC
 ·obtain⟨e,h0⟩:=h0;subst e;have:=h0 [] C (by rw[ap4];exact hC)
  rwa [ap4]at this
 ·exact h0.2 _ hC
 ·obtain⟨e0,_,h0⟩:=h0;exact h0 _ hC
 ·exact h0 _ hC
 ·exact h0.elim
theorem Po{m:Bool}{s:St}{K:St->Prop}(hd:yf m P o K s):∃x h1,dY m P o (ev s) s.h x h1/\K ((s.wh h1).put o.dst x):=by
 cases kp:nG m o with
 |true=>
  have k7:jE m o=7:=by unfold jE;rw[kp];rfl
  rcases hd with hd|⟨_,x,h1,hK,hc⟩|⟨hv,a,x,h',p,hx,hp,hK⟩|⟨_,x,e0,hK,hc⟩
  ·obtain⟨x,h1,h2,hK⟩:=Vb (m:=false) rfl hd;refine⟨x,h1,?_,hK⟩;have:=X9 h2;unfold dY;rw[k7];exact this
  ·exact⟨x,h1,by unfold dY;rw[k7];exact λC hC=> .inl (hc C hC),hK⟩
  ·exact⟨x,h',by unfold dY;rw[k7];exact λC hC=> .inr ⟨hv.imp (·.1) (λe=>(apL _ _▸e).2),a,x,h',p,hx,hp,hC⟩,hK⟩
  ·exact⟨x,_,by unfold dY;rw[k7];exact λC hC=> .inl (hc C hC),hK⟩
 |false=>
 have km:jE m o=ck o:=by unfold jE;rw[kp];rfl
 rcases hd with hd|⟨hb,_⟩|⟨hv,a,x,h',p,hx,hp,hK⟩|⟨hk,x,e0,hK,hc⟩
 ·exact Vb kp hd
 ·rw[kp]at hb;cases hb
 ·obtain⟨hv,Uz⟩:jv o=true/\(m&&ck o==0)=false:=hv.resolve_right λe=>by
   rw[apL]at e;unfold nG at kp;rw[e.1,e.2]at kp;simp at kp
  have hk:ck o=0\/ck o=1\/ck o=3:=by
   unfold jv at hv;unfold ck;split at hv
   all_goals first|(next e=>simp only[e];simp)|skip
   ·next c e=>
    split at hv
    ·next e2=>simp only[e,e2];simp
    ·cases hv
   ·cases hv
  rcases hk with hk|hk|hk
  ·obtain⟨rfl,h2⟩:=ag6 hv hk hx hp;refine⟨x,_,?_,hK⟩;unfold dY;rw[km,hk];exact⟨rfl,λh' hh C hC=> .inr ⟨.inl hv,a,x,h',by obtain⟨p',q1,q2⟩:=h2 h' (hh.resolve_left λe=>by rw[e,hk]at Uz;cases Uz);exact⟨p',q1,q2,hC⟩⟩⟩
  ·obtain⟨rfl,h2⟩:=ajW hv hk hx hp;refine⟨x,_,?_,hK⟩;unfold dY;rw[km,hk];exact⟨rfl,λh' hh C hC=> .inr ⟨.inl hv,a,x,h',by obtain⟨p',q1,q2⟩:=h2 h' hh;exact⟨p',q1,q2,hC⟩⟩⟩
  ·refine⟨x,h',?_,hK⟩;unfold dY;rw[km,hk];exact⟨alZ hv hk hx hp,λC hC=> .inr ⟨.inl hv,a,x,h',p,hx,hp,hC⟩⟩
 ·refine⟨x,_,?_,hK⟩;unfold dY;rw[km,hk];exact⟨e0,rfl,λC hC=> .inl (hc C hC)⟩
end
structure iZ(s s':St):Prop where
 n:s.n=s'.n
 h:s.h=s'.h
 t:∀i,bC s.t i=bC s'.t i
theorem iZ.refl(s:St):iZ s s:=⟨rfl,rfl,λ_=>rfl⟩
theorem iZ.symm{s s':St}(h:iZ s s'):iZ s' s:=⟨h.n.symm,h.h.symm,λi=>(h.t i).symm⟩
theorem iZ.trans{a b c:St}(h:iZ a b)(k:iZ b c):iZ a c:=⟨h.n.trans k.n,h.h.trans k.h,λi=>(h.t i).trans (k.t i)⟩
theorem tz(s:St)(d:aqz Nat)(x:AV)(i:Nat):bC (s.put d x).t i=if d=some i/\i<s.n then x else bC s.t i:=by
 cases d with
 |none=>simp [St.put]
 |some k=>
  by_cases hk:k<s.n
  ·rw[rp hk,nq];by_cases hi:i=k
   ·subst hi;simp [hk]
   ·rw[if_neg hi,if_neg (by simp;intro e;exact absurd e.symm hi)]
  ·rw[DR hk];rw[if_neg (by rintro⟨e,aH⟩;cases e;exact hk aH)]
theorem qY(s:St)(d:aqz Nat)(x:AV):(s.put d x).n=s.n:=by
 cases d with
 |none=>rfl
 |some k=>
  by_cases hk:k<s.n
  ·rw[rp hk]
  ·rw[DR hk]
theorem FT(s:St)(d:aqz Nat)(x:AV):(s.put d x).h=s.h:=by
 cases d with
 |none=>rfl
 |some k=>
  by_cases hk:k<s.n
  ·rw[rp hk]
  ·rw[DR hk]
theorem iZ.put{s s':St}(h:iZ s s')(h1:aqx an)(d:aqz Nat)(x:AV):iZ ((s.wh h1).put d x) ((s'.wh h1).put d x):=
 ⟨by rw[qY,qY];exact h.n,by rw[FT,FT];rfl,λi=>by
  rw[tz,tz];show(if d=some i/\i<s.n then x else bC s.t i)=(if d=some i/\i<s'.n then x else bC s'.t i);rw[h.n,h.t]⟩
theorem aix(s:St)(h1 rH h2:aqx an){d d':aqz Nat}(x x':AV)(cy:∀k,d=some k->d'≠some k):iZ ((((s.wh h1).put d x).wh h2).put d' x') ((((s.wh rH).put d' x').wh h2).put d x):=by
 refine⟨by simp only[qY];show((s.wh h1).put d x).n=((s.wh rH).put d' x').n;simp only[qY];rfl,by simp only[FT];rfl,λi=> ?_⟩;rw[tz,tz];show(if d'=some i/\i<((s.wh h1).put d x).n then x' else bC ((s.wh h1).put d x).t i)=(if d=some i/\i<((s.wh rH).put d' x').n then x else bC ((s.wh rH).put d' x').t i);rw[qY,qY,tz,tz];show(if d'=some i/\i<s.n then x' else(if d=some i/\i<s.n then x else bC s.t i))=(if d=some i/\i<s.n then x else(if d'=some i/\i<s.n then x' else bC s.t i));by_cases a:d=some i
 ·have:=cy i a;simp [a,this]
 ·simp [a]
section
variable {P:aqA} {ops:Array Oper}
def nJ(m:Bool)(P:aqA)(ops:Array Oper)(o:Oper)(s:St)(x:AV)(h1:aqx an):Prop:=
 (ig ops o s True False/\dY m P o (ev s) s.h x h1)\/(ig ops o s False True/\x= .d (.v undef)/\h1=s.h)
theorem RE{o:Oper}{s:St}{yes no:Prop}(h:ig ops o s yes no):(ig ops o s True False/\yes)\/(ig ops o s False True/\no):=by
 unfold ig at h ⊢;split at h
 ·exact .inl ⟨trivial,h⟩
 ·rename_i j want hg
  split at h
  ·rename_i d hd
   split at h
   ·rename_i b hb
    by_cases zb:b=want
    ·exact .inl ⟨⟨λ_=>trivial,λe=>by subst zb;cases b<;>cases e⟩,h.1 zb⟩
    ·have F5:b= !want:=by cases b<;>cases want<;>simp_all
     exact .inr ⟨⟨λe=>(zb e).elim,λ_=>trivial⟩,h.2 F5⟩
   ·exact .inr ⟨trivial,h⟩
   ·exact h.elim
  ·exact h.elim
theorem wU{o:Oper}{s s':St}{yes no:Prop}(ht:∀d,d∈o.looksAt ops->bC s'.t d=bC s.t d)(h:ig ops o s yes no):ig ops o s' yes no:=by
 unfold ig at h ⊢;split at h
 ·exact h
 ·rename_i j want hg
  split at h
  ·rename_i d hd
   have:bC s'.t d=bC s.t d:=ht d (by unfold Oper.looksAt;rw[hg];simp [hd]);rw[this];exact h
  ·exact h.elim
theorem Rh{m:Bool}{o:Oper}{s s':St}{x:AV}{h1:aqx an}(ht:∀d,d∈o.looksAt ops->bC s'.t d=bC s.t d)(hh:s'.h=s.h)(h:nJ m P ops o s x h1):nJ m P ops o s' x h1:=by
 have db:∀y∈o.op.operands,ev s y=ev s' y:=λy hy=>by
  cases y with
  |tmp t=>exact(ht t (by unfold Oper.looksAt;refine aql.2 (.inl (List.mem_filterMap.2 ⟨.tmp t,Array.mem_toList_iff.2 hy,rfl⟩)))).symm
  |_=>rfl
 rcases h with⟨g,hc⟩|⟨g,e1,e2⟩
 ·refine .inl ⟨wU ht g,?_⟩;rw[hh];have uS:∀h C,jx P o (ev s) h C=jx P o (ev s') h C:=λh C=>Pk db;unfold dY at hc ⊢;split at hc
  ·exact⟨hc.1,λh' hh C hC=>uS h' C▸hc.2 h' hh C hC⟩
  ·exact⟨hc.1,λh' hh C hC=>uS _ C▸hc.2 h' hh C hC⟩
  ·obtain⟨B,kB,a,b,c⟩:=hc;exact⟨B,kB,a,b,λh' C hC=>uS h' C▸c h' C hC⟩
  ·exact⟨hc.1,λC hC=>uS _ C▸hc.2 C hC⟩
  ·exact⟨hc.1,λe C hC=>uS _ C▸hc.2 e C hC⟩
  ·exact⟨hc.1,λC hC=>uS _ C▸hc.2 C hC⟩
  ·obtain⟨e0,a,b⟩:=hc;exact⟨e0,a,λC hC=>uS _ C▸b C hC⟩
  ·exact λC hC=>uS _ C▸hc C hC
  ·exact hc.elim
 ·exact .inr ⟨wU ht g,e1,e2.trans hh.symm⟩
theorem Z6{o:Oper}(h:ck o=7):False:=by
 unfold ck at h
 repeat' (first|(split at h)|cases h)
 all_goals (cases hg:qi _<;>rw[hg]at h<;>cases h)
theorem ahc{m:Bool}{o:Oper}{ρ:Operand->AV}{h h1:aqx an}{x:AV}(h7:nG m o=false)(h0:dY m P o ρ h x h1):iO h h1:=by
 unfold dY at h0;unfold jE at h0;rw[h7]at h0;simp only[cond_false]at h0;split at h0
 ·rw[h0.1];exact iO.refl _
 ·rw[h0.1];exact iO.refl _
 ·obtain⟨B,kB,_,e,_⟩:=h0;rw[e];exact(iK.app kB).i
 ·exact h0.1.i
 ·rw[h0.1];exact iO.refl _
 ·exact h0.1.2.2.i
 ·obtain⟨e0,e,_⟩:=h0;rw[e];exact iO.app _ _
 ·next e=>exact(Z6 e).elim
 ·exact h0.elim
theorem aow{m:Bool}{o:Oper}{ρ:Operand->AV}{h h1:aqx an}{x:AV}(h7:nG m o=false)(hk:ck o≠6)(h0:dY m P o ρ h x h1):iO h1 h:=by
 unfold dY at h0;unfold jE at h0;rw[h7]at h0;simp only[cond_false]at h0;split at h0
 ·rw[h0.1];exact iO.refl _
 ·rw[h0.1];exact iO.refl _
 ·obtain⟨B,kB,_,e,_⟩:=h0;rw[e];exact(iK.app kB).j
 ·exact h0.1.j
 ·rw[h0.1];exact iO.refl _
 ·exact h0.1.2.2.j
 ·next e=>exact(hk e).elim
 ·next e=>exact(Z6 e).elim
 ·exact h0.elim
def zW(m:Bool)(a b:Oper):Bool:=(m&&((qC a&&(!nG m b&&ck b==0))||(qC b&&(!nG m a&&ck a==0))))|| !nG m a&& !nG m b&&(ck a==0||(ck b==0&& !(ck a==6))||((ck a==1||ck a==4)&&(ck b==1||ck b==4||ck b==2||ck b==6))||(ck a==1&&ck b==5)||(ck a==5&&ck b==1))
theorem apt{m:Bool}{oi oj:Oper}{s:St}{xi xj:AV}{hi hj:aqx an}(KS:oi.apart ops oj=true)(iD:zW m oi oj=true)(h1:nJ m P ops oi s xi hi)(h2:nJ m P ops oj ((s.wh hi).put oi.dst xi) xj hj):
 ∃iC,nJ m P ops oj s xj iC/\nJ m P ops oi ((s.wh iC).put oj.dst xj) xi hj:=by
 obtain⟨a1,a2,a3⟩:=Oper.apart_spec KS;have tj:∀d,d∈oj.looksAt ops->bC s.t d=bC ((s.wh hi).put oi.dst xi).t d:=λd hd=>by
  rw[tz,if_neg (λe=>a1 d e.1 hd)];rfl
 have ti:∀(h':aqx an) d,d∈oi.looksAt ops->bC ((s.wh h').put oj.dst xj).t d=bC s.t d:=λh' d hd=>by
  rw[tz,if_neg (λe=>a3 d e.1 hd)];rfl
 have fj:((s.wh hi).put oi.dst xi).h=hi:=by rw[FT];rfl
 have nu:∀h',((s.wh h').put oj.dst xj).h=h':=λh'=>by rw[FT];rfl
 have same:hi=s.h->nJ m P ops oj s xj hj:=λe=>Rh tj (by rw[fj,e]) h2;have evi:∀h',∀y∈oi.op.operands,ev ((s.wh h').put oj.dst xj) y=ev s y:=λh' y hy=>by
  cases y with
  |tmp t=>exact ti h' t (by unfold Oper.looksAt;refine aql.2 (.inl (List.mem_filterMap.2 ⟨.tmp t,Array.mem_toList_iff.2 hy,rfl⟩)))
  |_=>rfl
 have evj:∀y∈oj.op.operands,ev ((s.wh hi).put oi.dst xi) y=ev s y:=λy hy=>by
  cases y with
  |tmp t=>exact(tj t (by unfold Oper.looksAt;refine aql.2 (.inl (List.mem_filterMap.2 ⟨.tmp t,Array.mem_toList_iff.2 hy,rfl⟩)))).symm
  |_=>rfl
 have ci:∀h' h C,jx P oi (ev ((s.wh h').put oj.dst xj)) h C=jx P oi (ev s) h C:=λh' h C=>Pk (evi h');have cj:∀h C,jx P oj (ev ((s.wh hi).put oi.dst xi)) h C=jx P oj (ev s) h C:=λh C=>Pk evj;unfold zW at iD;rw[Bool.or_eq_true]at iD;rcases h1 with⟨g1,o1⟩|⟨g1,e1,e2⟩
 ·rcases h2 with⟨g2,o2⟩|⟨g2,f1,f2⟩
  ·rcases iD with iD|iD
   ·
    rw[apL,Bool.or_eq_true,apL,apL,apL,apL,Bool.not_eq_true',Bool.not_eq_true',beq_iff_eq,beq_iff_eq]at iD;obtain⟨hm,iD⟩:=iD;have vK:∀h',ig ops oi ((s.wh h').put oj.dst xj) True False:=λh'=>wU (ti h') g1;have Ix:ig ops oj s True False:=wU tj g2;rcases iD with⟨hai,lj,kj⟩|⟨haj,li,ki⟩
    ·have nK:jE m oj=0:=by unfold jE;rw[lj];exact kj
     have kZ:jE m oi=7:=by unfold jE nG;rw[hm,hai,Bool.or_true];rfl
     unfold dY at o1 o2;rw[kZ]at o1;rw[nK]at o2;simp only at o1 o2;obtain⟨e,o2⟩:=o2;rw[fj]at e;refine⟨s.h, .inl ⟨Ix,?_⟩, .inl ⟨vK s.h,?_⟩⟩
     ·unfold dY;rw[nK];exact⟨rfl,λh' _ C hC=>by rw[<-cj];exact o2 h' (.inl hm) C hC⟩
     ·unfold dY;rw[kZ,nu];exact λC hC=>by rw[ci];exact o1 C (e▸hC)
    ·have kZ:jE m oi=0:=by unfold jE;rw[li];exact ki
     have nK:jE m oj=7:=by unfold jE nG;rw[hm,haj,Bool.or_true];rfl
     unfold dY at o1;rw[kZ]at o1;simp only at o1;obtain⟨e,o1⟩:=o1;refine⟨hj,same e, .inl ⟨vK hj,?_⟩⟩;unfold dY;rw[kZ];exact⟨(nu hj).symm,λh' _ C hC=>by rw[ci];exact o1 h' (.inl hm) C hC⟩
   rw[apL,apL,Bool.not_eq_true',Bool.not_eq_true']at iD;obtain⟨⟨li,lj⟩,iD⟩:=iD;have kZ:jE m oi=ck oi:=by unfold jE;rw[li];rfl
   have nK:jE m oj=ck oj:=by unfold jE;rw[lj];rfl
   have vK:∀h',ig ops oi ((s.wh h').put oj.dst xj) True False:=λh'=>wU (ti h') g1;have Ix:ig ops oj s True False:=wU tj g2;by_cases k0:ck oi=0
   ·unfold dY at o1;rw[kZ,k0]at o1;simp only at o1;obtain⟨e,o1⟩:=o1;refine⟨hj,same e, .inl ⟨vK hj,?_⟩⟩;unfold dY;rw[kZ,k0];have hv:iO s.h hj:=by
     have:=ahc lj o2;rw[fj,e]at this;exact this
    exact⟨(nu hj).symm,λh' hh C hC=>by rw[nu]at hh;rw[ci];exact o1 h' (hh.imp id λhh=>hv.trans hh) C hC⟩
   ·by_cases k1:ck oj=0
    ·unfold dY at o2;rw[nK,k1]at o2;simp only at o2;obtain⟨e,o2⟩:=o2;rw[fj]at e o2;have k6:ck oi≠6:=λk6=>by
      simp [k6,k1]at iD
     have hv:=aow li k6 o1;refine⟨s.h, .inl ⟨Ix,?_⟩, .inl ⟨vK s.h,?_⟩⟩
     ·unfold dY;rw[nK,k1];exact⟨rfl,λh' hh C hC=>by rw[<-cj];exact o2 h' (hh.imp id λhh=>hv.trans hh) C hC⟩
     ·rw[e];unfold dY at o1 ⊢;rw[nu];simp only[ci];exact o1
    ·by_cases WH:ck oi=1/\ck oj=5
     ·obtain⟨ka,kb⟩:=WH;unfold dY at o1 o2;rw[kZ,ka]at o1;rw[nK,kb]at o2;simp only at o1 o2;obtain⟨e,o1⟩:=o1;obtain⟨⟨c1,c2,_⟩,o2⟩:=o2;rw[fj,e]at c1 c2;refine⟨hj,same e, .inl ⟨vK hj,?_⟩⟩;unfold dY;rw[kZ,ka];simp only;refine⟨(nu hj).symm,λh' hh C hC=> ?_⟩;rw[nu]at hh;rw[ci];exact o1 h' (λn cs hn hq=>hh n cs (c1 n cs hn hq) hq) C hC
     by_cases k51:ck oi=5/\ck oj=1
     ·obtain⟨ka,kb⟩:=k51;unfold dY at o1 o2;rw[kZ,ka]at o1;rw[nK,kb]at o2;simp only at o1 o2;obtain⟨⟨c1,c2,c3⟩,o1⟩:=o1;obtain⟨e,o2⟩:=o2;rw[fj]at e o2;refine⟨s.h, .inl ⟨Ix,?_⟩, .inl ⟨vK s.h,?_⟩⟩
      ·unfold dY;rw[nK,kb];simp only;exact⟨trivial,λh' hh C hC=>by rw[<-cj];exact o2 h' (λn cs hn hq=>hh n cs (c2 n cs hn hq) hq) C hC⟩
      ·rw[e];unfold dY;rw[kZ,ka];simp only;rw[nu];exact⟨⟨c1,c2,c3⟩,λC hC=>by rw[ci];exact o1 C hC⟩
     have hc:(ck oi=1\/ck oi=4)/\(ck oj=1\/ck oj=4\/ck oj=2\/ck oj=6):=by
      simp only[Bool.or_eq_true,apL,beq_iff_eq,k0,k1,false_or,false_and]at iD;rcases iD with(iD|iD)|iD
      ·refine⟨iD.1,?_⟩;rcases iD.2 with((h|h)|h)|h
       ·exact .inl h
       ·exact .inr (.inl h)
       ·exact .inr (.inr (.inl h))
       ·exact .inr (.inr (.inr h))
      ·exact absurd iD WH
      ·exact absurd iD k51
     have q1:hi=s.h/\∀e(C:AV->aqx an->Prop),C xi (s.h++e)->jx P oi (ev s) (s.h++e) C:=by
      unfold dY at o1;rcases hc.1 with k|k
      ·rw[kZ,k]at o1;exact⟨o1.1,λe C hC=>o1.2 _ (iV.app _ _) C hC⟩
      ·rw[kZ,k]at o1;exact o1
     have q2:∃e0,hj=s.h++e0:=by
      have tT:=o2;unfold dY at tT;rcases hc.2 with k|k|k|k
      ·rw[nK,k]at tT;exact⟨[],by rw[tT.1,fj,q1.1,ap4]⟩
      ·rw[nK,k]at tT;exact⟨[],by rw[tT.1,fj,q1.1,ap4]⟩
      ·rw[nK,k]at tT;obtain⟨B,_,_,b,_⟩:=tT;exact⟨[B],by rw[b,fj,q1.1]⟩
      ·rw[nK,k]at tT;obtain⟨e0,b,_⟩:=tT;exact⟨e0,by rw[b,fj,q1.1]⟩
     obtain⟨e0,CZ⟩:=q2;refine⟨hj,same q1.1, .inl ⟨vK hj,?_⟩⟩;have:∀e(C:AV->aqx an->Prop),C xi (hj++e)->jx P oi (ev ((s.wh hj).put oj.dst xj)) (hj++e) C:=λe C hC=>by
      rw[ci,CZ,ap0];rw[CZ,ap0]at hC;exact q1.2 _ C hC
     unfold dY;rw[nu];rcases hc.1 with k|k
     ·rw[kZ,k];simp only;refine⟨trivial,λh' hh C hC=> ?_⟩;rw[ci];unfold dY at o1;rw[kZ,k]at o1;exact o1.2 h' (λn cs hn hq=>hh n cs (by rw[CZ];exact iV.app _ _ n cs hn hq) hq) C hC
     ·rw[kZ,k];exact⟨rfl,this⟩
  ·
   subst f1;rw[fj]at f2;refine⟨s.h, .inr ⟨wU tj g2,rfl,rfl⟩,?_⟩;rw[f2];exact Rh (ti s.h) (by rw[nu]) (.inl ⟨g1,o1⟩)
 ·
  subst e1;refine⟨hj,same e2, .inr ⟨wU (ti hj) g1,rfl,(nu hj).symm⟩⟩
def wA(K:St->Prop):Prop:=∀s s',iZ s s'->K s->K s'
def oV(m:Bool)(P:aqA)(ops:Array Oper)(K:St->Prop):Nat->Array Bool->St->Prop
 |0,listed,s=>Region.ready .any ops listed=[]/\K s
 |fuel+1,listed,s=>
  (Region.ready .any ops listed=[]->K s)/\
  ∀i∈Region.ready .any ops listed,∀o,ops[i]?=some o->∃x h1,nJ m P ops o s x h1/\oV m P ops K fuel (listed.setIfInBounds i true) ((s.wh h1).put o.dst x)
theorem ab7{m:Bool}{K:St->Prop}(hK:wA K):∀(fuel:Nat)(listed:Array Bool)(s s':St),iZ s s'->oV m P ops K fuel listed s->oV m P ops K fuel listed s'
 |0,_,s,s',hs,h=>⟨h.1,hK s s' hs h.2⟩
 |fuel+1,_,s,s',hs,h=>⟨λh0=>hK s s' hs (h.1 h0),λi hi o ho=>by
  obtain⟨x,h1,h2,h3⟩:=h.2 i hi o ho;exact⟨x,h1,Rh (λd _=>(hs.t d).symm) hs.h.symm h2,ab7 hK fuel _ _ _ (hs.put h1 o.dst x) h3⟩⟩
def sA(M:Array Nat)(ops:Array Oper):Bool:=
 (List.range ops.size).all λj=>(List.range ops.size).all λi=> !(M.getD j 0).testBit i||match ops[j]? with
  |some o=>o.after.any λe=>Region.binds .any e&&decide (e.on<j)&&(e.on==i||(M.getD e.on 0).testBit i)
  |none=>false
def Dn(ops:Array Oper)(listed:Array Bool):Prop:=∀(j:Nat)(o:Oper),ops[j]?=some o->listed.getD j false=true->∀e∈o.after,Region.binds .any e=true->listed.getD e.on false=true
theorem afQ{M:Array Nat}(hM:sA M ops=true){listed:Array Bool}(hD:Dn ops listed):∀(j i:Nat)(o:Oper),i<ops.size->ops[j]?=some o->(∀e∈o.after,Region.binds .any e=true->listed.getD e.on false=true)->(M.getD j 0).testBit i=true->listed.getD i false=true:=by
 intro j
 induction j using Nat.strongRecOn with
 |_ j ih=>
  intro i o hi ho hp hb;unfold sA at hM;simp only[ap9,List.mem_range]at hM;have h1:=hM j (apY.1 ho).1 i hi;rw[hb,ho]at h1;simp only[Bool.not_true,Bool.false_or]at h1;rw[Array.any_eq_true']at h1;obtain⟨e,he,h2⟩:=h1;simp only[apL,decide_eq_true_eq,Bool.or_eq_true,beq_iff_eq]at h2;obtain⟨⟨SD,aH⟩,h3⟩:=h2;have hl:=hp e he SD;rcases h3 with h3|h3
  ·rw[<-h3];exact hl
  ·have Jd:e.on<ops.size:=Nat.lt_trans aH (apY.1 ho).1;exact ih e.on aH i ops[e.on] hi (ap5 Jd) (hD e.on _ (ap5 Jd) hl) h3
theorem Dn.set{listed:Array Bool}(hD:Dn ops listed){i:Nat}(hr:i∈Region.ready .any ops listed):Dn ops (listed.setIfInBounds i true):=by
 intro j o ho hj e he hb;refine getD_set_true ?_;by_cases og:i=j
 ·subst og;obtain⟨_,o',ho',eW⟩:=mem_ready.1 hr;rw[ho]at ho';cases ho';exact eW e he hb
 ·rw[getD_set_ne false og]at hj;exact hD j o ho hj e he hb
theorem Ox{m:Bool}{K:St->Prop}(hK:wA K){M:Array Nat}(hM:sA M ops=true){i:Nat}{oi:Oper}{x:AV}{h1:aqx an}(hi:ops[i]?=some oi):
 ∀(fuel:Nat)(listed:Array Bool)(s:St),Dn ops listed->
  (∀j oj,ops[j]?=some oj->j≠i->listed.getD j true=false->(M.getD j 0).testBit i=false->oi.apart ops oj=true/\zW m oi oj=true)->
  i∈Region.ready .any ops listed->nJ m P ops oi s x h1->oV m P ops K fuel (listed.setIfInBounds i true) ((s.wh h1).put oi.dst x)->oV m P ops K (fuel+1) listed s:=by
 intro fuel
 induction fuel generalizing x h1 with
 |zero=>
  intro listed s _ _ hr hy H;refine⟨λh=>(by rw[h]at hr;cases hr),λj hj o ho=> ?_⟩;by_cases vB:j=i
  ·subst vB;rw[hi]at ho;cases ho;exact⟨x,h1,hy,H⟩
  ·have:=ready_mono hj vB;rw[H.1]at this;cases this
 |succ fuel ih=>
  intro listed s hD acJ hr hy H;refine⟨λh=>(by rw[h]at hr;cases hr),λj hj oj Bq=> ?_⟩;by_cases vB:j=i
  ·subst vB;rw[hi]at Bq;cases Bq;exact⟨x,h1,hy,H⟩
  ·obtain⟨xj,hj1,NU,H2⟩:=H.2 j (ready_mono hj vB) oj Bq;obtain⟨abA,oj',ZE,eW⟩:=mem_ready.1 hj;rw[Bq]at ZE;cases ZE;have ahZ:=(apY.1 hi).1;have tq:listed.getD i false=false:=by
    have h0:=(mem_ready.1 hr).1;rcases Nat.lt_or_ge i listed.size with h'|h'
    ·simpa [h']using h0
    ·simp [Array.getElem?_eq_none h']at h0
   have gd:(M.getD j 0).testBit i=false:=by
    cases hb:(M.getD j 0).testBit i with
    |false=>rfl
    |true=>rw[afQ hM hD j i oj ahZ Bq eW hb]at tq;cases tq
   obtain⟨KS,iD⟩:=acJ j oj Bq vB abA gd;obtain⟨iC,s1,s2⟩:=apt KS iD hy NU;obtain⟨_,a2,_⟩:=Oper.apart_spec KS;refine⟨xj,iC,s1,ih (listed.setIfInBounds j true) _ (hD.set hj) (λk ok hk NA Yx yl=> ?_) (ready_mono hr (Ne.symm vB)) s2 ?_⟩
   ·refine acJ k ok hk NA ?_ yl;by_cases KE:j=k
    ·subst KE;exact abA
    ·rw[getD_set_ne true KE]at Yx;exact Yx
   ·rw[Array.setIfInBounds_comm _ _ vB];exact ab7 hK _ _ _ _ (aix s h1 iC hj1 x xj (λk hk=>a2 k hk)) H2
def ZQ(M:Array Nat)(ops:Array Oper)(k:Nat):Bool:=
 match ops[k]? with
 |none=>false
 |some oi=>(List.range ops.size).all λj=>decide (j<=k)||(M.getD j 0).testBit k||match ops[j]? with
  |some oj=>oi.apart ops oj&&zW false oi oj
  |none=>true
def B6(M:Array Nat)(ops:Array Oper):Nat->Nat->Array Bool->Bool
 |0,_,listed=>(Region.ready .any ops listed).isEmpty
 |fuel+1,k,listed=>(Region.ready .any ops listed).contains k&&ZQ M ops k&&B6 M ops fuel (k+1) (listed.setIfInBounds k true)
def uC(ops:Array Oper):Bool:=sA (Region.before ops) ops&&B6 (Region.before ops) ops ops.size 0 (Array.replicate ops.size false)
theorem Vh{K K':St->Prop}(hK:wA K')(CK:∀s,K s->K' s){M:Array Nat}(hM:sA M ops=true):∀(l:aqx Oper)(k:Nat)(listed:Array Bool)(s:St),(∀j,l[j]?=ops[k+j]?)->(∀j,j<k->listed.getD j true=true)->Dn ops listed->
 B6 M ops l.length k listed=true->FM P ops l K s->oV false P ops K' l.length listed s
 |[],_,_,_,_,_,_,hB,h=>⟨by simpa [B6]using hB,CK _ h⟩
 |o::l,k,listed,s,hl,qx,hD,hB,h=>by
  have h0:ops[k]?=some o:=by simpa using (hl 0).symm
  simp only[apM,B6,apL]at hB;obtain⟨⟨hr,hf⟩,dC⟩:=hB;have ql:k∈Region.ready .any ops listed:=by simpa using hr
  have qc:∀j,l[j]?=ops[k+1+j]?:=λj=>by have:=hl (j+1);simpa [Nat.add_assoc,Nat.add_comm 1 j]using this
  have an7:∀j,j<k+1->(listed.setIfInBounds k true).getD j true=true:=λj hj=>by
   by_cases e:k=j
   ·subst e;rcases Nat.lt_or_ge k listed.size with h'|h'
    ·simp [h']
    ·have:(listed.setIfInBounds k true)[k]?=none:=Array.getElem?_eq_none (by simpa using h');rw[Array.getD_eq_getD_getElem?,this];rfl
   ·rw[getD_set_ne true e];exact qx j (by omega)
  obtain⟨x,h1,hy,Ap⟩:∃x h1,nJ false P ops o s x h1/\FM P ops l K ((s.wh h1).put o.dst x):=by
   rcases RE h with⟨g,hd⟩|⟨g,hd⟩
   ·obtain⟨x,h1,h2,h3⟩:=Po hd;exact⟨x,h1, .inl ⟨g,h2⟩,h3⟩
   ·exact⟨_,s.h, .inr ⟨g,rfl,rfl⟩,hd⟩
  refine Ox hK hM h0 l.length listed s hD (λj oj hj cy tq yl=> ?_) ql hy (Vh hK CK hM l (k+1) _ _ qc an7 (hD.set ql) dC Ap);unfold ZQ at hf;rw[h0]at hf;simp only[ap9,List.mem_range]at hf;have:=hf j (apY.1 hj).1;rw[yl,hj]at this;simp only[Bool.or_false,Bool.or_eq_true,apL,decide_eq_true_eq]at this;rcases this with this|this
  ·exfalso;have:=qx j (by omega);rw[this]at tq;cases tq
  ·exact this
def U5(ops:Array Oper):Nat->Array Bool->aqx Nat
 |0,_=>[]
 |f+1,listed=>match (Region.ready .any ops listed).find? (λk=>match ops[k]? with|some o=> !(ck o==6)&& !JX o|none=>false)with
  |some k=>k::U5 ops f (listed.setIfInBounds k true)
  |none=>match Region.ready .any ops listed with
   |k::_=>k::U5 ops f (listed.setIfInBounds k true)
   |[]=>[]
def Ff(m:Bool)(M:Array Nat)(ops:Array Oper):aqx Nat->Array Bool->Bool
 |[],listed=>(Region.ready .any ops listed).isEmpty
 |k::l,listed=>(Region.ready .any ops listed).contains k&&(match ops[k]? with
  |none=>false
  |some oi=>(List.range ops.size).all λj=>j==k||listed.getD j true||(M.getD j 0).testBit k||match ops[j]? with
   |some oj=>oi.apart ops oj&&zW m oi oj
   |none=>true)&&Ff m M ops l (listed.setIfInBounds k true)
def yI(m:Bool)(ops:Array Oper)(p:aqx Nat):Bool:=sA (Region.before ops) ops&&Ff m (Region.before ops) ops p (Array.replicate ops.size false)
def tB(ops:Array Oper):aqx Nat->aqx Oper
 |[]=>[]
 |k::l=>match ops[k]? with
  |some o=>o::tB ops l
  |none=>tB ops l
theorem YP{m:Bool}{K K':St->Prop}(hK:wA K')(CK:∀s,K s->K' s){M:Array Nat}(hM:sA M ops=true):∀(l:aqx Nat)(listed:Array Bool)(s:St),Dn ops listed->
 Ff m M ops l listed=true->vm m P ops (tB ops l) K s->oV m P ops K' l.length listed s
 |[],_,_,_,hB,h=>⟨by simpa [Ff]using hB,CK _ h⟩
 |k::l,listed,s,hD,hB,h=>by
  simp only[Ff,apL]at hB;obtain⟨⟨hr,hf⟩,dC⟩:=hB;have ql:k∈Region.ready .any ops listed:=by simpa using hr
  obtain⟨_,o,h0,_⟩:=mem_ready.1 ql;rw[h0]at hf;simp only[ap9,List.mem_range]at hf;simp only[tB,h0]at h;obtain⟨x,h1,hy,Ap⟩:∃x h1,nJ m P ops o s x h1/\vm m P ops (tB ops l) K ((s.wh h1).put o.dst x):=by
   rcases RE h with⟨g,hd⟩|⟨g,hd⟩
   ·obtain⟨x,h1,h2,h3⟩:=Po hd;exact⟨x,h1, .inl ⟨g,h2⟩,h3⟩
   ·exact⟨_,s.h, .inr ⟨g,rfl,rfl⟩,hd⟩
  refine Ox hK hM h0 l.length listed s hD (λj oj hj cy tq yl=> ?_) ql hy (YP hK CK hM l _ _ (hD.set ql) dC Ap);have:=hf j (apY.1 hj).1;rw[yl,tq,hj]at this;simp only[Bool.or_false,Bool.or_eq_true,apL,beq_iff_eq]at this;rcases this with this|this
  ·exact absurd this cy
  ·exact this
end
section
variable {P:aqA} {r:aqz Nat} {n N0:Nat} {G:Gh} {w:aqC} {a:Act} {s:St} {o:Oper} {Q:Exit->St->Prop}
theorem cG.drew(hs:cG G w a s):bI G.N G w G {w with drawn:=w.drawn+1}/\cG G {w with drawn:=w.drawn+1} a s:=by
 have hE:bI G.N G w G {w with drawn:=w.drawn+1}:=⟨apU _,λ_ _ h=>h,λ_ _ _=>rfl,λ_ _=>rfl,λ_ _=> .inl ⟨rfl,rfl⟩,gp rfl,λ_ _=>rfl,rfl,rfl,rfl,λ_ _ h=> .inl h⟩;have hi:bD G {w with drawn:=w.drawn+1} s.h:=⟨hs.inv.len,hs.inv.z,hs.inv.S,λn B hB=>dD.aT (hs.inv.lt hB) hE (apU _) ⟨rfl,rfl,rfl⟩ (λ_ _=>⟨rfl,λ_ h=>h⟩) (hs.inv.cD n B hB),hs.inv.inj,hs.inv.gl.aT hE⟩;exact⟨hE,hs.move hE (apU _) hi⟩
theorem ajV{m:Bool}{x:AV}{h1:aqx an}(h:dY m P o (ev s) s.h x h1):jx P o (ev s) s.h (λx' h'=>(s.wh h').put o.dst x'=(s.wh h1).put o.dst x):=X9 h _ rfl
theorem Gc{m:Bool}{ops:Array Oper}{K:St->Prop}{Q':Exit->Act->aqC->Prop}(hQ:∀a' w',iN N0 G w K a' w'->Q' .normal a' w'):∀(fuel:Nat)(listed:Array Bool)(G1:Gh)(w1:aqC)(a:Act)(s:St),
 bI N0 G w G1 w1->N0<=G1.N->cG G1 w1 a s->oV m P ops K fuel listed s->wpAnyIn (WF r) n P .any ops Q' fuel listed a w1
 |0,_,G1,w1,a,s,hE,hN,hs,h=>⟨h.1,hQ _ _ ⟨G1,s,hE,hN,hs,h.2⟩⟩
 |fuel+1,listed,G1,w1,a,s,hE,hN,hs,h=>by
  refine⟨λh0=>hQ _ _ ⟨G1,s,hE,hN,hs,h.1 h0⟩,λi hi=> ?_⟩;obtain⟨_,o,ho,_⟩:=mem_ready.1 hi;obtain⟨x,h1,hy,Ap⟩:=h.2 i hi o ho;unfold wpOpIn;rw[ho];simp only;rcases hy with⟨g,hc⟩|⟨g,rfl,rfl⟩
  ·have hg:=Ov hs g;split at hg
   ·rename_i hw
    rw[if_pos hw];refine Oper.wpIn_mono (λa' w' hn=> ?_) ((ajV hc).elim (λk=>ZY (K:=λs'=>s'=(s.wh h1).put o.dst x) (r:=r) (n:=n) (N0:=N0) (Q:=Q') hs hN k) fun⟨_,va,x',h',p,k1,k2,k3⟩=>Ut (K:=λs'=>s'=(s.wh h1).put o.dst x) (r:=r) (n:=n) (N0:=N0) (Q:=Q') hs hN ⟨va,x',h',p,k1,k2,k3⟩);obtain⟨G2,s2,e2,n2,RK,rfl⟩:=hn;exact Gc hQ fuel _ G2 w' a' _ (hE.trans e2) n2 RK Ap
   ·exact hg.elim
  ·have hg:=Ov hs g;split at hg
   ·exact hg.elim
   ·rename_i hw
    rw[if_neg hw];exact⟨λ_ _=>trivial,Gc hQ fuel _ G1 w1 _ _ hE hN (hs.put (.d (.v undef)) o.dst) Ap⟩
theorem Sl{id:Nat}{l:aqx Oper}(hm:P.follows .mixedOrders=true)(hl:uC l.toArray=true)(h:FM P l.toArray l (Q .normal) s):bu P r N0 (.region id l.toArray true) Q s:=by
 constructor
 intro G w a n hs hN;unfold uC at hl;rw[apL]at hl;obtain⟨d1,d2⟩:=hs.drew;refine wpIn_region_any hm ?_;have hC:wA (λs=>∃s',iZ s' s/\Q .normal s'):=λs s' e ⟨s0,e0,h0⟩=>⟨s0,e0.trans e,h0⟩;have:=Vh (K:=Q .normal) hC (λs h=>⟨s,iZ.refl s,h⟩) hl.1 l 0 (Array.replicate l.toArray.size false) s (by simp) (λj hj=>absurd hj (aqb _)) (λj o ho hj=>by
  exfalso;rw[Array.getD_eq_getD_getElem?]at hj;rw[Array.getElem?_replicate]at hj;split at hj<;>simp at hj) (by simpa using hl.2) h
 refine Gc (G:=G) (w:=w) (N0:=N0) (K:=λs=>∃s',iZ s' s/\Q .normal s') (λa' w' hn=> ?_) l.toArray.size _ G _ a s (d1.less hN) hN d2 (by simpa using this);obtain⟨G',s',x1,x2,x3,s0,e0,x4⟩:=hn;refine⟨G',s0,x1,x2,⟨x3.size.trans e0.n.symm,λi=>by rw[e0.t i];exact x3.tmp i,by rw[e0.h];exact x3.inv,x3.df⟩,x4⟩
theorem R8{m:Bool}{id:Nat}{ops:Array Oper}(p:aqx Nat)(hm:P.follows .mixedOrders=true)(hz:p.length=ops.size)(hl:yI m ops p=true)(h:vm m P ops (tB ops p) (Q .normal) s):bu P r N0 (.region id ops true) Q s:=by
 constructor
 intro G w a n hs hN;unfold yI at hl;rw[apL]at hl;obtain⟨d1,d2⟩:=hs.drew;refine wpIn_region_any hm ?_;have hC:wA (λs=>∃s',iZ s' s/\Q .normal s'):=λs s' e ⟨s0,e0,h0⟩=>⟨s0,e0.trans e,h0⟩;have:=YP (K:=Q .normal) hC (λs h=>⟨s,iZ.refl s,h⟩) hl.1 p (Array.replicate ops.size false) s (λj o ho hj=>by
  exfalso;rw[Array.getD_eq_getD_getElem?]at hj;rw[Array.getElem?_replicate]at hj;split at hj<;>simp at hj) hl.2 h
 rw[hz]at this;refine Gc (G:=G) (w:=w) (N0:=N0) (K:=λs=>∃s',iZ s' s/\Q .normal s') (λa' w' hn=> ?_) ops.size _ G _ a s (d1.less hN) hN d2 this;obtain⟨G',s',x1,x2,x3,s0,e0,x4⟩:=hn;refine⟨G',s0,x1,x2,⟨x3.size.trans e0.n.symm,λi=>by rw[e0.t i];exact x3.tmp i,by rw[e0.h];exact x3.inv,x3.df⟩,x4⟩
end
def apy(want:Bool):AV->Bool
 | .d (.v (.bool b))=>b==want
 |_=>false
def gNo(want:Bool):AV->Bool
 | .d (.v (.bool b))=>b== !want
 | .d (.v (.tuple _))=>true
 |_=>false
def ak0(t:aqx (Nat×AV)):aqz Nat->AV
 |some d=>bC t d
 |none=> .dead
def wI(ops:Array Oper)(j:Nat)(t:aqx (Nat×AV)):AV:=ak0 t ((ops[j]?).bind (·.dst))
section
variable {P:aqA} {ops:Array Oper} {dst:aqz Nat} {op:Op} {ty:TypeId} {pos:String} {after:Array Edge} {j:Nat} {w:Bool} {s:St} {rest:aqx Oper} {K:St->Prop} {y n:Prop}
theorem MF:ig ops ⟨dst,op,ty,pos,after,some (j,w)⟩ s y n=(match wI ops j s.t with
 | .d (.v (.bool b))=>(b=w->y)/\(b= !w->n)
 | .d (.v (.tuple _))=>n
 |_=>False):=by
 show(match (ops[j]?).bind (·.dst)with
  |some d=>match bC s.t d with
   | .d (.v (.bool b))=>(b=w->y)/\(b= !w->n)
   | .d (.v (.tuple _))=>n
   |_=>False
  |none=>False)=_
 unfold wI;cases (ops[j]?).bind (·.dst)<;>rfl
end
section
variable {P:aqA} {r:aqz Nat} {n N0:Nat} {G:Gh} {w:aqC} {a:Act} {s:St} {o:Oper} {Q:Exit->St->Prop}
theorem dL{K:St->Prop}(h:K s):gy K Q .normal s:=h
theorem wH{K:St->Prop}{i:Nat}(h:Q (.exit i) s):gy K Q (.exit i) s:=h
theorem jN{K:St->Prop}(h:Q .ret s):gy K Q .ret s:=h
theorem jK{id:Nat}(h:Q .normal s):rE id Q .normal s:=h
theorem lE{id:Nat}(h:Q .ret s):rE id Q .ret s:=h
theorem CA{id i:Nat}(e:(i==id)=true)(h:Q .normal s):rE id Q (.exit i) s:=by simpa only[rE,e,cond_true]using h
theorem anL{id i:Nat}(e:(i==id)=false)(h:Q (.exit i) s):rE id Q (.exit i) s:=by simpa only[rE,e,cond_false]using h
theorem rG{c:Operand}{x y:Code}(hc:ev s c= .d (.v (.bool true)))(h:bu P r N0 x Q s):bu P r N0 (.cond c x y) Q s:=DC hc (λ_=>h) λh=>Bool.noConfusion h
theorem rC{c:Operand}{x y:Code}(hc:ev s c= .d (.v (.bool false)))(h:bu P r N0 y Q s):bu P r N0 (.cond c x y) Q s:=DC hc (λh=>Bool.noConfusion h) λ_=>h
theorem jI{c:Operand}{x y:Code}{t:Bool}(hc:ev s c= .d (.v (.bool t)))(e:t=true)(h:bu P r N0 x Q s):bu P r N0 (.cond c x y) Q s:=rG (by rw[hc,e]) h
theorem jj{c:Operand}{x y:Code}{t:Bool}(hc:ev s c= .d (.v (.bool t)))(e:t=false)(h:bu P r N0 y Q s):bu P r N0 (.cond c x y) Q s:=rC (by rw[hc,e]) h
theorem aa9{c:Code}(k:Nat)(e:TypeId)(sz:Nat)(xs:aqx (aqx D))(hx:bC s.t k= .full xs\/(bC s.t k= .d (.v (.slice none 0 0))/\xs=[]))
 (h:bu P r N0 c Q ⟨s.n,(k, .own s.h.length xs)::s.t,s.h++[.front e sz xs.length]⟩):bu P r N0 c Q s:=by
 constructor
 intro G w a n hs hN;have hp:dn G.S w (a.tmps.getD k undef) (.sl xs)/\∃A,a.tmps.getD k undef= .slice A xs.length xs.length:=by
  have hv:=hs.tmp k;revert hv;generalize a.tmps.getD k undef=u;intro hv;rcases hx with hx|⟨hx,rfl⟩
  ·rw[hx]at hv;cases hv with|full _ hp hf=>exact⟨hp,hf⟩
  ·rw[hx]at hv;rw[hv.val];exact⟨Gt,none,rfl⟩
 obtain⟨a1,a2,a3,a4⟩:=M1 hs.inv hp.1 hp.2 e sz;have ct:cG (G.im (a.tmps.getD k undef) xs.length) w a ⟨s.n,(k, .own s.h.length xs)::s.t,s.h++[.front e sz xs.length]⟩:=by
  refine⟨hs.size,λi=> ?_,a3,hs.df.aT a1⟩;show aD _ _ _ (bC ((k, .own s.h.length xs)::s.t) i);rw[nq];split
  ·next e=>exact e▸a4
  ·exact(hs.tmp i).aT a1 a2
 exact wpIn_mono (h.run _ w a n ct (ap1 hN a2)) λ_ _ _ hn=>hn.trans (a1.less hN)
end
theorem Ss{G:Gh}{w:aqC}{h:aqx an}{b:Nat}{cs bP:aqx AV}(hi:bD G w h)(hb:h[b]?=some (.cells cs))(hl:bP.length=cs.length)
 (hc:∀(vs:Array aqB)(T:TypeId),w.heap[G.aI b]?=some (.cells vs T (0,0))->∀(i:Nat)(u:aqB)(c:AV),vs[i]?=some u->bP[i]?=some c->aD G w u c):bD G w (h.set b (an.cells bP)):=by
 have ho:∀n,bM (h.set b (an.cells bP)) G n=bM h G n:=λn=>by
  have aH:=(apJ.1 hb).1;unfold bM;by_cases e:b=n
  ·subst e;rw[aqc aH,hb];rfl
  ·rw[aqh e]
 refine⟨by rw[List.length_set];exact hi.len,hi.z,hi.S,λn B hB=> ?_,λm n x hm hn=>hi.inj m n x (by rw[<-ho];exact hm) (by rw[<-ho];exact hn),hi.gl⟩;have aH:=(apJ.1 hb).1;by_cases e:b=n
 ·subst e;rw[aqc aH]at hB;cases hB
  obtain⟨h1,h2,vs,T,h3,h4,_⟩:=hi.cD _ _ hb;exact⟨h1,h2,vs,T,h3,h4.trans hl.symm,hc vs T h3⟩
 ·rw[aqh e]at hB;exact hi.cD n B hB
theorem Yn{P:aqA}{r:aqz Nat}{N0:Nat}{s:St}{Q:Exit->St->Prop}{c:Code}(b i:Nat)(e:TypeId)(sz:Nat)(xs:aqx (aqx D)){cs:aqx AV}(hb:s.h[b]?=some (.cells cs))(hx:cs[i]?=some (.full xs)\/(cs[i]?=some (.d (.v (.slice none 0 0)))/\xs=[]))
 (h:bu P r N0 c Q ⟨s.n,s.t,(s.h++[an.front e sz xs.length]).set b (an.cells (cs.set i (AV.own s.h.length xs)))⟩):bu P r N0 c Q s:=by
 constructor
 intro G w a n hs hN;obtain⟨h1,h2,vs,T,h3,h4,h5⟩:=hs.inv.cD _ _ hb;have hi:i<cs.length:=by rcases hx with hx|⟨hx,_⟩<;>exact(apJ.1 hx).1
 have hv:vs[i]?=some vs[i]:=ap5 (by omega);have hp:dn G.S w vs[i] (.sl xs)/\∃A,vs[i]= .slice A xs.length xs.length:=by
  rcases hx with hx|⟨hx,rfl⟩
  ·have:=h5 i _ _ hv hx;generalize vs[i]=u at this;cases this with|full _ hp hf=>exact⟨hp,hf⟩
  ·have:=h5 i _ _ hv hx;rw[this.val];exact⟨Gt,none,rfl⟩
 obtain⟨a1,a2,a3,a4⟩:=M1 hs.inv hp.1 hp.2 e sz;have aH:=(apJ.1 hb).1;have ct:cG (G.im vs[i] xs.length) w a ⟨s.n,s.t,(s.h++[an.front e sz xs.length]).set b (an.cells (cs.set i (AV.own s.h.length xs)))⟩:=by
  refine⟨hs.size,λj=>(hs.tmp j).aT a1 a2,Ss a3 (by rw[apT aH];exact hb) (by rw[List.length_set]) λej T' qb j u c hu hc=> ?_,hs.df.aT a1⟩;have e1:(G.im vs[i] xs.length).aI b=G.aI b:=by
   have:b≠G.N:=by have:=hs.inv.len;omega
   simp [Gh.im]
  rw[e1,h3]at qb;cases qb
  by_cases e2:i=j
  ·subst e2;rw[aqc hi]at hc;cases hc
   rw[hv]at hu;cases hu
   exact a4
  ·rw[aqh e2]at hc;exact(h5 j u c hu hc).aT a1 a2
 exact wpIn_mono (h.run _ w a n ct (ap1 hN a2)) λ_ _ _ hn=>hn.trans (a1.less hN)
theorem ij.q{P:aqA}{f:FuncId}{args:aqx AV}{r:AV}{h:aqx an}{C:AV->Prop}(hc:ij P f args (·=r))(ha:args.all (AV.aQ 0)=true)(hr:r.aQ 0=true)(hC:C r):OX P f args h C:=
 ⟨r,hC,λ_=>hc.use ha hr ⟨rfl,rfl⟩⟩
def AV.Le(x y:AV):Prop:=∀(G:Gh)(w:aqC)(u:aqB),aD G w u x->aD G w u y
theorem AV.Le.refl(x:AV):AV.Le x x:=λ_ _ _ h=>h
theorem AV.Le.full(xs:aqx (aqx D)):AV.Le (.full xs) (.d (.sl xs)):=λ_ _ _ h=>by
 cases h with|full _ hp _=>exact .d hp
theorem AV.Le.nil:AV.Le (.d (.v (.slice none 0 0))) (.d (.sl [])):=λ_ _ _ h=>by
 rw[h.val];exact .d Gt
theorem AV.Le.agg{cs ds:aqx AV}(hl:cs.length=ds.length)(h:∀(i:Nat)(c d:AV),cs[i]?=some c->ds[i]?=some d->AV.Le c d):AV.Le (.agg cs) (.agg ds):=λG w u hu=>by
 cases hu with
 |agg vs _ qc hv=>
  refine .agg vs ds (qc.trans hl) λi u d hui hd=> ?_;have aH:i<cs.length:=by rw[hl];exact(apJ.1 hd).1
  exact h i _ d (apN aH) hd G w u (hv i u _ hui (apN aH))
set_option linter.unusedSimpArgs false
set_option linter.unusedVariables false
def rn:aqx Nat->Nat->Nat->Nat
 |[],base,i=>base+i
 |j::_,_,0=>j
 |_::l,base,i+1=>rn l base i
theorem Ah:∀(l:aqx Nat)(base i:Nat)(j:Nat),l[i]?=some j->rn l base i=j
 |[],_,i,j,h=>by simp at h
 |a::l,base,0,j,h=>by simpa [rn]using h
 |a::l,base,i+1,j,h=>by rw[rn];exact Ah l base i j (by simpa using h)
theorem Mb:∀(l:aqx Nat)(base i:Nat),l.length<=i->rn l base i=base+(i-l.length)
 |[],base,i,_=>by simp [rn]
 |a::l,base,0,h=>by simp at h
 |a::l,base,i+1,h=>by rw[rn,Mb l base i (by simpa using h)];simp
mutual
def AV.aL(σ:Nat->Nat):AV->AV
 | .ptr n off=> .ptr (σ n) off
 | .own n xs=> .own (σ n) xs
 | .row n off len cap k=> .row (σ n) off len cap k
 | .mp n=> .mp (σ n)
 | .cY n=> .cY (σ n)
 | .vec n o len L k=> .vec (σ n) o len L k
 | .dq n i j L k=> .dq (σ n) i j L k
 | .agg cs=> .agg (AV.dR σ cs)
 | .bz cs=> .bz (AV.dR σ cs)
 | .fn f cs=> .fn f (AV.dR σ cs)
 | .d x=> .d x
 | .bJ xs i off=> .bJ xs i off
 | .full xs=> .full xs
 | .hid c=> .hid c
 | .dead=> .dead
def AV.dR(σ:Nat->Nat):aqx AV->aqx AV
 |[]=>[]
 |x::l=>x.aL σ::AV.dR σ l
end
theorem gu(σ:Nat->Nat):∀l,AV.dR σ l=l.map (AV.aL σ)
 |[]=>by simp [AV.dR]
 |x::l=>by simp [AV.dR,gu σ l]
def an.aL(σ:Nat->Nat):an->an
 | .cells cs=> .cells (AV.dR σ cs)
 | .lp ls p as bd cs=> .lp ls p as bd (AV.dR σ cs)
 | .it sn cs=> .it sn (AV.dR σ cs)
 | .aV T cs=> .aV T (AV.dR σ cs)
 | .vec e k cs=> .vec e k (cs.map (AV.dR σ))
 | .front e k len=> .front e k len
 | .bm e b=> .bm e b
 | .map kv=> .map kv
 | .fV kv=> .fV kv
 | .gone=> .gone
def gZ:aqx Nat->aqx an->aqx an->aqx an
 |[],Bs,h=>h++Bs
 |_::_,[],h=>h
 |i::l,B::Bs,h=>gZ l Bs (h.set i B)
structure qI(σ:Nat->Nat)(G G2:Gh):Prop where
 lt:∀n,n<G.N->σ n<G2.N
 aI:∀n,n<G.N->G2.aI (σ n)=G.aI n
 sg:∀n,n<G.N->G2.sg (σ n)=G.sg n
 fl:∀n,n<G.N->G2.fl (σ n)=G.fl n
 ow:∀n,n<G.N->G2.ow (σ n)=G.ow n
 S:∀b o,G2.S b o↔G.S b o
theorem dn.u9{S S':Nat->Nat->Prop}{w:aqC}(hS:∀b o,S b o->S' b o){u:aqB}{x:D}(h:dn S w u x):dn S' w u x:=h.aT hS (λ_ _ _=>rfl)
theorem aD.aL{σ:Nat->Nat}{G G2:Gh}{w:aqC}(hR:qI σ G G2){u:aqB}{x:AV}(h:aD G w u x):aD G2 w u (x.aL σ):=by
 have hS:∀b o,G.S b o->G2.S b o:=λb o h=>(hR.S b o).2 h;have gk:∀(vs:Array aqB)(cs:aqx AV),(∀(i:Nat)(u:aqB)(c:AV),vs[i]?=some u->cs[i]?=some c->aD G2 w u (c.aL σ))->∀(i:Nat)(u:aqB)(c:AV),vs[i]?=some u->(AV.dR σ cs)[i]?=some c->aD G2 w u c:=by
  intro vs cs ih i u c hu hc;rw[gu,apQ]at hc;cases hx:cs[i]? with
  |none=>rw[hx]at hc;cases hc
  |some x=>rw[hx]at hc;cases hc;exact ih i u x hu hx
 induction h with
 |agg vs cs hl _ ih=>rw[AV.aL];exact .agg vs _ (by rw[gu,apO];exact hl) (gk vs cs ih)
 |bz vs cs hl _ ih=>rw[AV.aL];exact .bz vs _ (by rw[gu,apO];exact hl) (gk vs cs ih)
 |fn f vs cs hl _ ih=>rw[AV.aL];exact .fn f vs _ (by rw[gu,apO];exact hl) (gk vs cs ih)
 |d h=>rw[AV.aL];exact .d (h.u9 hS)
 |full xs hp hf=>rw[AV.aL];exact .full xs (hp.u9 hS) hf
 |ptr n off h=>rw[AV.aL,<-hR.aI n h];exact .ptr _ off (hR.lt n h)
 |row n off len cap k h hl hm=>rw[AV.aL,<-hR.aI n h];exact .row _ off len cap k (hR.lt n h) hl hm
 |mp n h=>rw[AV.aL,<-hR.aI n h];exact .mp _ (hR.lt n h)
 |cY n h=>rw[AV.aL,<-hR.aI n h];exact .cY _ (hR.lt n h)
 |own n xs h hp hle hf=>rw[AV.aL];exact .own _ xs (hR.lt n h) (hp.u9 hS) (by rw[hR.fl n h];exact hle) (by rw[hR.fl n h,hR.sg n h];exact hf)
 |vec n o len L k h hs hL hf=>rw[AV.aL];exact .vec _ o len L k (hR.lt n h) hs (by rw[hR.fl n h];exact hL) (by rw[hR.fl n h,hR.sg n h];exact hf)
 |dq n i j L k h hs hL hf=>rw[AV.aL];exact .dq _ i j L k (hR.lt n h) hs (by rw[hR.fl n h];exact hL) (by rw[hR.fl n h,hR.sg n h];exact hf)
 |bJ xs i off b o u x hx rk hu=>rw[AV.aL];exact .bJ xs i off b o u x hx (λj hj=>⟨hS _ _ (rk j hj).1,(rk j hj).2⟩) (λj d hd=>(hu j d hd).u9 hS)
 |hid h h1=>rw[AV.aL];exact .hid (h.aT hS (λ_ _ _=>rfl)) h1
 |dead u=>rw[AV.aL];exact .dead u
theorem aD.tJ{σ:Nat->Nat}{G G2:Gh}{w:aqC}(hR:qI σ G G2){u:aqB}{y:AV}(h:aD G2 w u y):∀x:AV,x.aL σ=y->x.aQ G.N=true->aD G w u x:=by
 have hS:∀b o,G2.S b o->G.S b o:=λb o h=>(hR.S b o).1 h;have lt:∀n,(!cn G.N n)=true->n<G.N:=λn h=>by rw[Bool.not_eq_true',<-Bool.not_eq_true,dI]at h;omega
 have gk:∀(vs:Array aqB)(cs xs:aqx AV),(∀(i:Nat)(u:aqB)(c:AV),vs[i]?=some u->cs[i]?=some c->∀x:AV,x.aL σ=c->x.aQ G.N=true->aD G w u x)->AV.dR σ xs=cs->AV.oH G.N xs=true->∀(i:Nat)(u:aqB)(c:AV),vs[i]?=some u->xs[i]?=some c->aD G w u c:=by
  intro vs cs xs ih e hb i u c hu hc;subst e;rw[np,ap9]at hb;exact ih i u (c.aL σ) hu (by rw[gu,apQ,hc];rfl) c rfl (hb c (apW hc))
 induction h with
 |agg vs cs hl _ ih=>
  intro x e hb;cases x<;>simp only[AV.aL,AV.agg.injEq,reduceCtorEq]at e
  next xs=>
   rw[AV.aQ]at hb;exact .agg vs xs (by rw[hl,<-e,gu,apO]) (gk vs cs xs ih e hb)
 |bz vs cs hl _ ih=>
  intro x e hb;cases x<;>simp only[AV.aL,AV.bz.injEq,reduceCtorEq]at e
  next xs=>
   rw[AV.aQ]at hb;exact .bz vs xs (by rw[hl,<-e,gu,apO]) (gk vs cs xs ih e hb)
 |fn f vs cs hl _ ih=>
  intro x e hb;cases x<;>simp only[AV.aL,AV.fn.injEq,reduceCtorEq]at e
  next g xs=>
   obtain⟨rfl,e⟩:=e;rw[AV.aQ]at hb;exact .fn _ vs xs (by rw[hl,<-e,gu,apO]) (gk vs cs xs ih e hb)
 |d h=>
  intro x e hb;cases x<;>simp only[AV.aL,AV.d.injEq,reduceCtorEq]at e
  next y=>subst e;exact .d (h.u9 hS)
 |full xs hp hf=>
  intro x e hb;cases x<;>simp only[AV.aL,AV.full.injEq,reduceCtorEq]at e
  next y=>subst e;exact .full y (hp.u9 hS) hf
 |ptr n off h=>
  intro x e hb;cases x<;>simp only[AV.aL,AV.ptr.injEq,reduceCtorEq]at e
  next m o=>
   obtain⟨e1,rfl⟩:=e;rw[AV.aQ]at hb;have hm:=lt _ hb;rw[<-e1,hR.aI _ hm];exact .ptr _ _ hm
 |row n off len cap k h hl jf=>
  intro x e hb;cases x<;>simp only[AV.aL,AV.row.injEq,reduceCtorEq]at e
  next m o l c q=>
   obtain⟨e1,rfl,rfl,rfl,rfl⟩:=e;rw[AV.aQ]at hb;have hm:=lt _ hb;rw[<-e1,hR.aI _ hm];exact .row _ _ _ _ _ hm hl jf
 |mp n h=>
  intro x e hb;cases x<;>simp only[AV.aL,AV.mp.injEq,reduceCtorEq]at e
  next m=>
   rw[AV.aQ]at hb;have hm:=lt _ hb;rw[<-e,hR.aI _ hm];exact .mp _ hm
 |cY n h=>
  intro x e hb;cases x<;>simp only[AV.aL,AV.cY.injEq,reduceCtorEq]at e
  next m=>
   rw[AV.aQ]at hb;have hm:=lt _ hb;rw[<-e,hR.aI _ hm];exact .cY _ hm
 |own n xs h hp hle hf=>
  intro x e hb;cases x<;>simp only[AV.aL,AV.own.injEq,reduceCtorEq]at e
  next m l=>
   obtain⟨e1,rfl⟩:=e;rw[AV.aQ]at hb;have hm:=lt _ hb;rw[<-e1]at hle hf;exact .own _ _ hm (hp.u9 hS) (by rw[<-hR.fl _ hm];exact hle) (by rw[<-hR.fl _ hm,<-hR.sg _ hm];exact hf)
 |vec n o len L k h hs hL hf=>
  intro x e hb;cases x<;>simp only[AV.aL,AV.vec.injEq,reduceCtorEq]at e
  next m a1 a2 a3 a4=>
   obtain⟨e1,rfl,rfl,rfl,rfl⟩:=e;rw[AV.aQ]at hb;have hm:=lt _ hb;rw[<-e1]at hL hf;exact .vec _ _ _ _ _ hm hs (by rw[<-hR.fl _ hm];exact hL) (by rw[<-hR.fl _ hm,<-hR.sg _ hm];exact hf)
 |dq n i j L k h hs hL hf=>
  intro x e hb;cases x<;>simp only[AV.aL,AV.dq.injEq,reduceCtorEq]at e
  next m a1 a2 a3 a4=>
   obtain⟨e1,rfl,rfl,rfl,rfl⟩:=e;rw[AV.aQ]at hb;have hm:=lt _ hb;rw[<-e1]at hL hf;exact .dq _ _ _ _ _ hm hs (by rw[<-hR.fl _ hm];exact hL) (by rw[<-hR.fl _ hm,<-hR.sg _ hm];exact hf)
 |bJ xs i off b o u y hx rk hu=>
  intro x e hb;cases x<;>simp only[AV.aL,AV.bJ.injEq,reduceCtorEq]at e
  next a1 a2 a3=>
   obtain⟨rfl,rfl,rfl⟩:=e;exact .bJ _ _ _ b o u y hx (λj hj=>⟨hS _ _ (rk j hj).1,(rk j hj).2⟩) (λj d hd=>(hu j d hd).u9 hS)
 |hid h h1=>
  intro x e hb;cases x<;>simp only[AV.aL,AV.hid.injEq,reduceCtorEq]at e
  next c=>subst e;exact .hid (h.aT hS (λ_ _ _=>rfl)) h1
 |dead u=>
  intro x e hb;cases x<;>simp only[AV.aL,reduceCtorEq]at e
  exact .dead u
theorem SY{σ:Nat->Nat}{G G2:Gh}(hR:qI σ G G2){n:Nat}(hn:n<G.N)(B:an):(B.aL σ).dA G2 (σ n)=B.dA G n:=by
 cases B<;>simp only[an.aL,an.dA,hR.aI n hn,hR.ow n hn]
theorem dD.aL{σ:Nat->Nat}{G G2:Gh}{w:aqC}(hR:qI σ G G2){n:Nat}(hn:n<G.N){B:an}(hz:∀b,B.dA G n=some b->¬G2.Z b)(h:dD G w n B):dD G2 w (σ n) (B.aL σ):=by
 have hS:∀b o,¬G.S b o->¬G2.S b o:=λb o h h2=>h ((hR.S b o).1 h2);cases B with
 |gone=>trivial
 |cells cs=>
  obtain⟨h1,h2,vs,T,h3,h4,h5⟩:=h;rw[an.aL];refine⟨by rw[hR.aI n hn];exact hz _ rfl,by rw[hR.aI n hn];exact λo=>hS _ _ (h2 o),vs,T,by rw[hR.aI n hn];exact h3,by rw[gu,apO];exact h4,λi u c hu hc=> ?_⟩;rw[gu,apQ]at hc;cases hx:cs[i]? with
  |none=>rw[hx]at hc;cases hc
  |some x=>rw[hx]at hc;cases hc;exact(h5 i u x hu hx).aL hR
 |lp ls p as bd cs=>
  obtain⟨h1,h2,fn,vs,T,h3,h4,h5⟩:=h;rw[an.aL];refine⟨by rw[hR.aI n hn];exact hz _ rfl,by rw[hR.aI n hn];exact λo=>hS _ _ (h2 o),fn,vs,T,by rw[hR.aI n hn];exact h3,by rw[gu,apO];exact h4,λi u c hu hc=> ?_⟩;rw[gu,apQ]at hc;cases hx:cs[i]? with
  |none=>rw[hx]at hc;cases hc
  |some x=>rw[hx]at hc;cases hc;exact(h5 i u x hu hx).aL hR
 |it sn cs=>
  obtain⟨h1,h2,fn,vs,T,h3,h4,h5⟩:=h;rw[an.aL];refine⟨by rw[hR.aI n hn];exact hz _ rfl,by rw[hR.aI n hn];exact λo=>hS _ _ (h2 o),fn,vs,T,by rw[hR.aI n hn];exact h3,by rw[gu,apO];exact h4,λi u c hu hc=> ?_⟩;rw[gu,apQ]at hc;cases hx:cs[i]? with
  |none=>rw[hx]at hc;cases hc
  |some x=>rw[hx]at hc;cases hc;exact(h5 i u x hu hx).aL hR
 |aV T0 cs=>
  obtain⟨h1,h2,fn,vs,T,h3,h4,h5⟩:=h;rw[an.aL];refine⟨by rw[hR.aI n hn];exact hz _ rfl,by rw[hR.aI n hn];exact λo=>hS _ _ (h2 o),fn,vs,T,by rw[hR.aI n hn];exact h3,by rw[gu,apO,hR.aI n hn];exact h4,λi u c hu hc=> ?_⟩;rw[gu,apQ]at hc;cases hx:cs[i]? with
  |none=>rw[hx]at hc;cases hc
  |some x=>rw[hx]at hc;cases hc;exact(h5 i u x hu hx).aL hR
 |map kv=>
  obtain⟨h1,h2,es,c,h3,h4⟩:=h;exact⟨by rw[hR.aI n hn];exact hz _ rfl,by rw[hR.aI n hn];exact λo=>hS _ _ (h2 o),es,c,by rw[hR.aI n hn];exact h3,h4.aT (λb o h=>(hR.S b o).2 h) (λ_ _ _=>rfl)⟩
 |fV kv=>
  obtain⟨h1,h2,es,c,h3,h4⟩:=h;exact⟨by rw[hR.aI n hn];exact hz _ rfl,by rw[hR.aI n hn];exact λo=>hS _ _ (h2 o),es,c,by rw[hR.aI n hn];exact h3,h4.aT (λb o h=>(hR.S b o).2 h) (λ_ _ _=>rfl)⟩
 |bm e b=>
  obtain⟨h1,hm,h2⟩:=h;refine⟨(hR.fl n hn).trans h1,hm,?_⟩;rcases h2 with⟨h2,h0,A,h3⟩|⟨g,cap,cur,h2,h3,h4,h5,h6,h7,h8,h9,aU⟩
  ·exact .inl ⟨(hR.ow n hn).trans h2,h0,A,(hR.sg n hn).trans h3⟩
  ·exact .inr ⟨g,cap,cur,(hR.ow n hn).trans h2,(hR.sg n hn).trans h3,hz g h2,h5,h6,h7,h8,λo=>hS _ _ (h9 o),aU⟩
 |front e k len=>
  obtain⟨h1,hm,h2⟩:=h;refine⟨(hR.fl n hn).trans h1,hm,?_⟩;rcases h2 with⟨h2,A,h3⟩|⟨g,cap,cur,h2,h3,h4,h5,h6,h7,h8,h9⟩
  ·exact .inl ⟨(hR.ow n hn).trans h2,A,(hR.sg n hn).trans h3⟩
  ·exact .inr ⟨g,cap,cur,(hR.ow n hn).trans h2,(hR.sg n hn).trans h3,hz g h2,h5,h6,h7,h8,λo ho=>hS _ _ (h9 o ho)⟩
 |vec e k cs=>
  obtain⟨h1,hm,hk,h2⟩:=h;rw[an.aL];refine⟨by rw[apO];exact(hR.fl n hn).trans h1,by rw[apO];exact hm,λc hc=> ?_,?_⟩
  ·obtain⟨x,hx,rfl⟩:=List.mem_map.1 hc;rw[gu,apO];exact hk x hx
  ·rcases h2 with⟨h2,e2,A,h3⟩|⟨g,cap,cur,h2,h3,h4,h5,h6,h7,h8,h9,aU⟩
   ·exact .inl ⟨(hR.ow n hn).trans h2,by rw[e2];rfl,A,(hR.sg n hn).trans h3⟩
   ·refine .inr ⟨g,cap,cur,(hR.ow n hn).trans h2,by rw[apO];exact(hR.sg n hn).trans h3,hz g h2,h5,by rw[apO];exact h6,h7,h8,λo=>hS _ _ (h9 o),λi j c x u hc hx hu=> ?_⟩;rw[apQ]at hc;cases hy:cs[i]? with
    |none=>rw[hy]at hc;cases hc
    |some y=>
     rw[hy]at hc;cases hc
     rw[gu,apQ]at hx;cases hw:y[j]? with
     |none=>rw[hw]at hx;cases hx
     |some z=>rw[hw]at hx;cases hx;exact(aU i j y z u hy hw hu).aL hR
theorem dD.tJ{σ:Nat->Nat}{G G2:Gh}{w:aqC}(hR:qI σ G G2){n:Nat}(hn:n<G.N){B:an}(hb:B.aQ G.N=true)(hz:∀b,B.dA G n=some b->¬G.Z b)(h:dD G2 w (σ n) (B.aL σ)):dD G w n B:=by
 have hS:∀b o,¬G2.S b o->¬G.S b o:=λb o h h2=>h ((hR.S b o).2 h2);cases B with
 |gone=>trivial
 |cells cs=>
  rw[an.aL]at h;obtain⟨h1,h2,vs,T,h3,h4,h5⟩:=h;rw[hR.aI n hn]at h2 h3;rw[gu,apO]at h4;simp only[an.aQ,ap9]at hb;exact⟨hz _ rfl,λo=>hS _ _ (h2 o),vs,T,h3,h4,λi u c hu hc=>aD.tJ hR (h5 i u (c.aL σ) hu (by rw[gu,apQ,hc];rfl)) c rfl (hb c (apW hc))⟩
 |lp ls p as bd cs=>
  rw[an.aL]at h;obtain⟨h1,h2,fn,vs,T,h3,h4,h5⟩:=h;rw[hR.aI n hn]at h2 h3;rw[gu,apO]at h4;simp only[an.aQ,ap9]at hb;exact⟨hz _ rfl,λo=>hS _ _ (h2 o),fn,vs,T,h3,h4,λi u c hu hc=>aD.tJ hR (h5 i u (c.aL σ) hu (by rw[gu,apQ,hc];rfl)) c rfl (hb c (apW hc))⟩
 |it sn cs=>
  rw[an.aL]at h;obtain⟨h1,h2,fn,vs,T,h3,h4,h5⟩:=h;rw[hR.aI n hn]at h2 h3;rw[gu,apO]at h4;simp only[an.aQ,ap9]at hb;exact⟨hz _ rfl,λo=>hS _ _ (h2 o),fn,vs,T,h3,h4,λi u c hu hc=>aD.tJ hR (h5 i u (c.aL σ) hu (by rw[gu,apQ,hc];rfl)) c rfl (hb c (apW hc))⟩
 |aV T0 cs=>
  rw[an.aL]at h;obtain⟨h1,h2,fn,vs,T,h3,h4,h5⟩:=h;rw[hR.aI n hn]at h2 h3 h4;rw[gu,apO]at h4;simp only[an.aQ,ap9]at hb;exact⟨hz _ rfl,λo=>hS _ _ (h2 o),fn,vs,T,h3,h4,λi u c hu hc=>aD.tJ hR (h5 i u (c.aL σ) hu (by rw[gu,apQ,hc];rfl)) c rfl (hb c (apW hc))⟩
 |map kv=>
  obtain⟨h1,h2,es,c,h3,h4⟩:=h;rw[hR.aI n hn]at h2 h3;exact⟨hz _ rfl,λo=>hS _ _ (h2 o),es,c,h3,h4.aT (λb o h=>(hR.S b o).1 h) (λ_ _ _=>rfl)⟩
 |fV kv=>
  obtain⟨h1,h2,es,c,h3,h4⟩:=h;rw[hR.aI n hn]at h2 h3;exact⟨hz _ rfl,λo=>hS _ _ (h2 o),es,c,h3,h4.aT (λb o h=>(hR.S b o).1 h) (λ_ _ _=>rfl)⟩
 |bm e b=>
  obtain⟨h1,hm,h2⟩:=h;rw[hR.fl n hn]at h1;rw[hR.ow n hn,hR.sg n hn]at h2;refine⟨h1,hm,?_⟩;rcases h2 with⟨h2,h0,A,h3⟩|⟨g,cap,cur,h2,h3,h4,h5,h6,h7,h8,h9,aU⟩
  ·exact .inl ⟨h2,h0,A,h3⟩
  ·exact .inr ⟨g,cap,cur,h2,h3,hz g h2,h5,h6,h7,h8,λo=>hS _ _ (h9 o),aU⟩
 |front e k len=>
  obtain⟨h1,hm,h2⟩:=h;rw[hR.fl n hn]at h1;rw[hR.ow n hn,hR.sg n hn]at h2;refine⟨h1,hm,?_⟩;rcases h2 with⟨h2,A,h3⟩|⟨g,cap,cur,h2,h3,h4,h5,h6,h7,h8,h9⟩
  ·exact .inl ⟨h2,A,h3⟩
  ·exact .inr ⟨g,cap,cur,h2,h3,hz g h2,h5,h6,h7,h8,λo ho=>hS _ _ (h9 o ho)⟩
 |vec e k cs=>
  rw[an.aL]at h;obtain⟨h1,hm,hk,h2⟩:=h;rw[hR.fl n hn,apO]at h1;rw[apO]at hm;rw[hR.ow n hn,hR.sg n hn,apO]at h2;simp only[an.aQ,ap9]at hb;refine⟨h1,hm,λc hc=> ?_,?_⟩
  ·have:=hk _ (List.mem_map.2 ⟨c,hc,rfl⟩)
   rwa [gu,apO]at this
  ·rcases h2 with⟨h2,e2,A,h3⟩|⟨g,cap,cur,h2,h3,h4,h5,h6,h7,h8,h9,aU⟩
   ·exact .inl ⟨h2,List.map_eq_nil_iff.1 e2,A,h3⟩
   ·refine .inr ⟨g,cap,cur,h2,h3,hz g h2,h5,h6,h7,h8,λo=>hS _ _ (h9 o),λi j c x u hc hx hu=> ?_⟩;exact aD.tJ hR (aU i j (AV.dR σ c) (x.aL σ) u (by rw[apQ,hc];rfl) (by rw[gu,apQ,hx];rfl) hu) x rfl (hb c (apW hc) x (apW hx))
theorem aab:∀(l:aqx Nat)(Bs h:aqx an),l.length<=Bs.length->(gZ l Bs h).length=h.length+(Bs.length-l.length)
 |[],Bs,h,_=>by simp [gZ]
 |j::l,[],h,hl=>by simp at hl
 |j::l,B::Bs,h,hl=>by rw[gZ,aab l Bs _ (by simpa using hl),List.length_set];simp
theorem PH:∀(l:aqx Nat)(Bs h:aqx an)(n:Nat),l.length<=Bs.length->n<h.length->n ∉ l->(gZ l Bs h)[n]?=h[n]?
 |[],Bs,h,n,_,hn,_=>by rw[gZ,apT hn]
 |j::l,[],h,n,hl,_,_=>by simp at hl
 |j::l,B::Bs,h,n,hl,hn,hm=>by
  simp only[aqd,not_or]at hm;rw[gZ,PH l Bs _ n (by simpa using hl) (by rw[List.length_set];exact hn) hm.2,aqh (Ne.symm hm.1)]
theorem aaa:∀(l:aqx Nat)(Bs h:aqx an)(i:Nat),l.length<=Bs.length->l.Nodup->(∀j∈l,j<h.length)->i<Bs.length->(gZ l Bs h)[rn l h.length i]?=Bs[i]?
 |[],Bs,h,i,_,_,_,hi=>by rw[gZ,rn,apZ (aqo _ _),Nat.add_sub_cancel_left]
 |j::l,[],h,i,hl,_,_,_=>by simp at hl
 |j::l,B::Bs,h,0,hl,hd,aH,_=>by
  rw[List.nodup_cons]at hd;rw[gZ,rn,PH l Bs _ j (by simpa using hl) (by rw[List.length_set];exact aH j (by simp)) hd.1,aqc (aH j (by simp))];rfl
 |j::l,B::Bs,h,i+1,hl,hd,aH,hi=>by
  rw[List.nodup_cons]at hd;have:=aaa l Bs (h.set j B) i (by simpa using hl) hd.2 (λx hx=>by rw[List.length_set];exact aH x (by simp [hx])) (by simpa using hi);rw[List.length_set]at this;rw[gZ,rn,this];simp
def xA(l:aqx Nat)(base n:Nat):aqz Nat:=if n∈l then some (l.idxOf n)else if base<=n then some (l.length+(n-base))else none
theorem QI{l:aqx Nat}{base:Nat}(hd:l.Nodup)(aH:∀j∈l,j<base)(i:Nat):xA l base (rn l base i)=some i:=by
 unfold xA;by_cases hi:i<l.length
 ·have e:l[i]?=some l[i]:=apN hi;rw[Ah l base i _ e,if_pos (List.getElem_mem _),List.Nodup.idxOf_getElem hd i hi]
 ·rw[Mb l base i (by omega),if_neg (λh=>by have:=aH _ h;omega),if_pos (aqo _ _)]
  congr 1;omega
theorem OH{l:aqx Nat}{base n i:Nat}(h:xA l base n=some i):rn l base i=n:=by
 unfold xA at h;split at h
 ·rename_i hm
  cases h
  have aH:=List.idxOf_lt_length_of_mem hm;refine Ah l base _ n ?_;rw[apN aH,List.getElem_idxOf]
 ·split at h
  ·cases h
   rw[Mb _ _ _ (by omega)];omega
  ·cases h
theorem ado{l:aqx Nat}{base n:Nat}(h:xA l base n=none):n<base/\n ∉ l:=by
 unfold xA at h;split at h
 ·cases h
 ·split at h
  ·cases h
  ·rename_i h1 h2;exact⟨by omega,h1⟩
def tA{α:Type}(o:aqz Nat)(f:Nat->α)(d:α):α:=match o with|some i=>f i|none=>d
theorem Yc{H:aqx an}{l:aqx Nat}{h:aqx an}
 (hd:l.Nodup) (aH:∀j∈l,j<h.length) (hH:∀(i j:Nat),l[i]?=some j->h[j]?=(H[i]?).map (an.aL (rn l h.length))) (hk:l.length=H.length)
 (hb:H.all (an.aQ H.length)=true) {G:Gh} {w:aqC} (hi:bD G w h):
 ∃G0:Gh,G0.N=H.length/\bD G0 w H/\qI (rn l h.length) G0 G/\∀(G1:Gh)(w':aqC)(H':aqx an),bI H.length G0 w G1 w'->H.length<=G1.N->bD G1 w' H'->
  ∃G2:Gh,bI G.N G w G2 w'/\G.N<=G2.N/\bD G2 w' (gZ l (H'.map (an.aL (rn l h.length))) h)/\qI (rn l h.length) G1 G2:=by
 obtain⟨σ,hσ⟩:∃σ,σ=rn l h.length:=⟨_,rfl⟩;rw[<-hσ]at hH ⊢;have Mv:h.length=G.N:=hi.len;obtain⟨own,dS⟩:∃own:Nat->Prop,own=λb=>∃j∈l,bM h G j=some b:=⟨_,rfl⟩;obtain⟨G0,jd⟩:∃G0:Gh,G0={N:=H.length,Z:=λb=>b<w.heap.size/\¬own b,S:=G.S,aI:=λi=>G.aI (σ i),sg:=λi=>G.sg (σ i),ow:=λi=>G.ow (σ i),fl:=λi=>G.fl (σ i),M:=G.M}:=⟨_,rfl⟩;have Ik:∀i,i<H.length->∃j,l[i]?=some j/\σ i=j/\j∈l:=λi de=>by
  have ko:i<l.length:=by rw[hk];exact de
  exact⟨l[i],apN ko,by rw[hσ];exact Ah l _ i _ (apN ko),List.getElem_mem _⟩
 have uz:qI σ G0 G:=by
  subst jd;refine⟨λn hn=> ?_,λ_ _=>rfl,λ_ _=>rfl,λ_ _=>rfl,λ_ _=>rfl,λ_ _=>Iff.rfl⟩;obtain⟨j,_,e,hj⟩:=Ik n hn;rw[e,<-Mv];exact aH j hj
 have cm:G0.N=H.length:=by rw[jd]
 have hσH:∀(i:Nat)(B:an),H[i]?=some B->h[σ i]?=some (B.aL σ):=λi B hB=>by
  obtain⟨j,e1,e2,_⟩:=Ik i (apJ.1 hB).1;rw[e2,hH i j e1,hB];rfl
 have ND:∀(i:Nat)(B:an)(b:Nat),H[i]?=some B->B.dA G0 i=some b->bM h G (σ i)=some b:=λi B b hB fB=>by
  rw[dc (hσH i B hB),SY uz (by rw[cm];exact(apJ.1 hB).1) B];exact fB
 have tM:∀(i:Nat)(B:an)(b:Nat),H[i]?=some B->B.dA G0 i=some b->¬G0.Z b:=λi B b hB fB hz=>by
  rw[jd]at hz;refine hz.2 ?_;rw[dS];obtain⟨j,_,e2,hj⟩:=Ik i (apJ.1 hB).1;exact⟨j,hj,by rw[<-e2];exact ND i B b hB fB⟩
 have ale:∀i i',σ i=σ i'->i=i':=λi i' e=>by
  have h1:=QI hd aH i;have h2:=QI hd aH i';rw[hσ]at e;rw[e,h2]at h1;exact(ap2 h1).symm
 have uv:bD G0 w H:=by
  refine⟨cm.symm,λb hz=> ?_,λb o hs=> ?_,λi B hB=> ?_,λm n b h1 h2=> ?_,by rw[jd];exact hi.gl⟩
  ·rw[jd]at hz;exact hz.1
  ·rw[jd]at hs;exact hi.S b o hs
  ·have hiN:i<G0.N:=by rw[cm];exact(apJ.1 hB).1
   rw[ap9]at hb;exact dD.tJ uz hiN (by rw[cm];exact hb B (apW hB)) (λb fB=>tM i B b hB fB) (hi.cD (σ i) _ (hσH i B hB))
  ·obtain⟨B1,vi,iP⟩:=od h1;obtain⟨B2,P0,jR⟩:=od h2;exact ale m n (hi.inj _ _ b (ND m B1 b vi iP) (ND n B2 b P0 jR))
 refine⟨G0,cm,uv,uz,λG1 w' H' hE gK jT=> ?_⟩;have Ga:H'.length=G1.N:=jT.len;obtain⟨ps,Gp⟩:∃ps,ps=xA l h.length:=⟨_,rfl⟩;obtain⟨G2,iv⟩:∃G2:Gh,G2={N:=G.N+(G1.N-H.length),Z:=G.Z,S:=G1.S,aI:=λn=>tA (ps n) G1.aI (G.aI n),sg:=λn=>tA (ps n) G1.sg (G.sg n),ow:=λn=>tA (ps n) G1.ow (G.ow n),fl:=λn=>tA (ps n) G1.fl (G.fl n),M:=G.M}:=⟨_,rfl⟩;have Kg:∀i,ps (σ i)=some i:=λi=>by rw[Gp,hσ];exact QI hd aH i
 have LL:∀i,H.length<=i->σ i=G.N+(i-H.length):=λi jU=>by rw[hσ,Mb l _ i (by omega),Mv,hk]
 have amh:∀i,i<H.length->σ i<G.N:=λi Jd=>by
  obtain⟨j,_,e,hj⟩:=Ik i Jd;rw[e,<-Mv];exact aH j hj
 have Qp:qI σ G1 G2:=by
  subst iv;refine⟨λn hn=> ?_,λn _=>by simp only[Kg];rfl,λn _=>by simp only[Kg];rfl,λn _=>by simp only[Kg];rfl,λn _=>by simp only[Kg];rfl,λ_ _=>Iff.rfl⟩;show σ n<G.N+(G1.N-H.length);by_cases eE:n<H.length
  ·have:=amh n eE;omega
  ·rw[LL n (by omega)];omega
 have XK:∀b,G0.Z b->G1.Z b:=hE.Z.1.1;have Oq:∀b,G.Z b->G0.Z b:=λb hz=>by
  rw[jd];refine⟨hi.z b hz,λho=> ?_⟩;rw[dS]at ho;obtain⟨j,_,ho⟩:=ho;obtain⟨B,hB,fB⟩:=od ho;exact(hi.cD j B hB).kY fB hz
 have gX:bI G.N G w G2 w':=by
  refine⟨hE.size,λb o hs=> ?_,λb o hs=> ?_,λn hn=> ?_,λn hn=> ?_,gp (by rw[iv]) (by rw[iv]),λb hz=>hE.old b (Oq b hz),hE.os,hE.tape,hE.output,λb o hs=> ?_⟩
  ·rw[iv];exact hE.S b o (by rw[jd];exact hs)
  ·exact hE.cell b o (by rw[jd];exact hs)
  ·rw[iv];show tA (ps n) G1.aI (G.aI n)=G.aI n;cases hp:ps n with
   |none=>rfl
   |some i=>
    have e:σ i=n:=by rw[hσ];rw[Gp]at hp;exact OH hp
    have de:i<H.length:=Nat.lt_of_not_le λjU=>by rw[LL i jU]at e;omega
    show G1.aI i=G.aI n;rw[hE.aI i de,jd,<-e]
  ·rw[iv];show(tA (ps n) G1.fl (G.fl n)=G.fl n/\tA (ps n) G1.sg (G.sg n)=G.sg n)\/G.fl n<tA (ps n) G1.fl (G.fl n);cases hp:ps n with
   |none=>exact .inl ⟨rfl,rfl⟩
   |some i=>
    have e:σ i=n:=by rw[hσ];rw[Gp]at hp;exact OH hp
    have de:i<H.length:=Nat.lt_of_not_le λjU=>by rw[LL i jU]at e;omega
    have:=hE.fr i de;rw[jd]at this;simp only[e]at this;exact this
  ·rw[iv]at hs;rcases hE.new b o hs with h1|h1
   ·rw[jd]at h1;exact .inl h1
   ·exact .inr λhz=>h1 (Oq b hz)
 have hlen:(gZ l (H'.map (an.aL σ)) h).length=G2.N:=by
  rw[aab _ _ _ (by rw[apO,hk,Ga];omega),apO,Ga,hk,Mv,iv]
 have ah8:∀i,i<G1.N->(gZ l (H'.map (an.aL σ)) h)[σ i]?=(H'[i]?).map (an.aL σ):=λi de=>by
  rw[<-apQ,hσ];exact aaa l _ h i (by rw[apO,hk,Ga];omega) hd aH (by rw[apO,Ga];exact de)
 have He:∀(n:Nat)(B:an),(gZ l (H'.map (an.aL σ)) h)[n]?=some B->(∃i B',i<G1.N/\n=σ i/\H'[i]?=some B'/\B=B'.aL σ)\/(ps n=none/\n ∉ l/\h[n]?=some B):=λn B hB=>by
  have acq:n<G2.N:=by rw[<-hlen];exact(apJ.1 hB).1
  cases hp:ps n with
  |none=>
   rw[Gp]at hp;obtain⟨h1,h2⟩:=ado hp;exact .inr ⟨rfl,h2,by rw[<-PH l (H'.map (an.aL σ)) h n (by rw[apO,hk,Ga];omega) h1 h2];exact hB⟩
  |some i=>
   have e:σ i=n:=by rw[hσ];rw[Gp]at hp;exact OH hp
   have de:i<G1.N:=Nat.lt_of_not_le λjU=>by
    rw[LL i (by omega)]at e;rw[iv]at acq;have:n<G.N+(G1.N-H.length):=acq;omega
   rw[<-e,ah8 i de]at hB;cases hx:H'[i]? with
   |none=>rw[hx]at hB;cases hB
   |some B'=>rw[hx]at hB;cases hB;exact .inl ⟨i,B',de,e.symm,hx,rfl⟩
 have hold:∀(n b:Nat),n ∉ l->bM h G n=some b->G0.Z b:=λn b hn fB=>by
  rw[jd];refine⟨hi.gw fB,λho=> ?_⟩;rw[dS]at ho;obtain⟨j,hj,ho⟩:=ho;exact hn ((hi.inj n j b fB ho)▸hj)
 have Gx:∀(n b:Nat),bM (gZ l (H'.map (an.aL σ)) h) G2 n=some b->(∃i,n=σ i/\bM H' G1 i=some b/\¬G0.Z b)\/(n ∉ l/\bM h G n=some b/\G0.Z b):=λn b fB=>by
  obtain⟨B,hB,iP⟩:=od fB;rcases He n B hB with⟨i,B',de,rfl,dC,rfl⟩|⟨hp,hn,dC⟩
  ·rw[SY Qp de]at iP;exact .inl ⟨i,rfl,(dc dC).trans iP,λhz=>(jT.cD i B' dC).kY iP (XK _ hz)⟩
  ·have e:B.dA G2 n=B.dA G n:=by
    subst iv;cases B<;>simp only[an.dA,hp,tA]
   have:=(dc dC).trans (e▸iP);exact .inr ⟨hn,this,hold n b hn this⟩
 refine⟨G2,gX,by rw[iv];exact aqo _ _,⟨hlen,λb hz=> ?_,λb o hs=> ?_,λn B hB=> ?_,λm n b h1 h2=> ?_,hi.gl.aT gX⟩,Qp⟩
 ·rw[iv]at hz;exact ap7 (hi.z b hz) hE.size
 ·rw[iv]at hs;exact jT.S b o hs
 ·rcases He n B hB with⟨i,B',de,rfl,dC,rfl⟩|⟨hp,hn,dC⟩
  ·refine dD.aL Qp de (λb fB hz=> ?_) (jT.cD i B' dC);have:=(jT.cD i B' dC).kY fB;rw[iv]at hz;exact this (XK b (Oq b hz))
  ·have o0:n<G.N:=by rw[<-hi.len];exact(apJ.1 dC).1
   refine dD.aT o0 gX (by rw[iv];exact aqo _ _) (by rw[iv];simp only[hp];exact⟨rfl,rfl,rfl⟩) (λb fB=> ?_) (hi.cD n B dC);have hz:=hold n b hn ((dc dC).trans fB);refine⟨hE.old b hz,λo js hs=> ?_⟩;rw[iv]at hs;rcases hE.new b o hs with h1|h1
   ·rw[jd]at h1;exact js h1
   ·exact h1 hz
 ·rcases Gx m b h1 with⟨i,rfl,a1,a2⟩|⟨a0,a1,a2⟩<;>rcases Gx n b h2 with⟨j,rfl,b1,b2⟩|⟨b0,b1,b2⟩
  ·rw[jT.inj i j b a1 b1]
  ·exact absurd b2 a2
  ·exact absurd a2 b2
  ·exact hi.inj m n b a1 b1
theorem cF.ZA{P:aqA}{f:FuncId}{args:aqx AV}{H:aqx an}{K:AV->aqx an->Prop}(hc:cF P f args H K){l:aqx Nat}{h:aqx an}
 (hd:l.Nodup) (aH:∀j∈l,j<h.length) (hH:∀(i j:Nat),l[i]?=some j->h[j]?=(H[i]?).map (an.aL (rn l h.length))) (hk:l.length=H.length)
 (ha:args.all (AV.aQ H.length)=true) (hb:H.all (an.aQ H.length)=true):
 cF P f (args.map (AV.aL (rn l h.length))) h λr' h'=>∃r H',K r H'/\r'=r.aL (rn l h.length)/\h'=gZ l (H'.map (an.aL (rn l h.length))) h:=by
 refine⟨hc.1,λG w vs hi yR hvr=> ?_⟩;obtain⟨G0,cm,uv,uz,M0⟩:=Yc hd aH hH hk hb hi;refine(hc.2 G0 w vs uv (by rw[yR,apO]) λi u c hu hx=> ?_).mono λe w' hp=> ?_
 ·rw[ap9]at ha;exact aD.tJ uz (hvr i u (c.aL (rn l h.length)) hu (by rw[apQ,hx];rfl)) c rfl (by rw[cm];exact ha c (apW hx))
 ·obtain⟨v,G1,r,H',rfl,hE,gK,jT,hv,hK⟩:=hp;rw[cm]at gK hE;obtain⟨G2,e1,e2,e3,e4⟩:=M0 G1 w' H' hE gK jT;exact⟨v,G2,r.aL _,_,rfl,e1,e2,e3,hv.aL e4,r,H',hK,rfl,rfl⟩
mutual
theorem xp{σ τ:Nat->Nat}{k:Nat}(h:∀i,i<k->σ i=τ i):∀x:AV,x.aQ k=true->x.aL σ=x.aL τ
 | .ptr n off,hb=>by rw[AV.aQ]at hb;rw[AV.aL,AV.aL,h n (by rw[Bool.not_eq_true',<-Bool.not_eq_true,dI]at hb;omega)]
 | .own n xs,hb=>by rw[AV.aQ]at hb;rw[AV.aL,AV.aL,h n (by rw[Bool.not_eq_true',<-Bool.not_eq_true,dI]at hb;omega)]
 | .row n off len cap q,hb=>by rw[AV.aQ]at hb;rw[AV.aL,AV.aL,h n (by rw[Bool.not_eq_true',<-Bool.not_eq_true,dI]at hb;omega)]
 | .mp n,hb=>by rw[AV.aQ]at hb;rw[AV.aL,AV.aL,h n (by rw[Bool.not_eq_true',<-Bool.not_eq_true,dI]at hb;omega)]
 | .cY n,hb=>by rw[AV.aQ]at hb;rw[AV.aL,AV.aL,h n (by rw[Bool.not_eq_true',<-Bool.not_eq_true,dI]at hb;omega)]
 | .vec n o len L q,hb=>by rw[AV.aQ]at hb;rw[AV.aL,AV.aL,h n (by rw[Bool.not_eq_true',<-Bool.not_eq_true,dI]at hb;omega)]
 | .dq n i j L q,hb=>by rw[AV.aQ]at hb;rw[AV.aL,AV.aL,h n (by rw[Bool.not_eq_true',<-Bool.not_eq_true,dI]at hb;omega)]
 | .agg cs,hb=>by rw[AV.aQ]at hb;rw[AV.aL,AV.aL,ss h cs hb]
 | .bz cs,hb=>by rw[AV.aQ]at hb;rw[AV.aL,AV.aL,ss h cs hb]
 | .fn f cs,hb=>by rw[AV.aQ]at hb;rw[AV.aL,AV.aL,ss h cs hb]
 | .d x,_=>by rw[AV.aL,AV.aL]
 | .bJ xs i off,_=>by rw[AV.aL,AV.aL]
 | .full xs,_=>by rw[AV.aL,AV.aL]
 | .hid c,_=>by rw[AV.aL,AV.aL]
 | .dead,_=>by rw[AV.aL,AV.aL]
theorem ss{σ τ:Nat->Nat}{k:Nat}(h:∀i,i<k->σ i=τ i):∀l:aqx AV,AV.oH k l=true->AV.dR σ l=AV.dR τ l
 |[],_=>by rw[AV.dR,AV.dR]
 |x::l,hb=>by
  rw[AV.oH,apL]at hb;rw[AV.dR,AV.dR,xp h x hb.1,ss h l hb.2]
end
theorem RW{σ τ:Nat->Nat}{k:Nat}(h:∀i,i<k->σ i=τ i)(B:an)(hb:B.aQ k=true):B.aL σ=B.aL τ:=by
 cases B with
 |cells cs=>rw[an.aL,an.aL,ss h cs (by rw[np];exact hb)]
 |lp ls p as bd cs=>rw[an.aL,an.aL,ss h cs (by rw[np];exact hb)]
 |it sn cs=>rw[an.aL,an.aL,ss h cs (by rw[np];exact hb)]
 |aV T0 cs=>rw[an.aL,an.aL,ss h cs (by rw[np];exact hb)]
 |vec e q cs=>
  rw[an.aL,an.aL]
  congr 1
  refine aqe λc hc=>ss h c ?_;simp only[an.aQ,ap9]at hb;rw[np,ap9];exact hb c hc
 |_=>rfl
theorem XV:∀(l:aqx Nat)(b c i:Nat),i<l.length->rn l b i=rn l c i
 |[],b,c,i,h=>by simp at h
 |a::l,b,c,0,_=>by rw[rn,rn]
 |a::l,b,c,i+1,h=>by rw[rn,rn];exact XV l b c i (by simpa using h)
def qZ:aqx Nat->Bool
 |[]=>true
 |a::l=> !l.any (·==a)&&qZ l
theorem YG:∀{l:aqx Nat},qZ l=true->l.Nodup
 |[],_=>List.nodup_nil
 |a::l,h=>by
  rw[qZ,apL,Bool.not_eq_true',<-Bool.not_eq_true]at h;rw[List.nodup_cons];exact⟨λhm=>h.1 (List.any_eq_true.2 ⟨a,hm,by simp⟩),YG h.2⟩
theorem W2:∀(l:aqx Nat)(h Bs:aqx an),l.map (λj=>h[j]?)=Bs.map some->gZ l Bs h=h
 |[],h,Bs,e=>by
  cases Bs with
  |nil=>rw[gZ,ap4]
  |cons=>simp at e
 |j::l,h,Bs,e=>by
  cases Bs with
  |nil=>simp at e
  |cons B Bs=>
   rw[ap8,ap8]at e;injection e with e1 e2;have hs:h.set j B=h:=by
     refine List.ext_getElem? λm=> ?_;by_cases em:j=m
     ·subst em;rw[aqc (apJ.1 e1).1,e1]
     ·rw[aqh em]
   rw[gZ,hs];exact W2 l h Bs e2
section
variable {P:aqA} {f:FuncId} {fa:aqx AV} {H:aqx an} {l:aqx Nat} {h:aqx an}
theorem T2{l:aqx Nat}{h H:aqx an}{σ:Nat->Nat}(hb:l.map (λj=>h[j]?)=H.map λB=>some (B.aL σ)):l.length=H.length/\(∀j∈l,j<h.length)/\∀(i j:Nat),l[i]?=some j->h[j]?=(H[i]?).map (an.aL σ):=by
 have h1:l.length=H.length:=by simpa using congrArg List.length hb
 have key:∀(i j:Nat),l[i]?=some j->∃B,H[i]?=some B/\h[j]?=some (B.aL σ):=λi j e=>by
  have aH:i<H.length:=by rw[<-h1];exact(apJ.1 e).1
  have:=congrArg (·[i]?) hb;simp only[apQ,e,apN aH,Option.map_some,Option.some.injEq]at this;exact⟨_,apN aH,this⟩
 refine⟨h1,λj hj=> ?_,λi j e=> ?_⟩
 ·obtain⟨i,hi⟩:=List.mem_iff_getElem?.1 hj;obtain⟨B,_,h2⟩:=key i j hi;exact(apJ.1 h2).1
 ·obtain⟨B,h2,h3⟩:=key i j e;rw[h2,h3];rfl
theorem cF.oe{r:AV}{H':aqx an}(hc:cF P f fa H λr1 h1=>r1=r/\h1=H')(hd:qZ l=true)(hb:l.map (λj=>h[j]?)=H.map λB=>some (B.aL (rn l h.length)))(hl:(fa.all (AV.aQ H.length)&&H.all (an.aQ H.length))=true):
 cF P f (fa.map (AV.aL (rn l h.length))) h λr1 h1=>r1=r.aL (rn l h.length)/\h1=gZ l (H'.map (an.aL (rn l h.length))) h:=by
 rw[apL]at hl;obtain⟨h1,h2,h3⟩:=T2 hb;exact(hc.ZA (YG hd) h2 h3 h1 hl.1 hl.2).mono λr1 h1 ⟨r2,H2,⟨e1,e2⟩,e3,e4⟩=>by subst e1;subst e2;exact⟨e3,e4⟩
theorem cF.rq{r:AV}(hc:cF P f fa H λr1 h1=>r1=r/\h1=H)(hd:qZ l=true)(hb:l.map (λj=>h[j]?)=H.map λB=>some (B.aL (rn l 0)))(hl:(fa.all (AV.aQ H.length)&&H.all (an.aQ H.length)&&r.aQ H.length)=true)(e:aqx an):
 cF P f (fa.map (AV.aL (rn l 0))) (h++e) λr1 h1=>r1=r.aL (rn l 0)/\h1=h++e:=by
 rw[apL,apL]at hl;obtain⟨⟨l1,l2⟩,l3⟩:=hl;obtain⟨h1,h2,_⟩:=T2 hb;have S5:∀i,i<H.length->rn l (h++e).length i=rn l 0 i:=λi hi=>XV l _ _ i (by rw[h1];exact hi);have iP:H.map (λB=>some (B.aL (rn l (h++e).length)))=H.map λB=>some (B.aL (rn l 0)):=by
   refine aqe λB hB=> ?_;rw[ap9]at l2;rw[RW S5 B (l2 B hB)]
 have jR:l.map (λj=>(h++e)[j]?)=H.map λB=>some (B.aL (rn l (h++e).length)):=by
  rw[iP,<-hb];refine aqe λj hj=> ?_;rw[apT (h2 j hj)]
 have:=hc.oe hd jR (by rw[l1,l2];rfl);have ha:fa.map (AV.aL (rn l (h++e).length))=fa.map (AV.aL (rn l 0)):=by
  refine aqe λx hx=> ?_;rw[ap9]at l1;exact xp S5 x (l1 x hx)
 rw[ha,xp S5 r l3]at this;refine this.mono λr1 h1 ⟨e1,e2⟩=>⟨e1,?_⟩;rw[e2];refine W2 l _ _ ?_;rw[jR,List.map_map];rfl
end
end Go.Proofs.YtmkmibahjanejaaGreatDoor
