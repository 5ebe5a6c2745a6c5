/-
  Part 2 of the proof: AbsLeave, AbsLoop, AbsZero, AbsIter, AbsCode, AbsWalk, GrowF, AbsDraw, AbsFrame.
-/
import Derived.Test.YtpeecnpmcbnahaaGreatDoorPp1
import Derived.Lib.AppendZeros
import Derived.Maps.RangeRun
namespace Go.Proofs.YtpeecnpmcbnahaaGreatDoor
open Go.RowKit
theorem aF.zm{G:Gh}{w:apk}{u:apj}{x:AV}(Z:Nat->Prop)(M:Nat)(h:aF G w u x):aF {G with Z:=Z,M:=M} w u x:=by
 induction h with
 |agg vs cs hl _ ih=>exact .agg vs cs hl ih
 |bg vs cs hl _ ih=>exact .bg vs cs hl ih
 |fn f vs cs hl _ ih=>exact .fn f vs cs hl ih
 |own n xs h hp hle hf=>exact .own n xs h hp hle hf
 |ptr n off h=>exact .ptr (G:={G with Z:=Z,M:=M}) n off h
 |row n off len cap k h hl hm=>exact .row (G:={G with Z:=Z,M:=M}) n off len cap k h hl hm
 |mp n h=>exact .mp (G:={G with Z:=Z,M:=M}) n h
 |cn n h=>exact .cn (G:={G with Z:=Z,M:=M}) n h
 |vec n o len L k h hs hL hf=>exact .vec (G:={G with Z:=Z,M:=M}) n o len L k h hs hL hf
 |dn n i j L k h hs hL hf=>exact .dn (G:={G with Z:=Z,M:=M}) n i j L k h hs hL hf
 |hid h J=>exact .hid h J
 |d h=>exact .d h
 |bj xs i off b o u x hx hS hu=>exact .bj xs i off b o u x hx hS hu
 |full xs hp hf=>exact .full xs hp hf
 |dead u=>exact .dead u
theorem dZ.zm{G:Gh}{w:apk}{n:Nat}{B:aq}(Z:Nat->Prop)(M:Nat)(hz:∀b,Z b->G.Z b)(h:dZ G w n B):dZ {G with Z:=Z,M:=M} w n B:=by
 cases B with
 |gone=>trivial
 |cells cs=>
  obtain⟨J,h2,vs,T,h3,h4,h5⟩:=h;exact⟨λk=>J (hz _ k),h2,vs,T,h3,h4,λi u c hu hc=>(h5 i u c hu hc).zm Z M⟩
 |lp ls p as bd cs=>
  obtain⟨J,h2,fn,vs,T,h3,h4,h5⟩:=h;exact⟨λk=>J (hz _ k),h2,fn,vs,T,h3,h4,λi u c hu hc=>(h5 i u c hu hc).zm Z M⟩
 |it sn cs=>
  obtain⟨J,h2,fn,vs,T,h3,h4,h5⟩:=h;exact⟨λk=>J (hz _ k),h2,fn,vs,T,h3,h4,λi u c hu hc=>(h5 i u c hu hc).zm Z M⟩
 |eP T0 cs=>
  obtain⟨J,h2,fn,vs,T,h3,h4,h5⟩:=h;exact⟨λk=>J (hz _ k),h2,fn,vs,T,h3,h4,λi u c hu hc=>(h5 i u c hu hc).zm Z M⟩
 |map kv=>
  obtain⟨J,h2,es,c,h3,h4⟩:=h;exact⟨λk=>J (hz _ k),h2,es,c,h3,h4⟩
 |iS kv=>
  obtain⟨J,h2,es,c,h3,h4⟩:=h;exact⟨λk=>J (hz _ k),h2,es,c,h3,h4⟩
 |front e k len=>
  obtain⟨J,hm,h2⟩:=h;refine⟨J,hm,?_⟩;rcases h2 with h2|⟨g,cap,cur,h2,h3,h4,h5⟩
  ·exact .inl h2
  ·exact .inr ⟨g,cap,cur,h2,h3,λk=>h4 (hz _ k),h5⟩
 |iB e b2=>
  obtain⟨J,hm,h2⟩:=h;refine⟨J,hm,?_⟩;rcases h2 with h2|⟨g,cap,cur,h2,h3,h4,h5⟩
  ·exact .inl h2
  ·exact .inr ⟨g,cap,cur,h2,h3,λk=>h4 (hz _ k),h5⟩
 |vec e k cs=>
  obtain⟨J,hm,hk,h2⟩:=h;refine⟨J,hm,hk,?_⟩;rcases h2 with h2|⟨g,cap,cur,h2,h3,h4,h5,h6,h7,h8,h9,bG⟩
  ·exact .inl h2
  ·exact .inr ⟨g,cap,cur,h2,h3,λk=>h4 (hz _ k),h5,h6,h7,h8,h9,λi j c x u hc hx hu=>(bG i j c x u hc hx hu).zm Z M⟩
theorem IW{h:apf aq}{G:Gh}{n:Nat}(Z:Nat->Prop)(M:Nat):bK h {G with Z:=Z,M:=M} n=bK h G n:=by
 unfold bK;cases h[n]? with
 |none=>rfl
 |some B=>cases B<;>rfl
theorem bN.zm{G:Gh}{w:apk}{h:apf aq}(hi:bN G w h)(Z:Nat->Prop)(M:Nat)(hz:∀b,Z b->G.Z b)(hM:M<=w.heap.size):bN {G with Z:=Z,M:=M} w h:=
 ⟨hi.len,λb hb=>hi.z b (hz b hb),hi.S,λn B hB=>(hi.c7 n B hB).zm Z M hz,λm n b J h2=>hi.inj m n b (by rw[<-IW Z M];exact J) (by rw[<-IW Z M];exact h2),⟨hi.gl.1,hM⟩⟩
def rF(l:apf Nat)(w:apk):apk:=l.foldl (λw D=>w.putObj D (.deferred none)) w
theorem Ud:∀(l:apf Nat)(w:apk),(∀D∈l,w.heap[D]?=some (.deferred (some [])))->l.Nodup->
 (rF l w).heap.size=w.heap.size/\(∀b,b ∉ l->(rF l w).heap[b]?=w.heap[b]?)/\(∀b o,(rF l w).cell? ⟨b,o,none⟩=w.cell? ⟨b,o,none⟩)/\(rF l w).os=w.os/\(rF l w).tape=w.tape/\(rF l w).output=w.output
 |[],w,_,_=>⟨rfl,λ_ _=>rfl,λ_ _=>rfl,rfl,rfl,rfl⟩
 |D::l,w,hd,hn=>by
  rw[List.nodup_cons]at hn;have hD:=hd D aox;have aN:=(aoG.1 hD).1;obtain⟨J,h2,h3,h4,h5,h6⟩:=Ud l (w.putObj D (.deferred none)) (λE hE=>by
    have cE:E≠D:=λe=>hn.1 (e▸hE);rw[World.putObj_heap_other cE];exact hd E (aoA _ hE)) hn.2
  refine⟨J.trans (by simp),λb hb=> ?_,λb o=> ?_,h4,h5,h6⟩
  ·exact(h2 b λh=>hb (aoA _ h)).trans (World.putObj_heap_other λe=>hb (e▸aox))
  ·refine(h3 b o).trans ?_;by_cases e:b=D
   ·subst e;unfold World.cell?;simp only[World.putObj_heap_same aN,hD]
   ·exact World.cell?_of_block (World.putObj_heap_other e)
theorem ZD{F:Fence}{n:Nat}{P:api}{fn:Func}{tmps:Array apj}{R:Ending->apk->Prop}:∀(l:apf Nat)(w:apk),(∀D∈l,w.heap[D]?=some (.deferred (some [])))->l.Nodup->
 LeavesIn F n P fn tmps R [] .returning (rF l w)->LeavesInM F n P fn tmps R (l.map λD=>{target:= .collected D,args:= #[]}) .returning w
 |[],w,_,_,h=>h
 |D::l,w,hd,hn,h=>by
  rw[List.nodup_cons]at hn;exact⟨by simp, .inl ⟨D,_,rfl,run_takeDeferred (hd D aox),ZD l _ (λE hE=>by
    have cE:E≠D:=λe=>hn.1 (e▸hE);rw[World.putObj_heap_other cE];exact hd E (aoA _ hE)) hn.2 h⟩⟩
theorem ako{N0:Nat}{G G1:Gh}{w w':apk}{a':Act}{s1:St}(hE:bM N0 {G with M:=w.heap.size} w G1 w')(hN:N0<=G1.N)(hz:∀b,G.Z b->b<w.heap.size)(hMw:G.M<=w.heap.size)(hs:cV G1 w' a' s1):
 ∃(w2:apk)(G2:Gh),(∀(F:Fence)(n:Nat)(P:api)(fn:Func)(R:Ending->apk->Prop),(∃v,(results fn a'.tmps).run P w2= .ok v w2/\R (.returned v) w2)->LeavesInM F n P fn a'.tmps R a'.defers .returning w')/\
  bM N0 G w G2 w2/\G2.N=G1.N/\cV G2 w2 {a' with defers:=[]} s1:=by
 obtain⟨l,l1,l2,l3⟩:=hs.df;have hd:∀D∈l,w'.heap[D]?=some (.deferred (some [])):=λD hD=>(l3 D hD).2.2;obtain⟨J,h2,h3,h4,h5,h6⟩:=Ud l w' hd l1;have hM:G1.M=w.heap.size:=hE.Z.2;have jA:∀b,G.Z b->b ∉ l:=λb hb hl=>by
  have:=(l3 b hl).1;have:=hz b hb;omega
 obtain⟨G2,iA⟩:∃G2:Gh,G2={G1 with Z:=G.Z,M:=G.M}:=⟨_,rfl⟩;have uf:∀b,G.Z b->G1.Z b:=hE.Z.1.1;have kI:bN G2 w' s1.h:=by rw[iA];exact hs.inv.zm _ _ uf (aoJ hMw hE.size)
 have jb:bM N0 G w G2 w':=by
  rw[iA];exact⟨hE.size,hE.S,hE.cell,hE.aR,hE.fr,zsame rfl,hE.old,hE.os,hE.tape,hE.output,hE.new⟩
 have jo:bM G2.N G2 w' G2 (rF l w'):=⟨by rw[J];exact aoC _,λ_ _ h=>h,λb o _=>h3 b o,λ_ _=>rfl,λ_ _=> .inl ⟨rfl,rfl⟩,zsame rfl,λb hb=>h2 b (jA b (by rw[iA]at hb;exact hb)),h4,h5,h6,λ_ _ h=> .inl h⟩;have J0:bN G2 (rF l w') s1.h:=⟨kI.len,λb hb=>by rw[J];exact kI.z b hb,λb o hb=>by rw[J];exact kI.S b o hb,λn B hB=>dZ.keep (kI.lt hB) jo (aoC _) ⟨rfl,rfl,rfl⟩ (λb hb=>⟨h2 b λhl=>(hs.inv.c7 n B hB).lq (by rw[iA]at hb;cases B<;>exact hb) (l3 b hl).2.1,λ_ h=>h⟩) (kI.c7 n B hB),kI.inj,kI.gl.keep jo⟩;refine⟨rF l w',G2,λF n P fn R h=> ?_,jb.trans (jo.less (by rw[iA];exact hN)),by rw[iA],⟨hs.size,λi=>aF.keep jo (aoC _) (by rw[iA];exact(hs.tmp i).zm _ _),J0,rG.nil _ _⟩⟩;rw[l2];exact ZD l w' hd l1 h
section
variable {G:Gh} {w:apk} {h:apf aq}
theorem afk(hi:bN G w h)(fn:FuncId)(tm:Array apj)(D p:Nat)(as bd:Code)(cs:apf AV)(hl:tm.size=cs.length)(hr:∀(i:Nat)(u:apj)(c:AV),tm[i]?=some u->cs[i]?=some c->aF G w u c):bM G.N G w (G.cX w.heap.size) (w.alloc (.loop {state:= .ready,pending:=none,fn:=fn,tmps:=tm,params:= #[p],assign:=as,body:=bd,defers:=D}))/\bN (G.cX w.heap.size) (w.alloc (.loop {state:= .ready,pending:=none,fn:=fn,tmps:=tm,params:= #[p],assign:=as,body:=bd,defers:=D})) (h++[.lp .ready p as bd cs])/\aF (G.cX w.heap.size) (w.alloc (.loop {state:= .ready,pending:=none,fn:=fn,tmps:=tm,params:= #[p],assign:=as,body:=bd,defers:=D})) (.func (.yield w.heap.size) #[] #[]) (.cn h.length):=by
 have hE:=sr G w hi.z hi.S (.loop {state:= .ready,pending:=none,fn:=fn,tmps:=tm,params:= #[p],assign:=as,body:=bd,defers:=D});have hN:G.N<=(G.cX w.heap.size).N:=Nat.le_succ _;have gj:(G.cX w.heap.size).aR h.length=w.heap.size:=by simp [Gh.cX,hi.len]
 have k9:∀n(B:aq),n<G.N->B.dP (G.cX w.heap.size) n=B.dP G n:=λn B hn=>by
  cases B<;>simp [aq.dP,Gh.cX,Nat.ne_of_lt hn]
 have fm:∀n,n<G.N->bK (h++[.lp .ready p as bd cs]) (G.cX w.heap.size) n=bK h G n:=λn hn=>by
  have aN:n<h.length:=by rw[hi.len];exact hn
  unfold bK;rw[aoB aN,aov aN];exact k9 n _ hn
 have sM:bK (h++[.lp .ready p as bd cs]) (G.cX w.heap.size) h.length=some w.heap.size:=by
  rw[dA (B:= .lp .ready p as bd cs) (by simp)];exact congrArg some gj
 refine⟨hE,⟨by simp [Gh.cX,hi.len],λb hb=>aoP (hi.z b hb) hE.size,λb o hs=>aoP (hi.S b o hs) hE.size,λn B hB=> ?_,λm n b hm hn=> ?_,hi.gl.keep hE⟩,?_⟩
 ·by_cases hn:n<h.length
  ·rw[aoB hn]at hB;have eW:n<G.N:=hi.len▸hn;exact dZ.keep eW hE hN ⟨rfl,rfl,rfl⟩ (λb hb=>⟨Below.heap_alloc w _ _ (hi.h1 (n:=n) ((dA hB).trans hb)),λo h=>h⟩) (hi.c7 n B hB)
  ·have ku:n=h.length:=by
    have:=(aor.1 hB).1;simp at this;omega
   subst ku;simp at hB;subst hB;exact⟨by rw[gj];exact λhz=>ao5 _ (hi.z _ hz),λo hs=>by rw[gj]at hs;exact ao5 _ (hi.S _ _ hs),fn,tm,D,by rw[gj];exact World.alloc_heap_new w _,hl,λi u c hu hc=>(hr i u c hu hc).keep hE hN⟩
 ·have key:∀n b,bK (h++[.lp .ready p as bd cs]) (G.cX w.heap.size) n=some b->(n<G.N/\bK h G n=some b)\/(n=h.length/\b=w.heap.size):=λn b hn=>by
   by_cases aN:n<G.N
   ·exact .inl ⟨aN,by rw[<-fm n aN];exact hn⟩
   ·by_cases e:n=h.length
    ·subst e;rw[sM]at hn;cases hn;exact .inr ⟨rfl,rfl⟩
    ·rw[uT (aoX (by simp;have:=hi.len;omega))]at hn;cases hn
  rcases key m b hm with⟨_,gk⟩|⟨rfl,rfl⟩<;>rcases key n _ hn with⟨_,eW⟩|⟨rfl,hb⟩
  ·exact hi.inj m n b gk eW
  ·have:=hi.h1 gk;omega
  ·have:=hi.h1 eW;omega
  ·rfl
 ·have:=aF.cn (G:=G.cX w.heap.size) (w:=w.alloc (.loop {state:= .ready,pending:=none,fn:=fn,tmps:=tm,params:= #[p],assign:=as,body:=bd,defers:=D})) h.length (by simp [Gh.cX,hi.len])
  rwa [gj]at this
theorem Od{k:Nat}{B B':aq}{ob vW:Obj}(hi:bN G w h)(hk:h[k]?=some B)(vv:B.dP G k=some (G.aR k))(hS:∀o,¬G.S (G.aR k) o)(mG:w.heap[G.aR k]?=some ob)(hn:B'= .gone\/B'.dP G k=some (G.aR k))
 (hB:∀w',(∀b o,G.S b o->w'.cell? ⟨b,o,none⟩=w.cell? ⟨b,o,none⟩)->w'.heap[G.aR k]?=some vW->bM G.N G w G w'->dZ G w' k B'):bM G.N G w G (w.putObj (G.aR k) vW)/\bN G (w.putObj (G.aR k) vW) (h.set k B'):=by
 have aN:=(aoG.1 mG).1;have hZ:¬G.Z (G.aR k):=(hi.c7 k B hk).lq vv;have jg:∀b,b≠G.aR k->(w.putObj (G.aR k) vW).heap[b]?=w.heap[b]?:=λb hb=>World.putObj_heap_other hb;have ie:∀b o,G.S b o->(w.putObj (G.aR k) vW).cell? ⟨b,o,none⟩=w.cell? ⟨b,o,none⟩:=λb o hs=>World.cell?_of_block (jg b (λe=>hS o (e▸hs)));have hE:bM G.N G w G (w.putObj (G.aR k) vW):=⟨by simp,λ_ _ h=>h,ie,λ_ _=>rfl,λ_ _=> .inl ⟨rfl,rfl⟩,zsame rfl,λb hb=>jg b (λe=>hZ (e▸hb)),rfl,rfl,rfl,λ_ _ h=> .inl h⟩;refine⟨hE,?_⟩;have hkl:=(aor.1 hk).1;have mB:(h.set k B')[k]?=some B':=by rw[aoU hkl]
 have e9:∀m,m≠k->(h.set k B')[m]?=h[m]?:=λm hm=>by rw[aoZ (Ne.symm hm)]
 have lv:bK h G k=some (G.aR k):=(dA hk).trans vv;have eG:∀m b,bK (h.set k B') G m=some b->bK h G m=some b:=λm b hb=>by
  by_cases e:m=k
  ·subst e;rw[dA mB]at hb;rcases hn with rfl|hn
   ·cases hb
   ·rw[hn]at hb;cases hb;exact lv
  ·unfold bK at hb ⊢;rw[e9 m e]at hb;exact hb
 refine⟨by rw[List.length_set];exact hi.len,λb hb=>aoP (hi.z b hb) hE.size,λb o hs=>aoP (hi.S b o hs) hE.size,λm C hC=> ?_,λm m' b J h2=>hi.inj m m' b (eG m b J) (eG m' b h2),hi.gl.keep hE⟩;by_cases e:m=k
 ·subst e;rw[mB]at hC;cases hC
  exact hB _ ie (World.putObj_heap_same aN) hE
 ·rw[e9 m e]at hC;have cE:∀b,bK h G m=some b->b≠G.aR k:=λb hb eb=>e (hi.inj m k b hb (by rw[eb];exact lv));exact dZ.keep (hi.lt hC) hE (aoC _) ⟨rfl,rfl,rfl⟩ (λb hb=>⟨jg b (cE _ ((dA hC).trans hb)),λo h=>h⟩) (hi.c7 m C hC)
theorem Jt{k:Nat}{ls:LS}{p:Nat}{as bd:Code}{cs:apf AV}(hi:bN G w h)(hk:h[k]?=some (.lp ls p as bd cs)):
 (∀o,¬G.S (G.aR k) o)/\∃(fn:FuncId)(tm:Array apj)(D:Nat),w.heap[G.aR k]?=some (.loop {state:=ls.st,pending:=ls.pd,fn:=fn,tmps:=tm,params:= #[p],assign:=as,body:=bd,defers:=D})/\tm.size=cs.length/\(∀(i:Nat)(u:apj)(c:AV),tm[i]?=some u->cs[i]?=some c->aF G w u c)/\
   ∀(zc:LS),bM G.N G w G (w.putObj (G.aR k) (.loop {state:=zc.st,pending:=zc.pd,fn:=fn,tmps:=tm,params:= #[p],assign:=as,body:=bd,defers:=D}))/\bN G (w.putObj (G.aR k) (.loop {state:=zc.st,pending:=zc.pd,fn:=fn,tmps:=tm,params:= #[p],assign:=as,body:=bd,defers:=D})) (h.set k (.lp zc p as bd cs)):=by
 obtain⟨J,h2,fn,tm,D,h3,h4,h5⟩:=hi.c7 k _ hk;refine⟨h2,fn,tm,D,h3,h4,h5,λzc=>Od hi hk rfl h2 h3 (.inr rfl) λw' hc eZ hE=>⟨J,h2,fn,tm,D,eZ,h4,λi u c hu fR=>(h5 i u c hu fR).keep hE (aoC _)⟩⟩
theorem afS{k:Nat}{ls:LS}{p:Nat}{as bd:Code}{cs:apf AV}(hi:bN G w h)(hk:h[k]?=some (.lp ls p as bd cs))(ob:Obj):bM G.N G w G (w.putObj (G.aR k) ob)/\bN G (w.putObj (G.aR k) ob) (h.set k .gone):=by
 obtain⟨J,h2,fn,tm,D,h3,h4,h5⟩:=hi.c7 k _ hk;exact Od hi hk rfl h2 h3 (.inl rfl) λ_ _ _ _=>trivial
theorem ahn(hi:bN G w h):bM G.N G w {G with Z:=λb=>G.Z b\/b=w.heap.size} (w.alloc (.deferred (some [])))/\bN {G with Z:=λb=>G.Z b\/b=w.heap.size} (w.alloc (.deferred (some []))) h:=by
 have hE:bM G.N G w {G with Z:=λb=>G.Z b\/b=w.heap.size} (w.alloc (.deferred (some []))):=
  ⟨by simp,λ_ _ h=>h,λb _ h=>World.cell?_alloc_lt _ _ _ (hi.S _ _ h),λ_ _=>rfl,λ_ _=> .inl ⟨rfl,rfl⟩,⟨⟨λ_ h=> .inl h,λb h=>h.imp id λe=>Nat.le_of_eq e.symm⟩,rfl⟩,λb hb=>Below.heap_alloc w _ b (hi.z b hb),rfl,rfl,rfl,λ_ _ h=> .inl h⟩
 refine⟨hE,hi.len,λb hb=> ?_,λb o hs=>aoP (hi.S b o hs) hE.size,λn B hB=> ?_,λm n b J h2=>hi.inj m n b (by rw[<-IW (λb=>G.Z b\/b=w.heap.size) G.M];exact J) (by rw[<-IW (λb=>G.Z b\/b=w.heap.size) G.M];exact h2),hi.gl.keep hE⟩
 ·rcases hb with hb|rfl
  ·exact aoP (hi.z b hb) hE.size
  ·simp
 ·exact dZ.keep (hi.lt hB) hE (aoC _) ⟨rfl,rfl,rfl⟩ (λb hb=>⟨Below.heap_alloc w _ _ (hi.h1 (n:=n) ((dA hB).trans hb)),λo h=>h⟩) (hi.c7 n B hB)
end
end Go.Proofs.YtpeecnpmcbnahaaGreatDoor
namespace Go.Proofs.YtpeecnpmcbnahaaGreatDoor
open Go.RowKit Go.Lib
def AV.isNil:AV->Bool
 | .d (.v (.slice none 0 0))=>true
 |_=>false
theorem am3{x:AV}(h:x.isNil=true):x= .d (.v (.slice none 0 0)):=by
 unfold AV.isNil at h;split at h
 ·rfl
 ·cases h
def Aa(P:api)(op:Op)(ρ:Operand->AV)(h:apf aq):aph (AV×apf aq):=
 match op with
 | .slice T x lo hi none=>match eY P T,uS ρ 0 lo,uS ρ 0 hi with
   |some _,some 0,some 0=>bif (ρ x).isNil then some (.d (.v (.slice none 0 0)),h)else none
   |_,_,_=>none
 | .call c=>match c.callee with
   | .builtin .cap=>match c.args.toList,c.argTypes.toList with
     |[x],[T]=>bif (ρ x).isNil&&(eY P T).isSome then some (.d (.v (.int .i64 0)),h)else none
     |_,_=>none
   | .builtin .append=>match c.args.toList,c.argTypes.toList with
     |[x,y],[T,U]=>match eY P T,qS P U,ρ y with
      |some (e,k),some _, .d (.v (.int _ (.ofNat m)))=>match iR P e,qQ P e with
       |some z,some cW=>bif (ρ x).isNil&&cm 1 m&&cm 1 k&&z.cells.toList.length==k&&cm m maxLen&&cm (m*cW) 140737488355328 then some (.vec h.length 0 m m k,h++[.vec e k (List.replicate m (z.cells.toList.map λu=> .d (.v u)))])else none
       |_,_=>none
      |_,_,_=>none
     |_,_=>none
   |_=>none
 |_=>none
section
variable {P:api} {r:aph Nat} {n N0:Nat} {G:Gh} {w:apk} {a:Act} {s:St} {o:Oper} {K:St->Prop} {Q:Exit->Act->apk->Prop}
theorem adm{x:Operand}{T:TypeId}(c:Call)(hc:c.callee= .builtin .cap)(J:c.args.toList=[x])(h2:c.argTypes.toList=[T])(ho:o.op= .call c):
 (execOp a.eval o).run P w=((Builtin.cap_ #[T] o.type #[a.eval x]).run P w).andThen λv w'=> .ok (.value v) w':=by
 have e1:c.args= #[x]:=by rw[<-Array.toList_inj];exact J
 have e2:c.argTypes= #[T]:=by rw[<-Array.toList_inj];exact h2
 unfold execOp;simp only[ho,resolve,hc,e1,e2,invoke,builtin,Sem.run_bind,Sem.run_pure,Result.andThen_ok,List.map_toArray,aoQ,List.map_nil]
theorem aaS(hs:cV G w a s){x:aph Operand}(h:uS (ev s) 0 x=some 0):BU a x 0 0:=by
 cases x with
 |none=>rfl
 |some y=>exact OX (d:=0) hs h (Int.le_refl _)
theorem acw{x:AV}{h':apf aq}(hs:cV G w a s)(cv:N0<=G.N)(hx:Aa P o.op (ev s) s.h=some (x,h'))(hK:K ((s.wh h').put o.dst x)):o.wpIn (WF r) n P a w (jf N0 G w K) Q:=by
 have dd:=hs.ev;have nil:∀{y:Operand},(ev s y).isNil=true->a.eval y= .slice none 0 0:=fun{y} h=>by
  have:=dd y;rw[am3 h]at this;exact this.val
 unfold Aa at hx;split at hx
 next T y lo hi ho=>
  split at hx
  ·next ek e1 e2 e3=>
   obtain⟨hb,he⟩:=mE hx;cases he
   obtain⟨fD,fW⟩:=j8 e1;refine fx (by rw[ho];simp) hs cv (v:= .slice none 0 0) ?_ (.d (.v _)) hK;have jZ:=Eg (P:=P) (AJ:=true) (aaS hs e2) (aaS hs e3) (aoC _) (aoC 0) w;unfold execOp;simp [ho,nil hb,Instr.sliceAt,Instr.slice,run_underlying fD,jZ,l4 fW]
  ·cases hx
 next c ho=>
  split at hx
  ·next hc=>
   split at hx
   ·next y T e1 e2=>
    obtain⟨hb,he⟩:=mE hx;cases he
    rw[aot]at hb;cases hT:eY P T with
    |none=>rw[hT]at hb;cases hb.2
    |some ek=>
     obtain⟨fD,fW⟩:=j8 hT;refine fx (by rw[ho];simp) hs cv (v:= .int .i64 0) ?_ (.d (.v _)) hK;rw[adm c hc e1 e2 ho,nil hb.1];simp [Builtin.cap_,run_underlying fD,goInt]
   ·cases hx
  ·next hc=>
   split at hx
   ·next y z T U e1 e2=>
    split at hx
    ·next e k kn kq m f1 f2 f3=>
     split at hx
     ·next zz cW g1 g2=>
      obtain⟨hb,he⟩:=mE hx;cases he
      simp only[aot,da,beq_iff_eq]at hb;obtain⟨⟨⟨⟨⟨iL,jZ⟩,Jk⟩,qZ⟩,Qh⟩,Nu⟩:=hb;clear hx;obtain⟨fD,fW⟩:=j8 f1;obtain⟨i,lr,j5⟩:∃i,P.info? e=some i/\i.size=k:=by
       unfold gh at fW;cases hq:P.info? e with
       |none=>rw[hq]at fW;cases fW
       |some i=>rw[hq]at fW;exact⟨i,rfl,aoK fW⟩
      have hz:i.zero=some zz:=by unfold iR at g1;rw[lr]at g1;exact g1
      have hbt:i.bytes=cW:=by unfold qQ at g2;rw[lr]at g2;exact aoK g2
      subst j5;subst hbt;have hy:=dd z;rw[f3]at hy;have ey:a.eval z= .int kq (m:Nat):=hy.val;have dB:=run_append_nil_zeros (P:=P) w T U o.type e i zz kq kn fD (J5 f2) lr hz m (by omega) (by omega) (by have:=Qh;simp [maxLen]at this;omega) (by omega);have jA:zz.cells.size=i.size:=by rw[<-aoY];exact qZ
      have gr:(List.replicate m (zz.cells.toList.map λu=>AV.d (.v u))).length=m:=ao1;obtain⟨cap,jV⟩:∃cap,cap=grownCap w m 0 e:=⟨_,rfl⟩;have jT:m<=cap:=by rw[jV];exact grownCap_ge _ _ _ _
      have hle:cap<=maxLen:=by rw[jV];exact grownCap_le_maxLen _ _ _ _ Qh
      rw[<-jV]at dB;obtain⟨cur,kD⟩:∃cur,cur=Builtin.zeroCells zz.cells m++Builtin.zeroCells zz.cells (cap-m):=⟨_,rfl⟩;rw[<-kD]at dB;have gO:cur.size=cap*i.size:=by
        rw[kD,Array.size_append,size_zeroCells,size_zeroCells,jA,<-Nat.add_mul]
        congr 1
        omega
      obtain⟨G',q1,q2,q3,q4⟩:=Pn (e:=e) (k:=i.size) (cap:=cap) (cs:=List.replicate m (zz.cells.toList.map λu=>AV.d (.v u))) (cur:=cur) hs.inv (by rw[gr];exact jT) hle gO (λc hc=>by
       rw[List.eq_of_mem_replicate hc,aow];exact qZ) w.drew ⟨rfl,rfl,rfl,rfl⟩ (λa' b c x u hc hx hu=>by
       have:=List.eq_of_mem_replicate (aoE hc);subst this;rw[aoy]at hx;cases hq:zz.cells.toList[b]? with
       |none=>rw[hq]at hx;cases hx
       |some y=>
        rw[hq]at hx;cases hx
        have jn:b<i.size:=by rw[<-qZ];exact(aor.1 hq).1
        have PE:a'<m:=by have:=(aor.1 hc).1;rwa [gr]at this
        have aN:a'*i.size+b<m*i.size:=m4 PE jn;rw[kD,Array.getElem?_append_left (by rw[size_zeroCells,jA];exact aN)]at hu;unfold Builtin.zeroCells at hu;rw[Array.getElem?_map,Array.getElem?_range,jA,if_pos aN]at hu;simp only[Option.map_some,Option.some.injEq]at hu;rw[(JC (i:=a') jn).2]at hu;have qJ:zz.cells[b]?=some y:=by rw[<-aoO];exact hq
        rw[getElem!_pos zz.cells b (by rw[jA];exact jn)]at hu;rw[aoN (by rw[jA];exact jn)]at qJ;cases qJ
        subst hu;exact .d (.v _))
      rw[gr]at q4;refine mq (by rw[ho];simp) hs cv (by rw[DX c hc e1 e2 ho,nil iL,ey,dB];rfl) q1 q2 q3 (q4 m (aoC _)) hK
     ·cases hx
    ·cases hx
   ·cases hx
  ·cases hx
 next=>cases hx
end
end Go.Proofs.YtpeecnpmcbnahaaGreatDoor
namespace Go.Proofs.YtpeecnpmcbnahaaGreatDoor
open Go.RowKit
section
variable {G:Gh} {w:apk} {h:apf aq}
theorem agk(hi:bN G w h){b mb c:Nat}(hr:aF G w (.map (some b)) (.mp mb)):bM G.N G w (G.cX w.heap.size) (w.alloc (.mapIter (some b) c #[] c))/\bN (G.cX w.heap.size) (w.alloc (.mapIter (some b) c #[] c)) (h++[.it (c,[]) [.mp mb]])/\aF (G.cX w.heap.size) (w.alloc (.mapIter (some b) c #[] c)) (.pointer (some ⟨w.heap.size,0,none⟩)) (.ptr h.length 0):=by
 have hE:=sr G w hi.z hi.S (.mapIter (some b) c #[] c);have hN:G.N<=(G.cX w.heap.size).N:=Nat.le_succ _;have gj:(G.cX w.heap.size).aR h.length=w.heap.size:=by simp [Gh.cX,hi.len]
 have k9:∀n(B:aq),n<G.N->B.dP (G.cX w.heap.size) n=B.dP G n:=λn B hn=>by
  cases B<;>simp [aq.dP,Gh.cX,Nat.ne_of_lt hn]
 have fm:∀n,n<G.N->bK (h++[.it (c,[]) [.mp mb]]) (G.cX w.heap.size) n=bK h G n:=λn hn=>by
  have aN:n<h.length:=by rw[hi.len];exact hn
  unfold bK;rw[aoB aN,aov aN];exact k9 n _ hn
 have sM:bK (h++[.it (c,[]) [.mp mb]]) (G.cX w.heap.size) h.length=some w.heap.size:=by
  rw[dA (B:= .it (c,[]) [.mp mb]) (by simp)];exact congrArg some gj
 refine⟨hE,⟨by simp [Gh.cX,hi.len],λb hb=>aoP (hi.z b hb) hE.size,λb o hs=>aoP (hi.S b o hs) hE.size,λn B hB=> ?_,λm n b hm hn=> ?_,hi.gl.keep hE⟩,?_⟩
 ·by_cases hn:n<h.length
  ·rw[aoB hn]at hB;have eW:n<G.N:=hi.len▸hn;exact dZ.keep eW hE hN ⟨rfl,rfl,rfl⟩ (λb hb=>⟨Below.heap_alloc w _ _ (hi.h1 (n:=n) ((dA hB).trans hb)),λo h=>h⟩) (hi.c7 n B hB)
  ·have ku:n=h.length:=by
    have:=(aor.1 hB).1;simp at this;omega
   subst ku;simp at hB;subst hB;exact⟨by rw[gj];exact λhz=>ao5 _ (hi.z _ hz),λo hs=>by rw[gj]at hs;exact ao5 _ (hi.S _ _ hs),b, #[.map (some b)],(),by rw[gj];exact World.alloc_heap_new w _,⟨rfl,rfl⟩,λi u c hu hc=>by
    match i with
    |0=>cases hu;cases hc;exact hr.keep hE hN
    |i+1=>simp at hu⟩
 ·have key:∀n b,bK (h++[.it (c,[]) [.mp mb]]) (G.cX w.heap.size) n=some b->(n<G.N/\bK h G n=some b)\/(n=h.length/\b=w.heap.size):=λn b hn=>by
   by_cases aN:n<G.N
   ·exact .inl ⟨aN,by rw[<-fm n aN];exact hn⟩
   ·by_cases e:n=h.length
    ·subst e;rw[sM]at hn;cases hn;exact .inr ⟨rfl,rfl⟩
    ·rw[uT (aoX (by simp;have:=hi.len;omega))]at hn;cases hn
  rcases key m b hm with⟨_,gk⟩|⟨rfl,rfl⟩<;>rcases key n _ hn with⟨_,eW⟩|⟨rfl,hb⟩
  ·exact hi.inj m n b gk eW
  ·have:=hi.h1 gk;omega
  ·have:=hi.h1 eW;omega
  ·rfl
 ·have:=aF.ptr (G:=G.cX w.heap.size) (w:=w.alloc (.mapIter (some b) c #[] c)) h.length 0 (by simp [Gh.cX,hi.len])
  rwa [gj]at this
theorem Y5(hi:bN G w h)(e:TypeId):bN (G.cX w.heap.size) (w.alloc (.cells #[.pointer none, .slice none 0 0] e)) (h++[.eP e [.d (.v (.slice none 0 0))]])/\aF (G.cX w.heap.size) (w.alloc (.cells #[.pointer none, .slice none 0 0] e)) (.pointer (some ⟨w.heap.size,0,none⟩)) (.ptr h.length 0):=by
 have hE:=sr G w hi.z hi.S (.cells #[.pointer none, .slice none 0 0] e);have hN:G.N<=(G.cX w.heap.size).N:=Nat.le_succ _;have gj:(G.cX w.heap.size).aR h.length=w.heap.size:=by simp [Gh.cX,hi.len]
 have k9:∀n(B:aq),n<G.N->B.dP (G.cX w.heap.size) n=B.dP G n:=λn B hn=>by
  cases B<;>simp [aq.dP,Gh.cX,Nat.ne_of_lt hn]
 have fm:∀n,n<G.N->bK (h++[.eP e [.d (.v (.slice none 0 0))]]) (G.cX w.heap.size) n=bK h G n:=λn hn=>by
  have aN:n<h.length:=by rw[hi.len];exact hn
  unfold bK;rw[aoB aN,aov aN];exact k9 n _ hn
 have sM:bK (h++[.eP e [.d (.v (.slice none 0 0))]]) (G.cX w.heap.size) h.length=some w.heap.size:=by
  rw[dA (B:= .eP e [.d (.v (.slice none 0 0))]) (by simp)];exact congrArg some gj
 refine⟨⟨by simp [Gh.cX,hi.len],λb hb=>aoP (hi.z b hb) hE.size,λb o hs=>aoP (hi.S b o hs) hE.size,λn B hB=> ?_,λm n b hm hn=> ?_,hi.gl.keep hE⟩,?_⟩
 ·by_cases hn:n<h.length
  ·rw[aoB hn]at hB;have eW:n<G.N:=hi.len▸hn;exact dZ.keep eW hE hN ⟨rfl,rfl,rfl⟩ (λb hb=>⟨Below.heap_alloc w _ _ (hi.h1 (n:=n) ((dA hB).trans hb)),λo h=>h⟩) (hi.c7 n B hB)
  ·have ku:n=h.length:=by
    have:=(aor.1 hB).1;simp at this;omega
   subst ku;simp at hB;subst hB;exact⟨by rw[gj];exact λhz=>ao5 _ (hi.z _ hz),λo hs=>by rw[gj]at hs;exact ao5 _ (hi.S _ _ hs),(), #[.slice none 0 0], .pointer none,by rw[gj];exact World.alloc_heap_new w _,⟨rfl, .inl rfl,λv hv=>Or.inl (by simpa using hv)⟩,λi u c hu hc=>by
    match i with
    |0=>cases hu;cases hc;exact .d (.v _)
    |i+1=>simp at hu⟩
 ·have key:∀n b,bK (h++[.eP e [.d (.v (.slice none 0 0))]]) (G.cX w.heap.size) n=some b->(n<G.N/\bK h G n=some b)\/(n=h.length/\b=w.heap.size):=λn b hn=>by
   by_cases aN:n<G.N
   ·exact .inl ⟨aN,by rw[<-fm n aN];exact hn⟩
   ·by_cases e:n=h.length
    ·subst e;rw[sM]at hn;cases hn;exact .inr ⟨rfl,rfl⟩
    ·rw[uT (aoX (by simp;have:=hi.len;omega))]at hn;cases hn
  rcases key m b hm with⟨_,gk⟩|⟨rfl,rfl⟩<;>rcases key n _ hn with⟨_,eW⟩|⟨rfl,hb⟩
  ·exact hi.inj m n b gk eW
  ·have:=hi.h1 gk;omega
  ·have:=hi.h1 eW;omega
  ·rfl
 ·have:=aF.ptr (G:=G.cX w.heap.size) (w:=w.alloc (.cells #[.pointer none, .slice none 0 0] e)) h.length 0 (by simp [Gh.cX,hi.len])
  rwa [gj]at this
theorem Mr{n mb:Nat}{sn:Nat×apf Nat}(hi:bN G w h)(hb:h[n]?=some (.it sn [.mp mb])):(∀o,¬G.S (G.aR n) o)/\w.heap[G.aR n]?=some (.mapIter (some (G.aR mb)) sn.1 sn.2.toArray sn.1)/\aF G w (.map (some (G.aR mb))) (.mp mb):=by
 obtain⟨J,h2,fn,vs,_,h3,⟨_,h4⟩,h5⟩:=hi.c7 n _ hb;have:=h5 0 (.map (some fn)) (.mp mb) (by rw[h4];rfl) rfl;cases this with
 |mp _ aN=>exact⟨h2,h3, .mp mb aN⟩
theorem Xe(hi:bN G w h):bM G.N G w G w.drew/\bN G w.drew h:=by
 have hE:bM G.N G w G w.drew:=⟨aoC _,λ_ _ h=>h,λ_ _ _=>rfl,λ_ _=>rfl,λ_ _=> .inl ⟨rfl,rfl⟩,zsame rfl,λ_ _=>rfl,rfl,rfl,rfl,λ_ _ h=> .inl h⟩;exact⟨hE,hi.len,hi.z,hi.S,λn B hB=>dZ.keep (hi.lt hB) hE (aoC _) ⟨rfl,rfl,rfl⟩ (λ_ _=>⟨rfl,λ_ h=>h⟩) (hi.c7 n B hB),hi.inj,hi.gl.keep hE⟩
end
def QY(P:api)(o:Oper)(K:St->Prop)(s:St):Prop:=
 match o.op with
 | .range T m=>match vo P T,ev s m with
   |some _, .mp mb=>match s.h[mb]? with
    |some (.iS kv)=>K ((s.wh (s.h++[.it (kv.length,[]) [.mp mb]])).put o.dst (.ptr s.h.length 0))
    |_=>False
   |_,_=>False
 | .next it false=>match ev s it with
   | .ptr m 0=>match s.h[m]? with
     |some (.it sn [.mp mb])=>match s.h[mb]? with
      |some (.iS kv)=>sn.1=kv.length/\(∀b p,kv[b]?=some p->b ∉ sn.2->K ((s.wh (s.h.set m (.it (sn.1,sn.2++[b]) [.mp mb]))).put o.dst (.bg [.d (.v (.bool true)), .d (.v (.string p.1)), .d p.2])))/\((∀b,b<kv.length->b∈sn.2)->K (s.put o.dst (.bg [.d (.v (.bool false))])))
      |_=>False
     |_=>False
   |_=>False
 | .entry it=>match ev s it with
   | .ptr m 0=>match s.h[m]? with
     |some (.it sn [.mp mb])=>match s.h[mb]? with
      |some (.iS kv)=>sn.1=kv.length/\∃l b p,sn.2=l++[b]/\kv[b]?=some p/\K (s.put o.dst (.bg [.d (.v (.string p.1)), .d p.2]))
      |_=>False
     |_=>False
   |_=>False
 | .alloc e=>match iR P e with
   |some z=>z.cells= #[.pointer none, .slice none 0 0]/\K ((s.wh (s.h++[.eP e [.d (.v (.slice none 0 0))]])).put o.dst (.ptr s.h.length 0))
   |none=>False
 | .box e x=>ev s x= .agg [.d (.v (.pointer none)), .d (.v (.slice none 0 0))]/\K ((s.wh (s.h++[.eP e [.d (.v (.slice none 0 0))]])).put o.dst (.ptr s.h.length 0))
 |_=>False
section
variable {P:api} {r:aph Nat} {n N0:Nat} {G:Gh} {w:apk} {a:Act} {s:St} {o:Oper} {K:St->Prop} {Q:Exit->Act->apk->Prop}
theorem Qu{mb:Nat}{kv:apf (apg×D)}(hi:bN G w s.h)(hb:s.h[mb]?=some (.iS kv)):∃es:Array MapEntry,w.heap[G.aR mb]?=some (.map es kv.length)/\yp G.S w es kv.length kv:=by
 obtain⟨_,_,es,c,J,h2⟩:=hi.c7 mb _ hb;have:c=kv.length:=h2.ok.Ea.trans h2.all.symm;subst this;exact⟨es,J,h2⟩
theorem yp.mem{S:Nat->Nat->Prop}{es:Array MapEntry}{c:Nat}{kv:apf (apg×D)}(h:yp S w es c kv){e:MapEntry}(he:e∈es.toList):es[e.born]?=some e/\e.born<kv.length:=by
 obtain⟨i,hi,rfl⟩:=List.getElem_of_mem he;have hs:es[i]?=some es.toList[i]:=by simp
 have hb:=h.ok.born i _ hs;rw[hb];exact⟨hs,by rw[h.all];simpa using hi⟩
theorem ahd(hs:cV G w a s)(cv:N0<=G.N)(hx:QY P o K s):o.wpIn (WF r) n P a w (jf N0 G w K) Q:=by
 have dd:=hs.ev;have ptr:∀{y:Operand}{n:Nat},ev s y= .ptr n 0->a.eval y= .pointer (some ⟨G.aR n,0,none⟩):=fun{y n} h=>by
  have:=dd y;rw[h]at this;generalize a.eval y=u at this;cases this;rfl
 unfold QY at hx;split at hx
 next T m ho=>
  split at hx
  ·next ke mb e1 e2=>
   split at hx
   ·next kv hb=>
    obtain⟨es,J,h2⟩:=Qu hs.inv hb;have hv:=dd m;rw[e2]at hv;have ea:a.eval m= .map (some (G.aR mb)):=by
     generalize a.eval m=u at hv;cases hv;rfl
    rw[ea]at hv;obtain⟨i1,i2,i3⟩:=agk (c:=kv.length) hs.inv hv;obtain⟨k0,el⟩:=ke;refine mq (by rw[ho];simp) hs cv (v:= .pointer (some ⟨w.heap.size,0,none⟩)) (w':=w.alloc (.mapIter (some (G.aR mb)) kv.length #[] kv.length)) ?_ i1 (Nat.le_succ _) i2 i3 hx;unfold execOp;simp [ho,ea,Instr.range,run_underlying (Ey e1),MapKept.run_getObj_map J,Result.andThen]
   ·cases hx
  ·cases hx
 next it ho=>
  split at hx
  ·next m e1=>
   split at hx
   ·next sn mb hn=>
    split at hx
    ·next kv hb=>
     obtain⟨hc,hK1,hK2⟩:=hx;obtain⟨es,J,h2⟩:=Qu hs.inv hb;obtain⟨t1,t2,t3⟩:=Mr hs.inv hn;rw[hc]at t2;have hr:=run_next_at (P:=P) w o.type _ _ _ _ _ _ _ t2 J (λx hx=>(h2.mem hx).2) (aoC _);rcases hr with⟨h0,hr⟩|⟨e',qq,w1,AK,hr⟩
     ·refine fx (by rw[ho];simp) hs cv (v:= .tuple #[.bool false]) ?_ (.bg _ _ rfl λi u c hu hc=> ?_) (hK2 λb fu=> ?_)
      ·unfold execOp;simp [ho,ptr e1,hr]
      ·match i with
       |0=>cases hu;cases hc;exact .d (.v _)
       |i+1=>simp at hu
      ·have aN:b<es.size:=by rw[<-h2.all];exact fu
       have Ju:es[b]?=some es[b]:=aoN aN;have Fq:=h2.ok.born b _ Ju;have RR:leftOf es sn.2.toArray= #[]:=Array.eq_empty_of_size_eq_zero h0;unfold leftOf at RR;rw[Array.filter_eq_empty_iff]at RR;have:=RR es[b] (Array.getElem_mem aN);rw[Fq]at this
       simpa using this
     ·have hm:e'∈es.toList/\e'.born ∉ sn.2:=by
       unfold leftOf at qq;simp only[Array.toList_filter,List.mem_filter]at qq;exact⟨qq.1,by simpa using qq.2⟩
      obtain⟨q1,q2⟩:=h2.mem hm.1;obtain⟨p,p1,p2,p3⟩:=h2.ord _ _ q1;have hK:=hK1 e'.born p p1 hm.2;obtain⟨jb,wG⟩:bM G.N G w G w1/\bN G w1 s.h:=by
       rcases AK with rfl|rfl
       ·exact⟨bM.refl _ _ _,hs.inv⟩
       ·exact Xe hs.inv
      obtain⟨t1',t2',_⟩:=Mr wG hn;obtain⟨z1,z2,z3,z4,z5,z6,z7⟩:=wG.c7 m _ hn;obtain⟨jo,HE⟩:=Od (B':= .it (sn.1,sn.2++[e'.born]) [.mp mb]) (vW:= .mapIter (some (G.aR mb)) kv.length (sn.2.toArray.push e'.born) kv.length) wG hn rfl t1' t2' (.inr rfl) λw' fR eZ hE=>by
       have hvv:=(Mr wG hn).2.2;refine⟨z1,z2,G.aR mb, #[.map (some (G.aR mb))],(),?_,⟨rfl,rfl⟩,λi u c hu hc=> ?_⟩
       ·rw[eZ];simp [hc]
       ·match i with
        |0=>cases hu;cases hc;exact hvv.keep hE (aoC _)
        |i+1=>simp at hu
      refine mq (by rw[ho];simp) hs cv (v:= .tuple #[.bool true,e'.key,e'.val]) ?_ (jb.trans jo) (aoC _) HE (.bg _ _ rfl λi u c hu hc=> ?_) hK
      ·unfold execOp;simp only[ho,ptr e1];simp [hr];rfl
      ·match i with
       |0=>cases hu;cases hc;exact .d (.v _)
       |1=>cases hu;cases hc;rw[p2];exact .d (.v _)
       |2=>cases hu;cases hc;exact .d (p3.keep (jb.trans jo).S (jb.trans jo).cell)
       |i+3=>simp at hu
    ·cases hx
   ·cases hx
  ·cases hx
 next it ho=>
  split at hx
  ·next m e1=>
   split at hx
   ·next sn mb hn=>
    split at hx
    ·next kv hb=>
     obtain⟨hc,l,b,p,hl,hp,hK⟩:=hx;obtain⟨es,J,h2⟩:=Qu hs.inv hb;obtain⟨t1,t2,t3⟩:=Mr hs.inv hn;have aN:b<es.size:=by rw[<-h2.all];exact(aor.1 hp).1
     have Ju:es[b]?=some es[b]:=aoN aN;have Fq:=h2.ok.born b _ Ju;obtain⟨p',p1,p2,p3⟩:=h2.ord _ _ Ju;rw[hp]at p1;cases p1
     have j0:(es.toList.map (·.born)).Nodup:=by
      have e:es.toList.map (·.born)=List.range es.size:=by
       apply List.ext_getElem?;intro i;rw[aoy,aoO];by_cases hi:i<es.size
       ·rw[aoN hi,Option.map_some,h2.ok.born i _ (aoN hi),List.getElem?_range hi]
       ·rw[Array.getElem?_eq_none (by omega),aoX (by simp;omega)];rfl
      rw[e];exact List.nodup_range
     have hr:=run_entry_at (P:=P) w (G.aR m) (G.aR mb) sn.1 l.toArray es kv.length es[b] (by rw[t2,hl,Fq,hc];simp) J (by simp) j0;refine fx (by rw[ho];simp) hs cv (v:= .tuple #[es[b].key,es[b].val]) ?_ (.bg _ _ rfl λi u c hu hc=> ?_) hK
     ·unfold execOp;simp [ho,ptr e1,hr]
     ·match i with
      |0=>cases hu;cases hc;rw[p2];exact .d (.v _)
      |1=>cases hu;cases hc;exact .d p3
      |i+2=>simp at hu
    ·cases hx
   ·cases hx
  ·cases hx
 next e ho=>
  split at hx
  ·next z hz=>
   obtain⟨hc,hK⟩:=hx;obtain⟨i1,i2⟩:=Y5 hs.inv e;exact mq (by rw[ho];simp) hs cv (by unfold execOp;simp [ho,Instr.alloc,Dq hz,newVar,newRow,hc]) (sr G w hs.inv.z hs.inv.S _) (Nat.le_succ _) i1 i2 hK
  ·cases hx
 next e x ho=>
  obtain⟨hx1,hK⟩:=hx;have hc:(a.eval x).cells= #[.pointer none, .slice none 0 0]:=by
   have hv:=dd x;rw[hx1]at hv;generalize a.eval x=u at hv;cases hv with|agg vs _ hl hr=>
   obtain⟨l⟩:=vs
   match l,hl with
   |[p,q],_=>
    have h0:=(hr 0 p _ rfl rfl).val;have J:=(hr 1 q _ rfl rfl).val;subst h0;subst J;rfl
  obtain⟨i1,i2⟩:=Y5 hs.inv e;exact mq (by rw[ho];simp) hs cv (by unfold execOp;simp [ho,Instr.box,newVar,newRow,hc]) (sr G w hs.inv.z hs.inv.S _) (Nat.le_succ _) i1 i2 hK
 ·cases hx
end
def iX(ops:Array Oper)(o:Oper)(s:St)(yes no:Prop):Prop:=
 match o.guard with
 |none=>yes
 |some (j,want)=>match (ops[j]?).bind (·.dst)with
  |some d=>match bn s.t d with
   | .d (.v (.bool b))=>(b=want->yes)/\(b= !want->no)
   | .d (.v (.tuple _))=>no
   |_=>False
  |none=>False
structure bA(P:Program)(r:Option Nat)(N0:Nat)(c:Code)(Q:Exit->St->Prop)(s:St):Prop where
 run:∀(G:Gh)(w:World)(a:Act)(n:Nat),cV G w a s->N0<=G.N->c.wpIn (WF r) n P (λe a' w'=>jf N0 G w (Q e) a' w') a w
def iU(K:St->Prop)(Q:Exit->St->Prop):Exit->St->Prop
 | .normal,s=>K s
 |e,s=>Q e s
def lD:Nat->apf AV->apf (Nat×AV)
 |_,[]=>[]
 |k,x::l=>(k,x)::lD (k+1) l
theorem Oq:∀(l:apf AV)(k i:Nat),bn (lD k l) i=if k<=i then(l[i-k]?).getD .dead else .dead
 |[],k,i=>by simp [lD,bn]
 |x::l,k,i=>by
  rw[lD,k8,Oq l (k+1) i];by_cases h:i=k
  ·subst h;simp
  ·rw[if_neg h];by_cases h2:k<=i
   ·rw[if_pos (by omega),if_pos h2,show i-k=i-(k+1)+1 by omega,ao2]
   ·rw[if_neg (by omega),if_neg h2]
def YS(P:api)(k:Nat)(x:AV)(h:apf aq)(C:Bool->apf aq->Prop):Prop:=
 ∀(G:Gh)(w:apk)(v:apj)(r:aph Nat)(n:Nat),bN G w h->aF G w v x->k<G.N/\∃(p:Nat)(as bd:Code)(fn:FuncId)(tm:Array apj)(D:Nat),
  w.heap[G.aR k]?=some (.loop {state:= .ready,pending:=none,fn:=fn,tmps:=tm,params:= #[p],assign:=as,body:=bd,defers:=D})/\
  RoundIn (WF r) n P (G.aR k) fn (tm.setIfInBounds p v) as bd w λe w'=>∃(b:Bool)(G':Gh)(h':apf aq),e= .returned (.bool b)/\bM G.N G w G' w'/\G.N<=G'.N/\bN G' w' h'/\C b h'
def aen(C:Bool->apf aq->Prop)(k:Nat):Exit->St->Prop
 | .normal,s2=>∃p as bd kF,s2.h[k]?=some (.lp .busy p as bd kF)/\C true (s2.h.set k (.lp .ready p as bd kF))
 | .ret,s2=>∃p as bd kF,s2.h[k]?=some (.lp .busy p as bd kF)/\C false (s2.h.set k (.lp (.done .ret) p as bd kF))
 | .exit i,s2=>∃p as bd kF,s2.h[k]?=some (.lp .busy p as bd kF)/\C false (s2.h.set k (.lp (.done (.exit i)) p as bd kF))
 |_,_=>False
def Mp(P:api)(o:Oper)(K:St->Prop)(s:St):Prop:=
 match o.op with
 | .call c=>match c.callee with
   | .value f=>match ev s f,c.args.toList.map (ev s)with
     | .cn k,[x]=>YS P k x s.h λb h'=>K ((s.wh h').put o.dst (.d (.v (.bool b))))
     |_,_=>False
   |_=>False
 |_=>False
def anH(P:api)(o:Oper)(K:St->Prop)(s:St):Prop:=∃x h',Aa P o.op (ev s) s.h=some (x,h')/\K ((s.wh h').put o.dst x)
def oY(P:api)(o:Oper)(K:St->Prop)(s:St):Prop:=Li P o K s\/EU P o K s\/qN P o K s\/Mp P o K s\/anH P o K s\/QY P o K s
def su(P:api)(ops:Array Oper):apf Oper->(St->Prop)->St->Prop
 |[],K,s=>K s
 |o::rest,K,s=>iX ops o s (oY P o (su P ops rest K) s) (su P ops rest K (s.put o.dst (.d (.v undef))))
def rb(id:Nat)(Q:Exit->St->Prop):Exit->St->Prop
 | .exit qP,s=>bif qP==id then Q .normal s else Q (.exit qP) s
 |e,s=>Q e s
section
variable {P:api} {r:aph Nat} {n N0:Nat} {G:Gh} {w:apk} {a:Act} {s:St} {o:Oper} {Q:Exit->St->Prop}
theorem jf.mono{K K':St->Prop}(h:∀s,K s->K' s){a':Act}{w':apk}(hn:jf N0 G w K a' w'):jf N0 G w K' a' w':=
 let ⟨G',s',J,h2,h3,h4⟩:=hn;⟨G',s',J,h2,h3,h _ h4⟩
theorem jf.trans{K:St->Prop}{G1:Gh}{w1:apk}(hE:bM N0 G w G1 w1){a':Act}{w':apk}(hn:jf N0 G1 w1 K a' w'):jf N0 G w K a' w':=
 let ⟨G',s',J,h2,h3,h4⟩:=hn;⟨G',s',hE.trans J,h2,h3,h4⟩
theorem bA.mono{c:Code}{Q':Exit->St->Prop}(h:bA P r N0 c Q s)(hq:∀e s,Q e s->Q' e s):bA P r N0 c Q' s:=
 ⟨λG w a n hs hN=>wpIn_mono (h.run G w a n hs hN) λe _ _ hn=>hn.mono (hq e)⟩
theorem N9{ops:Array Oper}{yes no:Prop}(hs:cV G w a s)(h:iX ops o s yes no):if Region.wanted o (yielded ops a.tmps)then yes else no:=by
 unfold iX at h;split at h
 ·rename_i hg
  rw[if_pos (by simp [Region.wanted,hg])];exact h
 ·rename_i j want hg
  split at h
  ·rename_i d hd
   have hv:=hs.tmp d;split at h
   ·rename_i b hb
    rw[hb]at hv;have e:=hv.bool;have hy:yielded ops a.tmps j=some b:=by
      unfold yielded;rw[hd,aoq];by_cases aN:d<a.tmps.size
      ·rw[aoN aN];have:a.tmps.getD d undef=a.tmps[d]:=by simp [Array.getD,aN]
       rw[this]at e;rw[e]
      ·have:a.tmps.getD d undef=undef:=by simp [Array.getD,aN]
       rw[this]at e;cases e
    by_cases vU:b=want
    ·rw[if_pos (by simp [Region.wanted,hg,hy,vU])];exact h.1 vU
    ·rw[if_neg (by simp [Region.wanted,hg,hy,vU])];exact h.2 (by cases b<;>cases want<;>simp_all)
   ·rename_i vs hb
    rw[hb]at hv;have e:=hv.val;have hy:yielded ops a.tmps j=none:=by
      unfold yielded;rw[hd,aoq];by_cases aN:d<a.tmps.size
      ·rw[aoN aN];have:a.tmps.getD d undef=a.tmps[d]:=by simp [Array.getD,aN]
       rw[this]at e;rw[e]
      ·rw[Array.getElem?_eq_none (Nat.le_of_not_lt aN)]
    rw[if_neg (by simp [Region.wanted,hg,hy])];exact h
   ·exact h.elim
  ·exact h.elim
theorem YS.mono{k:Nat}{x:AV}{h:apf aq}{C C':Bool->apf aq->Prop}(hy:YS P k x h C)(hc:∀b h',C b h'->C' b h'):YS P k x h C':=λG w v r n hi hv=>
 let ⟨h0,p,as,bd,fn,tm,D,J,h2⟩:=hy G w v r n hi hv
 ⟨h0,p,as,bd,fn,tm,D,J,h2.mono λ_ _ ⟨b,G',h',a1,a2,a3,a4,a5⟩=>⟨b,G',h',a1,a2,a3,a4,hc _ _ a5⟩⟩
theorem acS{k:Nat}{x:AV}{h:apf aq}{C:Bool->apf aq->Prop}
 (hA:∃p as bd cs,h[k]?=some (.lp .ready p as bd cs)/\p<cs.length/\∀(l:Nat),bA P (some l) h.length as (iU (λs1=>∃p1 rR tz wM,s1.h[k]?=some (.lp .ready p1 rR tz wM)/\bA P (some l) h.length bd (aen C k) ⟨s1.n,s1.t,s1.h.set k (.lp .busy p1 rR tz wM)⟩) (λ_ _=>False)) ⟨cs.length,(p,x)::lD 0 cs,h⟩):YS P k x h C:=by
 intro G w v r n hi MI;obtain⟨p,as,bd,cs,hk,hp,hA⟩:=hA;have yY:k<G.N:=hi.lt hk;obtain⟨hS,fn,tm,D,h3,h4,h5,aon⟩:=Jt hi hk;refine⟨yY,p,as,bd,fn,tm,D,h3,?_⟩;refine roundIn_of_wpIn (F:=WF r) trivial ?_;have qW:cV G w {tmps:=tm.setIfInBounds p v,defers:=[]} ⟨cs.length,(p,x)::lD 0 cs,h⟩:=by
  refine⟨by simp [h4],λi=> ?_,hi,rG.nil _ _⟩;show aF _ _ _ (bn ((p,x)::lD 0 cs) i);rw[k8];split
  ·next e=>
   subst e;have:(tm.setIfInBounds i v).getD i undef=v:=by simp [Array.getD,h4,hp]
   rw[this];exact MI
  ·next e=>
   rw[Oq];simp only[Nat.zero_le,if_true,Nat.sub_zero];cases fR:cs[i]? with
   |none=>exact .dead _
   |some y=>
    have aN:i<tm.size:=by rw[h4];exact(aor.1 fR).1
    have:(tm.setIfInBounds p v).getD i undef=tm[i]:=by
     simp [Array.getD,aN,Ne.symm e]
    rw[this];exact h5 i _ y (aoN aN) fR
 have I6:=hA (G.aR k);rw[hi.len]at I6;refine wpIn_mono (I6.run G w _ n qW (aoC _)) λe1 a1 w1 vK=> ?_;obtain⟨G1,s1,jb,gu,fg,xl⟩:=vK;cases e1 with
 |normal=>
  obtain⟨p1,rR,tz,wM,jH,iL⟩:=xl;have Ct:G1.aR k=G.aR k:=jb.aR k yY;obtain⟨_,fn1,tm1,D1,g3,g4,g5,abC⟩:=Jt fg.inv jH;obtain⟨gE,gI⟩:=abC .busy;rw[Ct]at g3 gE gI;refine⟨_,run_beginRound g3 rfl,?_⟩;have wj:cV G1 (w1.putObj (G.aR k) (.loop {state:= .busy,pending:=none,fn:=fn1,tmps:=tm1,params:= #[p1],assign:=rR,body:=tz,defers:=D1})) a1 ⟨s1.n,s1.t,s1.h.set k (.lp .busy p1 rR tz wM)⟩:=fg.move gE (aoC _) gI;refine wpIn_mono (iL.run G1 _ a1 n wj gu) λe3 a3 w3 hn3=> ?_;obtain⟨G3,s3,Xy,Yt,hs3,qO⟩:=hn3;have fin:∀(jump:aph Code)(ls:LS)(b:Bool)(p:Nat)(as bd:Code)(kF:apf AV),s3.h[k]?=some (.lp .busy p as bd kF)->ls.pd=jump->ls.st=(if jump.isNone then .ready else .done)->jump.isNone=b->C b (s3.h.set k (.lp ls p as bd kF))->
   ∃v w',(Instr.endRound (G.aR k) jump).run P w3= .ok v w'/\∃(b:Bool)(G':Gh)(h':apf aq),(Ending.returned v:Ending)= .returned (.bool b)/\bM G.N G w G' w'/\G.N<=G'.N/\bN G' w' h'/\C b h':=λjump ls b p as bd kF IL q1 q2 q3 hK=>by
   have hr3:G3.aR k=G.aR k:=(Xy.aR k yY).trans Ct;obtain⟨_,fn3,tm3,D3,z3,z4,z5,amt⟩:=Jt hs3.inv IL;obtain⟨zE,zI⟩:=amt ls;rw[hr3]at z3 zE zI;subst q1;have FO:=run_endRound (P:=P) ls.pd z3;rw[<-q2]at FO;refine⟨_,_,FO,b,G3,_,by rw[q3],?_,Yt,zI,hK⟩;exact(jb.trans ((gE.less gu).trans Xy)).trans (zE.less Yt)
  cases e3 with
  |normal=>obtain⟨p2,FX,EA,kF,y1,y2⟩:=qO;exact fin none .ready true p2 FX EA kF y1 rfl rfl rfl y2
  |ret=>obtain⟨p2,FX,EA,kF,y1,y2⟩:=qO;exact fin (some .ret) (.done .ret) false p2 FX EA kF y1 rfl rfl rfl y2
  |exit i=>obtain⟨p2,FX,EA,kF,y1,y2⟩:=qO;exact fin (some (.exit i)) (.done (.exit i)) false p2 FX EA kF y1 rfl rfl rfl y2
  |_=>exact qO.elim
 |_=>exact xl.elim
theorem ani{K:St->Prop}{Q:Exit->Act->apk->Prop}(hs:cV G w a s)(hN:N0<=G.N)(h:Mp P o K s):o.wpIn (WF r) n P a w (jf N0 G w K) Q:=by
 unfold Mp at h;split at h
 ·next c ho=>
  split at h
  ·next f hc=>
   split at h
   ·next k x hf hx=>
    have hv:=hs.ev f;rw[hf]at hv;have ea:a.eval f= .func (.yield (G.aR k)) #[] #[]:=by
     generalize a.eval f=u at hv;cases hv;rfl
    obtain⟨p1,p2⟩:=yy hs c.args;obtain⟨v,sG⟩:∃v,c.args.map a.eval= #[v]:=by
     have:(c.args.map a.eval).size=1:=by rw[p1,hx];rfl
     exact⟨(c.args.map a.eval)[0],Array.ext (by simp [this]) λi J h2=>by
      have:i=0:=by simp at h2;exact h2
      subst this;rfl⟩
    have MI:aF G w v x:=p2 0 v x (by rw[sG];rfl) (by rw[hx];rfl);obtain⟨yY,p,as,bd,fn,tm,D,h3,hA⟩:=h G w v r (n-1) hs.inv MI;have j0:∀c',o.op≠ .defer c':=λc' e=>by rw[ho]at e;cases e
    have hy:=run_yield (P:=P) (args:= #[v]) h3 rfl;have dB:(o.semAt (WF r).round a.eval).run P w= .ok (.round (G.aR k) fn (tm.setIfInBounds p v) as bd) w:=by
     rw[Oper.semAt_eq _ _ _ j0];unfold execOp;simp only[ho,resolve,hc,ea];simp [Deferred.ofValue,invoke,sG,hy]
    unfold Oper.wpIn;refine⟨λg hg=>trivial,?_⟩;rw[dB,Oper.uponIn_round];refine⟨λh=>(by simp [WF,Fence.wide]at h),hA.mono λe w' hp=> ?_⟩;obtain⟨b,G',h',rfl,hE,ry,dO,hK⟩:=hp;exact⟨G',_,hE.less hN,aoJ hN ry,(hs.move hE ry dO).put (.d (.v _)) o.dst,hK⟩
   ·exact h.elim
  ·exact h.elim
 ·exact h.elim
theorem agb{K:St->Prop}{Q:Exit->Act->apk->Prop}(hs:cV G w a s)(hN:N0<=G.N)(h:oY P o K s):o.wpIn (WF r) n P a w (jf N0 G w K) Q:=by
 rcases h with h|h|h|h|⟨x,h',h,hK⟩|h
 ·exact Ot hs hN (.inl h)
 ·exact Ot hs hN (.inr (.inl h))
 ·exact Ot hs hN (.inr (.inr h))
 ·exact ani hs hN h
 ·exact acw hs hN h hK
 ·exact ahd hs hN h
theorem PA{ops:Array Oper}{K:St->Prop}{Q':Exit->Act->apk->Prop}(hQ:∀a' w',jf N0 G w K a' w'->Q' .normal a' w'):∀(l:apf Oper)(k:Nat),(∀j,l[j]?=ops[k+j]?)->∀(G1:Gh)(w1:apk)(a:Act)(s:St),
 bM N0 G w G1 w1->N0<=G1.N->cV G1 w1 a s->su P ops l K s->wpOpsIn (WF r) n P ops Q' (List.range' k l.length) a w1
 |[],k,_,G1,w1,a,s,hE,hN,hs,h=>hQ _ _ ⟨G1,s,hE,hN,hs,h⟩
 |o::l,k,hl,G1,w1,a,s,hE,hN,hs,h=>by
  have h0:ops[k]?=some o:=by simpa using (hl 0).symm
  have pv:∀j,l[j]?=ops[k+1+j]?:=λj=>by have:=hl (j+1);simpa [Nat.add_assoc,Nat.add_comm 1 j]using this
  have hg:=N9 hs h;simp only[aou,List.range'_succ,wpOpsIn,h0];split
  ·rename_i hw
   rw[if_pos hw]at hg;exact Oper.wpIn_mono (λa' w' hn=>by
     obtain⟨G2,s2,e2,n2,wz,k2⟩:=hn;exact PA hQ l (k+1) pv G2 w' a' s2 (hE.trans e2) n2 wz k2) (agb hs hN hg)
  ·rename_i hw
   rw[if_neg hw]at hg;exact⟨λ_ _=>trivial,PA hQ l (k+1) pv G1 w1 _ _ hE hN (hs.put (.d (.v undef)) o.dst) hg⟩
theorem e7{id:Nat}{ops:Array Oper}(h:su P ops ops.toList (Q .normal) s):bA P r N0 (.region id ops false) Q s:=by
 constructor
 intro G w a n hs hN;refine wpIn_region ?_;rw[List.range_eq_range',<-aoY];exact PA (G:=G) (w:=w) (K:=Q .normal) (λ_ _ h=>h) ops.toList 0 (by simp) G w a s (bM.refl _ _ _) hN hs h
theorem dy(h:Q .normal s):bA P r N0 .skip Q s:=⟨λG _ _ _ hs hN=>wpIn_skip ⟨G,s,bM.refl _ _ _,hN,hs,h⟩⟩
theorem cY(h:Q .ret s):bA P r N0 .ret Q s:=⟨λG _ _ _ hs hN=>wpIn_ret ⟨G,s,bM.refl _ _ _,hN,hs,h⟩⟩
theorem o7{id:Nat}(h:Q (.exit id) s):bA P r N0 (.exit id) Q s:=⟨λG _ _ _ hs hN=>wpIn_exit ⟨G,s,bM.refl _ _ _,hN,hs,h⟩⟩
theorem aA{x y:Code}(h:bA P r N0 x (iU (λs'=>bA P r N0 y Q s') Q) s):bA P r N0 (.seq x y) Q s:=by
 constructor
 intro G w a n hs hN;refine wpIn_seq (wpIn_mono (h.run G w a n hs hN) λe a1 w1 hn=> ?_);obtain⟨G1,s1,hE,gu,fg,hq⟩:=hn;cases e with
 |normal=>exact wpIn_mono (hq.run G1 w1 a1 n fg gu) λ_ _ _ hn=>hn.trans hE
 |_=>exact⟨G1,s1,hE,gu,fg,hq⟩
theorem Pj{c:Operand}{x y:Code}{t:Bool}(hc:ev s c= .d (.v (.bool t)))(J:t=true->bA P r N0 x Q s)(h2:t=false->bA P r N0 y Q s):bA P r N0 (.cond c x y) Q s:=by
 constructor
 intro G w a n hs hN;have hb:=hs.ev c;rw[hc]at hb;exact wpIn_cond_split hb.bool (λe=>(J e).run G w a n hs hN) (λe=>(h2 e).run G w a n hs hN)
theorem gp{id:Nat}{c:Code}(h:bA P r N0 c (rb id Q) s):bA P r N0 (.block id c) Q s:=by
 constructor
 intro G w a n hs hN;refine wpIn_block (wpIn_mono (h.run G w a n hs hN) λe a1 w1 hn=> ?_);obtain⟨G1,s1,hE,gu,fg,hq⟩:=hn;cases e with
 |exit qP=>
  by_cases he:qP=id
  ·simp only[rb,he,BEq.rfl,cond_true]at hq;simp only[Exit.inBlock,if_pos he];exact⟨G1,s1,hE,gu,fg,hq⟩
  ·have hbe:(qP==id)=false:=by simpa using he
   simp only[rb,hbe,cond_false]at hq;simp only[Exit.inBlock,if_neg he];exact⟨G1,s1,hE,gu,fg,hq⟩
 |_=>exact⟨G1,s1,hE,gu,fg,hq⟩
theorem SQ{F:Fence}{c:Code}{Q:Exit->Act->apk->Prop}{ι:Type}(I:ι->Act->apk->Prop)(μ:ι->Nat)(i0:ι)(h₀:I i0 a w)
 (round:∀i a w,I i a w->c.wpIn F n P (Exit.then (λa' w'=>∃i',I i' a' w'/\μ i'<μ i) Q) a w):(Code.loop c).wpIn F n P Q a w:=by
 intro b k cs Ah hb hr;have key:∀j i a w,μ i=j->I i a w->
  ∃e a' w',Q e a' w'/\ArrivesIn (Machine.fenced P F) P (lone (b.atR a (.code c:: .inLoop c::k)) cs w) b k cs e a' w':=by
  intro j
  induction j using Nat.strongRecOn with
  |_ j ih=>
   intro i a w hn hI;obtain⟨e,a₁,w₁,hq,uQ⟩:=round i a w hI b (.inLoop c::k) cs Ah hb hr;cases e with
   |normal=>
    obtain⟨i',hI₁,aN⟩:=hq;obtain⟨e₂,a₂,w₂,hq₂,afx⟩:=ih (μ i') (hn▸aN) i' a₁ w₁ rfl hI₁;exact⟨e₂,a₂,w₂,hq₂, .of_steps (StepsIn.trans uQ (.one (fenced_calm hb hr rfl) stepR_inLoop)) afx⟩
   |exit id=>exact⟨_,a₁,w₁,hq, .pass (x:= .inLoop c) rfl (λ_ _=> .inl (by simp)) uQ⟩
   |goto l=>exact⟨_,a₁,w₁,hq, .pass (x:= .inLoop c) rfl (λ_ _=> .inl (by simp)) uQ⟩
   |ret=>exact⟨_,a₁,w₁,hq, .pass (x:= .inLoop c) rfl (λ_ _=> .inl (by simp)) uQ⟩
   |panic ch=>exact⟨_,a₁,w₁,hq, .pass (x:= .inLoop c) rfl (λ_ _=> .inl (by simp)) uQ⟩
   |outgrown=>exact⟨_,a₁,w₁,hq, .pass (x:= .inLoop c) rfl (λ_ _=> .inl (by simp)) uQ⟩
 obtain⟨e,a',w',hq,uQ⟩:=key _ i0 a w rfl h₀;exact⟨e,a',w',hq, .of_steps (.one (fenced_calm hb hr rfl) stepR_loop) uQ⟩
end
mutual
def AV.bo(m:Nat):AV->AV
 | .own n xs=>bif cm m n then .d (.sl xs)else .own n xs
 | .agg cs=> .agg (AV.pk m cs)
 | .bg cs=> .bg (AV.pk m cs)
 | .fn f cs=> .fn f (AV.pk m cs)
 |x=>x
def AV.pk(m:Nat):apf AV->apf AV
 |[]=>[]
 |x::l=>x.bo m::AV.pk m l
end
mutual
def AV.aE(m:Nat):AV->Bool
 | .own n _| .ptr n _| .row n _ _ _ _| .mp n| .cn n| .vec n _ _ _ _| .dn n _ _ _ _=> !cm m n
 | .agg cs=>AV.kE m cs
 | .bg cs=>AV.kE m cs
 | .fn _ cs=>AV.kE m cs
 |_=>true
def AV.kE(m:Nat):apf AV->Bool
 |[]=>true
 |x::l=>x.aE m&&AV.kE m l
end
theorem Ew(m:Nat):∀l,AV.pk m l=l.map (AV.bo m)
 |[]=>by simp [AV.pk]
 |x::l=>by simp [AV.pk,Ew m l]
theorem mS(m:Nat):∀l,AV.kE m l=l.all (AV.aE m)
 |[]=>by simp [AV.kE]
 |x::l=>by simp [AV.kE,mS m l]
def aq.bo(m:Nat):aq->aq
 | .cells cs=> .cells (cs.map (AV.bo m))
 | .lp ls p as bd cs=> .lp ls p as bd (cs.map (AV.bo m))
 | .it sn cs=> .it sn (cs.map (AV.bo m))
 | .eP T cs=> .eP T (cs.map (AV.bo m))
 | .vec e k cs=> .vec e k (cs.map (·.map (AV.bo m)))
 |B=>B
def aq.aE(m:Nat):aq->Bool
 | .cells cs=>cs.all (AV.aE m)
 | .lp _ _ _ _ cs=>cs.all (AV.aE m)
 | .it _ cs=>cs.all (AV.aE m)
 | .eP _ cs=>cs.all (AV.aE m)
 | .vec _ _ cs=>cs.all (·.all (AV.aE m))
 |_=>true
theorem aF.bo{G:Gh}{w:apk}(m:Nat){u:apj}{x:AV}(h:aF G w u x):aF G w u (x.bo m):=by
 have fG:∀(vs:Array apj)(cs:apf AV),(∀(i:Nat)(u:apj)(c:AV),vs[i]?=some u->cs[i]?=some c->aF G w u (c.bo m))->∀(i:Nat)(u:apj)(c:AV),vs[i]?=some u->(AV.pk m cs)[i]?=some c->aF G w u c:=by
  intro vs cs ih i u c hu hc;rw[Ew,aoy]at hc;cases hx:cs[i]? with
  |none=>rw[hx]at hc;cases hc
  |some x=>rw[hx]at hc;cases hc;exact ih i u x hu hx
 induction h with
 |agg vs cs hl _ ih=>rw[AV.bo];exact .agg vs _ (by rw[Ew,aow];exact hl) (fG vs cs ih)
 |bg vs cs hl _ ih=>rw[AV.bo];exact .bg vs _ (by rw[Ew,aow];exact hl) (fG vs cs ih)
 |fn f vs cs hl _ ih=>rw[AV.bo];exact .fn f vs _ (by rw[Ew,aow];exact hl) (fG vs cs ih)
 |own n xs h hp hle hf=>
  rw[AV.bo,cond_eq_ite];split
  ·exact .d hp
  ·exact .own n xs h hp hle hf
 |d h=>simp only[AV.bo];exact .d h
 |ptr n off h=>simp only[AV.bo];exact .ptr n off h
 |bj xs i off b o u x hx hS hu=>simp only[AV.bo];exact .bj xs i off b o u x hx hS hu
 |full xs hp hf=>simp only[AV.bo];exact .full xs hp hf
 |row n off len cap k h hl hm=>simp only[AV.bo];exact .row n off len cap k h hl hm
 |mp n h=>simp only[AV.bo];exact .mp n h
 |cn n h=>simp only[AV.bo];exact .cn n h
 |vec n o len L k h hs hL hf=>simp only[AV.bo];exact .vec n o len L k h hs hL hf
 |dn n i j L k h hs hL hf=>simp only[AV.bo];exact .dn n i j L k h hs hL hf
 |hid h J=>simp only[AV.bo];exact .hid h J
 |dead u=>simp only[AV.bo];exact .dead u
def Gh.cut(G:Gh)(m:Nat):Gh:={G with N:=m}
theorem aF.cut{G:Gh}{w:apk}{m:Nat}{u:apj}{x:AV}(h:aF G w u x)(hb:x.aE m=true):aF (G.cut m) w u x:=by
 induction h with
 |agg vs cs hl _ ih=>
  rw[AV.aE,mS,aoR]at hb;exact .agg vs cs hl λi u c hu hc=>ih i u c hu hc (hb c (aoE hc))
 |bg vs cs hl _ ih=>
  rw[AV.aE,mS,aoR]at hb;exact .bg vs cs hl λi u c hu hc=>ih i u c hu hc (hb c (aoE hc))
 |fn f vs cs hl _ ih=>
  rw[AV.aE,mS,aoR]at hb;exact .fn f vs cs hl λi u c hu hc=>ih i u c hu hc (hb c (aoE hc))
 |own n xs h hp hle hf=>rw[AV.aE]at hb;exact .own n xs (show n<m by rw[Bool.not_eq_true',<-Bool.not_eq_true,da]at hb;omega) hp hle hf
 |ptr n off h=>rw[AV.aE]at hb;exact .ptr (G:=G.cut m) n off (show n<m by rw[Bool.not_eq_true',<-Bool.not_eq_true,da]at hb;omega)
 |row n off len cap k h hl hm=>rw[AV.aE]at hb;exact .row (G:=G.cut m) n off len cap k (show n<m by rw[Bool.not_eq_true',<-Bool.not_eq_true,da]at hb;omega) hl hm
 |mp n h=>rw[AV.aE]at hb;exact .mp (G:=G.cut m) n (show n<m by rw[Bool.not_eq_true',<-Bool.not_eq_true,da]at hb;omega)
 |cn n h=>rw[AV.aE]at hb;exact .cn (G:=G.cut m) n (show n<m by rw[Bool.not_eq_true',<-Bool.not_eq_true,da]at hb;omega)
 |vec n o len L k h hs hL hf=>rw[AV.aE]at hb;exact .vec (G:=G.cut m) n o len L k (show n<m by rw[Bool.not_eq_true',<-Bool.not_eq_true,da]at hb;omega) hs hL hf
 |dn n i j L k h hs hL hf=>rw[AV.aE]at hb;exact .dn (G:=G.cut m) n i j L k (show n<m by rw[Bool.not_eq_true',<-Bool.not_eq_true,da]at hb;omega) hs hL hf
 |hid h J=>exact .hid (G:=G.cut m) h J
 |d h=>exact .d h
 |bj xs i off b o u x hx hS hu=>exact .bj xs i off b o u x hx hS hu
 |full xs hp hf=>exact .full xs hp hf
 |dead u=>exact .dead u
def St.mask(s:St)(live:apf Nat)(m:Nat):St:={s with t:=live.map λk=>(k,(bn s.t k).bo m),h:=(s.h.take m).map (aq.bo m)}
def St.AS(s:St)(live:apf Nat)(m:Nat):Prop:=m<=s.h.length/\(live.all λk=>((bn s.t k).bo m).aE m)=true/\(((s.h.take m).map (aq.bo m)).all (aq.aE m))=true
theorem tc(f:Nat->AV):∀(live:apf Nat)(i:Nat),bn (live.map λk=>(k,f k)) i=if i∈live then f i else .dead
 |[],i=>by simp [bn]
 |k::l,i=>by
  simp only[aoQ,k8,tc f l i,aoV];by_cases h:i=k
  ·subst h;simp
  ·simp [h]
theorem Ra{G:Gh}{w:apk}{h:apf aq}(hi:bN G w h){m:Nat}(hm:m<=h.length)(hb:(((h.take m).map (aq.bo m)).all (aq.aE m))=true):bN (G.cut m) w ((h.take m).map (aq.bo m)):=by
 have e9:∀(n:Nat)(B:aq),((h.take m).map (aq.bo m))[n]?=some B->n<m/\∃B',h[n]?=some B'/\B=B'.bo m/\(B'.bo m).aE m=true:=λn B hB=>by
  have tG:=aoR.1 hb B (aoE hB);rw[aoy,List.getElem?_take]at hB;split at hB
  ·rename_i hn
   cases hx:h[n]? with
   |none=>rw[hx]at hB;cases hB
   |some B'=>rw[hx]at hB;cases hB;exact⟨hn,B',rfl,rfl,tG⟩
  ·cases hB
 have eG:∀n b,bK ((h.take m).map (aq.bo m)) (G.cut m) n=some b->bK h G n=some b:=λn b hb=>by
  obtain⟨B,hB,hb⟩:=nm hb;obtain⟨_,B',J,rfl,_⟩:=e9 n B hB;rw[dA J,<-hb];cases B'<;>rfl
 refine⟨by simp [Gh.cut];omega,hi.z,hi.S,λn B hB=> ?_,λi j b J h2=>hi.inj i j b (eG i b J) (eG j b h2),hi.gl⟩;obtain⟨hn,B',J,rfl,tG⟩:=e9 n B hB;have dG:=hi.c7 n B' J;cases B' with
 |gone=>trivial
 |front e k len=>exact dG
 |iB e b=>exact dG
 |map kv=>exact dG
 |iS kv=>exact dG
 |vec e k cs=>
  obtain⟨c1,c2,c3,c4⟩:=dG;refine⟨by rw[aow];exact c1,by rw[aow];exact c2,λc hc=> ?_,?_⟩
  ·obtain⟨x,hx,rfl⟩:=List.mem_map.1 hc;rw[aow];exact c3 x hx
  ·rcases c4 with⟨d1,d2,A,d3⟩|⟨g,cap,cur,d1,d2,d3,d4,d5,d6,d7,d8,d9⟩
   ·exact .inl ⟨d1,by rw[d2];rfl,A,d3⟩
   ·refine .inr ⟨g,cap,cur,d1,by rw[aow];exact d2,d3,d4,by rw[aow];exact d5,d6,d7,d8,λi j c x u hc hx hu=> ?_⟩;simp only[aq.bo,aq.aE,aoR]at tG;rw[aoy]at hc;cases hy:cs[i]? with
    |none=>rw[hy]at hc;cases hc
    |some y=>
     rw[hy]at hc;cases hc
     have hz:=hx;rw[aoy]at hx;cases hw:y[j]? with
     |none=>rw[hw]at hx;cases hx
     |some z=>
      rw[hw]at hx;cases hx
      exact((d9 i j y z u hy hw hu).bo m).cut (tG _ (List.mem_map.2 ⟨y,aoE hy,rfl⟩) _ (aoE hz))
 |cells cs=>
  obtain⟨c1,c2,vs,T,c3,c4,c5⟩:=dG;refine⟨c1,c2,vs,T,c3,by rw[aow];exact c4,λi u c hu hc=> ?_⟩;have jD:=aoE hc;rw[aoy]at hc;cases hx:cs[i]? with
  |none=>rw[hx]at hc;cases hc
  |some x=>
   rw[hx]at hc;cases hc
   exact((c5 i u x hu hx).bo m).cut (aoR.1 tG _ jD)
 |lp ls p as bd cs=>
  obtain⟨c1,c2,fn,vs,T,c3,c4,c5⟩:=dG;refine⟨c1,c2,fn,vs,T,c3,by rw[aow];exact c4,λi u c hu hc=> ?_⟩;have jD:=aoE hc;rw[aoy]at hc;cases hx:cs[i]? with
  |none=>rw[hx]at hc;cases hc
  |some x=>
   rw[hx]at hc;cases hc
   exact((c5 i u x hu hx).bo m).cut (aoR.1 tG _ jD)
 |it sn cs=>
  obtain⟨c1,c2,fn,vs,T,c3,c4,c5⟩:=dG;refine⟨c1,c2,fn,vs,T,c3,by rw[aow];exact c4,λi u c hu hc=> ?_⟩;have jD:=aoE hc;rw[aoy]at hc;cases hx:cs[i]? with
  |none=>rw[hx]at hc;cases hc
  |some x=>
   rw[hx]at hc;cases hc
   exact((c5 i u x hu hx).bo m).cut (aoR.1 tG _ jD)
 |eP T0 cs=>
  obtain⟨c1,c2,fn,vs,T,c3,c4,c5⟩:=dG;refine⟨c1,c2,fn,vs,T,c3,by rw[aow];exact c4,λi u c hu hc=> ?_⟩;have jD:=aoE hc;rw[aoy]at hc;cases hx:cs[i]? with
  |none=>rw[hx]at hc;cases hc
  |some x=>
   rw[hx]at hc;cases hc
   exact((c5 i u x hu hx).bo m).cut (aoR.1 tG _ jD)
theorem qn(N:Nat)(G:Gh)(w:apk)(m:Nat):bM N G w (G.cut m) w:=
 ⟨aoC _,λ_ _ h=>h,λ_ _ _=>rfl,λ_ _=>rfl,λ_ _=> .inl ⟨rfl,rfl⟩,zsame rfl,λ_ _=>rfl,rfl,rfl,rfl,λ_ _ h=> .inl h⟩
section
variable {P:api} {r:aph Nat} {n N0:Nat} {G:Gh} {w:apk} {a:Act} {s:St} {o:Oper} {Q:Exit->St->Prop}
theorem cV.mask(hs:cV G w a s){live:apf Nat}{m:Nat}(h:s.AS live m):cV (G.cut m) w a (s.mask live m):=by
 obtain⟨J,h2,h3⟩:=h;refine⟨hs.size,λi=> ?_,Ra hs.inv J h3,hs.df⟩;show aF _ _ _ (bn (live.map λk=>(k,(bn s.t k).bo m)) i);rw[tc (λk=>(bn s.t k).bo m)];split
 ·rename_i hi
  exact((hs.tmp i).bo m).cut (aoR.1 h2 i hi)
 ·exact .dead _
theorem Ij{c:Code}{ι:Type}(live:apf Nat)(m:Nat)(st:ι->St)(I:ι->Prop)(μ:ι->Nat)(i0:ι)(hm:N0<=m)(bS:s.AS live m)(h0:s.mask live m=st i0)(hI:I i0)
 (round:∀i,I i->bA P r N0 c (iU (λs'=>s'.AS live m/\∃i',s'.mask live m=st i'/\I i'/\μ i'<μ i) Q) (st i)):bA P r N0 (.loop c) Q s:=by
 constructor
 intro G w a n hs _;refine SQ (λ(i:ι) a' w'=>∃G',I i/\bM N0 G w G' w'/\N0<=G'.N/\cV G' w' a' (st i)) μ i0 ⟨G.cut m,hI,qn _ _ _ _,hm,h0▸hs.mask bS⟩ ?_;rintro i a' w' ⟨G',hi,hE,hN,cC⟩;refine wpIn_mono ((round i hi).run G' w' a' n cC hN) λe a1 w1 hn=> ?_;obtain⟨G1,s1,jb,gu,fg,hq⟩:=hn;cases e with
 |normal=>
  obtain⟨ahl,i',J,h2,h3⟩:=hq;exact⟨i',⟨G1.cut m,h2,(hE.trans jb).trans (qn _ _ _ _),hm,J▸fg.mask ahl⟩,h3⟩
 |_=>exact⟨G1,s1,hE.trans jb,gu,fg,hq⟩
def mV(P:api)(s:St):apf ResultVar->(apf AV->Prop)->Prop
 |[],C=>C []
 | .tmp t::l,C=>mV P s l λxs=>C (bn s.t t::xs)
 | .cell p t::l,C=>oM P t s.h (bn s.t p) λx=>mV P s l λxs=>C (x::xs)
def jY:apf AV->AV
 |[x]=>x
 |l=> .bg l
def rC(P:api)(fn:Func)(m:Nat)(K:AV->apf aq->Prop)(s:St):Prop:=
 mV P s fn.results.toList λl=>m<=s.h.length/\((jY l).bo m).aE m=true/\(((s.h.take m).map (aq.bo m)).all (aq.aE m))=true/\K ((jY l).bo m) ((s.h.take m).map (aq.bo m))
def LI(P:api)(fn:Func)(m:Nat)(K:AV->apf aq->Prop):Exit->St->Prop
 | .normal,s=>rC P fn m K s
 | .ret,s=>rC P fn m K s
 |_,_=>False
theorem aj8{C:apf AV->Prop}(hs:cV G w a s)(g:ResultVar->Sem apj)(hg1:∀t,g (.tmp t)=pure (a.tmps.getD t undef))(ET:∀p t,g (.cell p t)=(do loadVar t (<-asAddr (a.tmps.getD p undef)))):
 ∀(l:apf ResultVar),mV P s l C->∃(vs:apf apj)(xs:apf AV),(l.mapM g).run P w= .ok vs w/\vs.length=xs.length/\(∀(i:Nat)(u:apj)(c:AV),vs[i]?=some u->xs[i]?=some c->aF G w u c)/\C xs:=by
 intro l
 induction l generalizing C with
 |nil=>exact λh=>⟨[],[],by simp,rfl,λi u c hu=>by simp at hu,h⟩
 |cons x l ih=>
  intro h;cases x with
  |tmp t=>
   obtain⟨vs,xs,J,h2,h3,h4⟩:=ih h;refine⟨a.tmps.getD t undef::vs,bn s.t t::xs,by simp only[List.mapM_cons,hg1,Sem.run_bind,Sem.run_pure,Result.andThen_ok,J],by simp [h2],λi u c hu hc=> ?_,h4⟩
   match i with
   |0=>simp only[List.getElem?_cons_zero,Option.some.injEq]at hu hc;subst hu;subst hc;exact hs.tmp t
   |i+1=>exact h3 i u c (by simpa using hu) (by simpa using hc)
  |cell p t=>
   obtain⟨u0,x0,r1,r2,r3⟩:=V9 (P:=P) hs.inv (hs.tmp p) h;obtain⟨vs,xs,J,h2,h3,h4⟩:=ih r3;have hv:=hs.tmp p;have e:∃ad,a.tmps.getD p undef= .pointer (some ad):=by
    have h':oM P t s.h (bn s.t p) λx=>mV P s l λxs=>C (x::xs):=h;generalize a.tmps.getD p undef=v at hv r1;generalize bn s.t p=y at hv h';cases hv with
    |ptr=>exact⟨_,rfl⟩
    |bj=>exact⟨_,rfl⟩
    |_=>exact(show False from h').elim
   obtain⟨ad,e⟩:=e;rw[e]at r1;have r1':(loadVar t ad).run P w= .ok u0 w:=by simpa [Instr.loadAt,Instr.sureAddr]using r1
   have ha:(asAddr (a.tmps.getD p undef)).run P w= .ok ad w:=by rw[e];rfl
   refine⟨u0::vs,x0::xs,by simp only[List.mapM_cons,ET,Sem.run_bind,Sem.run_pure,Result.andThen_ok,J,ha,r1'],by simp [h2],λi u c hu hc=> ?_,h4⟩
   match i with
   |0=>simp only[List.getElem?_cons_zero,Option.some.injEq]at hu hc;subst hu;subst hc;exact r2
   |i+1=>exact h3 i u c (by simpa using hu) (by simpa using hc)
theorem aij:∀(vs:apf apj)(xs:apf AV),vs.length=xs.length->(∀(i:Nat)(u:apj)(c:AV),vs[i]?=some u->xs[i]?=some c->aF G w u c)->aF G w (if h:vs.toArray.size=1 then vs.toArray[0]else .tuple vs.toArray) (jY xs)
 |[v],[x],_,h=>h 0 v x rfl rfl
 |[],[],_,_=> .bg _ _ rfl λi u c hu=>by simp at hu
 |v::u::vs,x::y::xs,hl,h=>by
  have:¬(v::u::vs).toArray.size=1:=by simp
  rw[dif_neg this];exact .bg _ _ (by simpa using hl) λi p q hp hq=>h i p q (by simpa using hp) hq
 |[],_::_,hl,_=>by simp at hl
 |_::_,[],hl,_=>by simp at hl
 |[_],_::_::_,hl,_=>by simp at hl
 |_::_::_,[_],hl,_=>by simp at hl
theorem aiH{fn:Func}{m:Nat}{K:AV->apf aq->Prop}(hs:cV G w a s)(h:rC P fn m K s):∃v G' r h',(results fn a.tmps).run P w= .ok v w/\bM N0 G w G' w/\m<=G'.N/\bN G' w h'/\aF G' w v r/\K r h':=by
 obtain⟨g,hg⟩:∃g:ResultVar->Sem apj,results fn a.tmps=(do let vs <-fn.results.mapM g;pure (if h:vs.size=1 then vs[0]else .tuple vs))/\(∀t,g (.tmp t)=pure (a.tmps.getD t undef))/\(∀p t,g (.cell p t)=(do loadVar t (<-asAddr (a.tmps.getD p undef)))):=
  ⟨_,rfl,λ_=>rfl,λ_ _=>rfl⟩
 obtain⟨vs,xs,J,h2,h3,h4,h5,h6,h7⟩:=aj8 hs g hg.2.1 hg.2.2 fn.results.toList h;have hr:(results fn a.tmps).run P w= .ok (if h:vs.toArray.size=1 then vs.toArray[0]else .tuple vs.toArray) w:=by
  rw[hg.1,Sem.run_bind,Array.mapM_eq_mapM_toList];have e:∀X:Sem (apf apj),(Functor.map List.toArray X:Sem _)=X>>=λl=>pure l.toArray:=λ_=>rfl;rw[e,Sem.run_bind,J];rfl
 have hv:=aij vs xs h2 h3;exact⟨_,G.cut m,_,_,hr,qn _ _ _ _,aoC _,Ra hs.inv h4 h6,(hv.bo m).cut h5,h7⟩
theorem uA{f:FuncId}{fn:Func}{c:Code}{args:apf AV}{h:apf aq}{K:AV->apf aq->Prop}(m:Nat)(hf:P.funcs[f]?=some fn)(hb:fn.body=some c)(hn:(fn.name== "runtime.NumGoroutine")=false)(hm:h.length<=m)
 (hw:bA P none h.length c (LI P fn m K) {n:=args.length+(fn.ntmps-args.length),t:=lD 0 args,h:=h}):cO P f args h K:=by
 refine⟨by unfold Ku;rw[hf];simp [hb];simpa using hn,λG w vs hi hl hr=> ?_⟩;refine callsIn_wide (n:=8).1 (callsIn_of_wp_marks (F:=Fence.wide) hf hb trivial ?_);have hs:cV {G with M:=w.heap.size} w {tmps:=vs++Array.replicate (fn.ntmps-vs.size) undef,defers:=[]} {n:=args.length+(fn.ntmps-args.length),t:=lD 0 args,h:=h}:=by
  refine⟨by simp [hl],λi=> ?_,hi.zm G.Z _ (λ_ h=>h) (aoC _),rG.nil _ _⟩;show aF _ _ _ (bn (lD 0 args) i);rw[Oq];simp only[Nat.zero_le,if_true,Nat.sub_zero];cases hx:args[i]? with
  |none=>exact .dead _
  |some x=>
   have aN:i<vs.size:=by rw[hl];exact(aor.1 hx).1
   have:(vs++Array.replicate (fn.ntmps-vs.size) undef).getD i undef=vs[i]:=by
    simp [Array.getElem?_append_left aN,aoN aN]
   simp only[this,Option.getD_some];exact(hr i _ x (aoN aN) hx).zm G.Z _
 refine wpIn_mono (hw.run _ w _ 8 hs (by rw[hi.len];exact aoC _)) λe a' w' hn=> ?_;obtain⟨G1,s1,hE,gu,fg,hq⟩:=hn;have key:rC P fn m K s1->LeavesInM Fence.wide 8 P fn a'.tmps (λe w'=>∃v G' r h',e= .returned v/\bM G.N G w G' w'/\G.N<=G'.N/\bN G' w' h'/\aF G' w' v r/\K r h') a'.defers .returning w':=λhq=>by
  obtain⟨w2,G2,k1,k2,k3,k4⟩:=ako hE gu hi.z hi.gl.2 fg;obtain⟨v,G',r,h',r1,r2,r3,r4,r5,r6⟩:=aiH (N0:=h.length) k4 hq;exact k1 _ _ _ _ _ ⟨v,r1,v,G',r,h',rfl,by rw[<-hi.len];exact k2.trans r2,by rw[<-hi.len];exact aoJ hm r3,r4,r5,r6⟩
 cases e with
 |normal=>exact key hq
 |ret=>exact key hq
 |_=>exact hq.elim
end
end Go.Proofs.YtpeecnpmcbnahaaGreatDoor
namespace Go.Proofs.YtpeecnpmcbnahaaGreatDoor
open Go.RowKit
section
variable {P:api} {r:aph Nat} {N0:Nat} {s:St} {Q:Exit->St->Prop}
end
theorem cO.frame{P:api}{f:FuncId}{args:apf AV}{K:AV->Prop}(hc:cO P f args [] λr h=>h=[]/\K r)(ha:args.all (AV.aE 0)=true)(hK:∀r,K r->r.aE 0=true)(h:apf aq):
 cO P f args h λr h'=>h'=h/\K r:=by
 refine⟨hc.1,λG w vs hi hl hr=> ?_⟩;have sf:bN {G with N:=0,Z:=λb=>b<w.heap.size} w []:=⟨rfl,λb hb=>hb,hi.S,λn B hB=>by simp at hB,λm n b J=>by simp [bK]at J,hi.gl⟩;refine(hc.2 {G with N:=0,Z:=λb=>b<w.heap.size} w vs sf hl λi u c hu hx=> ?_).mono λe w' hp=> ?_
 ·have:=(hr i u c hu hx).cut (aoR.1 ha c (aoE hx));clear hc;generalize hG:({G with N:=0,Z:=λb=>b<w.heap.size}:Gh)=G0;have e:∀{v y},aF (G.cut 0) w v y->aF G0 w v y:=by
   intro v y hv;subst hG
   induction hv with
   |agg vs cs hl _ ih=>exact .agg vs cs hl ih
   |bg vs cs hl _ ih=>exact .bg vs cs hl ih
   |fn f vs cs hl _ ih=>exact .fn f vs cs hl ih
   |own n xs h hp hle hf=>exact absurd h (aoT _)
   |ptr n off h=>exact absurd h (aoT _)
   |row n off len cap k h hl hm=>exact absurd h (aoT _)
   |mp n h=>exact absurd h (aoT _)
   |cn n h=>exact absurd h (aoT _)
   |vec n o len L k h=>exact absurd h (aoT _)
   |dn n i j L k h=>exact absurd h (aoT _)
   |hid h J=>exact .hid h J
   |d h=>exact .d h
   |bj xs i off b o u x hx hS hu=>exact .bj xs i off b o u x hx hS hu
   |full xs hp hf=>exact .full xs hp hf
   |dead u=>exact .dead u
  exact e this
 ·obtain⟨v,G',r,h',rfl,hE,hN,dO,hv,rfl,hk⟩:=hp;have aol:G'.N=0:=dO.len.symm;have fm:∀b o,G'.S b o->G.S b o\/w.heap.size<=b:=λb o hs=>(hE.new b o hs).imp id Nat.le_of_not_lt;have jo:bM G.N G w {G with S:=G'.S} w':=
   ⟨hE.size,hE.S,hE.cell,λ_ _=>rfl,λ_ _=> .inl ⟨rfl,rfl⟩,zsame rfl,λb hb=>hE.old b (hi.z b hb),hE.os,hE.tape,hE.output,λb o hs=>(fm b o hs).imp id λjT hz=>by have:=hi.z b hz;omega⟩
  refine⟨v,{G with S:=G'.S},r,h,rfl,jo,aoC _,⟨hi.len,λb hb=>aoP (hi.z b hb) hE.size,dO.S,λn B hB=> ?_,λm n b J h2=>hi.inj m n b J h2,hi.gl.keep jo⟩,?_,rfl,hk⟩
  ·refine dZ.keep (hi.lt hB) jo (aoC _) ⟨rfl,rfl,rfl⟩ (λb hb=> ?_) (hi.c7 n B hB);have aN:=hi.h1 (n:=n) (b:=b) ((dA hB).trans hb);refine⟨hE.old _ aN,λo jx hs=> ?_⟩;rcases fm _ o hs with hs|hs
   ·exact jx hs
   ·omega
  ·have hr:=hK r hk;clear hk jo
   induction hv with
   |agg vs cs hl _ ih=>
    rw[AV.aE,mS,aoR]at hr;exact .agg vs cs hl λi u c hu hc=>ih i u c hu hc (hr c (aoE hc))
   |bg vs cs hl _ ih=>
    rw[AV.aE,mS,aoR]at hr;exact .bg vs cs hl λi u c hu hc=>ih i u c hu hc (hr c (aoE hc))
   |fn f vs cs hl _ ih=>
    rw[AV.aE,mS,aoR]at hr;exact .fn f vs cs hl λi u c hu hc=>ih i u c hu hc (hr c (aoE hc))
   |own n xs h hp hle hf=>simp [AV.aE,cm]at hr
   |ptr n off h=>simp [AV.aE,cm]at hr
   |row n off len cap k h hl hm=>simp [AV.aE,cm]at hr
   |mp n h=>simp [AV.aE,cm]at hr
   |cn n h=>simp [AV.aE,cm]at hr
   |vec n o len L k h=>simp [AV.aE,cm]at hr
   |dn n i j L k h=>simp [AV.aE,cm]at hr
   |hid h J=>exact .hid h J
   |d h=>exact .d h
   |bj xs i off b o u x hx hS hu=>exact .bj xs i off b o u x hx hS hu
   |full xs hp hf=>exact .full xs hp hf
   |dead u=>exact .dead u
def ga(P:api)(f:FuncId)(args:apf AV)(K:AV->Prop):Prop:=cO P f args [] λr h=>h=[]/\K r
theorem ga.use{P:api}{f:FuncId}{args:apf AV}{r:AV}{h:apf aq}{C:AV->apf aq->Prop}(hc:ga P f args (·=r))(ha:args.all (AV.aE 0)=true)(hr:r.aE 0=true)(hC:C r h):cO P f args h C:=
 (hc.frame ha (λ_ e=>e▸hr) h).mono λ_ _ ⟨e1,e2⟩=>by subst e1;subst e2;exact hC
def ahQ:apf FuncId:=[47,48,151]
def anM:apf FuncId:=[41,42,47,57,64,66,67,74,110,113,152,171]
def pN:Operand->Bool
 | .func g=>ahQ.any (·==g)
 |_=>false
def cr(o:Oper):Nat:=
 match o.op with
 | .move _| .assign _| .pick .. | .nilCheck _| .fieldAddr .. | .field .. | .indexAddr .. | .index .. | .build .. | .buildSlice .. | .slice .. | .extract .. | .makeFunc .. | .binOp .. | .unOp .. | .convert .. =>0
 | .load .. | .lookup .. =>1
 | .alloc _| .box .. =>2
 | .store .. | .makeMap .. | .mapUpdate .. =>3
 | .call c=>match c.callee with
   | .builtin .len| .builtin .max| .builtin .min=>0
   | .builtin .append=>5
   | .value f=>bif pN f then 6 else 4
   |_=>9
 |_=>9
def Um(P:api)(g:FuncId)(args:apf AV)(h:apf aq)(C:AV->Prop):Prop:=∃r,C r/\∀e,cO P g args (h++e) λr' h'=>r'=r/\h'=h++e
def Bn(P:api)(o:Oper)(K:St->Prop)(s:St):Prop:=
 match o.op with
 | .call c=>match c.callee with
   | .value f=>match ev s f with
     | .fn g cZ=>Um P g (c.args.toList.map (ev s)++cZ) s.h λr=>K (s.put o.dst r)
     | .hid q=>∃g as,q.app (c.args.toList.map (ev s))=some (g,as)/\Um P g as s.h λr=>K (s.put o.dst r)
     |_=>False
   |_=>qN P o K s
 |_=>qN P o K s
def jy(o:Oper):Bool:=
 match o.op with
 | .indexAddr .. | .fieldAddr .. | .nilCheck .. | .load .. | .store .. =>true
 | .call c=>match c.callee with
   | .builtin .len=>true
   |_=>false
 |_=>false
def K9(o:Oper):Bool:=match o.op with
 | .call c=>match c.callee with
   | .value (.tmp _)=>true
   | .value (.func g)=>anM.any (·==g)
   |_=>false
 |_=>false
def tB(o:Oper):Bool:=match o.op with
 | .call c=>match c.callee with
   | .builtin .append=>true
   |_=>false
 |_=>false
def nq(m:Bool)(o:Oper):Bool:=m&&(K9 o||tB o)
def yc(m:Bool)(P:api)(o:Oper)(K:St->Prop)(s:St):Prop:=
 Bn P o K s\/(nq m o=true/\∃x J,K ((s.wh J).put o.dst x)/\∀C:AV->apf aq->Prop,C x J->cG P o (ev s) s.h C)\/((jy o=true/\(m&&cr o==0)=false\/(m&&tB o)=true)/\Li P o K s)\/(cr o=6/\∃x e0,K ((s.wh (s.h++e0)).put o.dst x)/\∀C:AV->apf aq->Prop,C x (s.h++e0)->cG P o (ev s) s.h C)
def jE(P:api)(o:Oper)(ρ:Operand->AV)(h:apf aq)(C:AV->apf aq->Prop):Prop:=
 cG P o ρ h C\/((jy o=true\/tB o=true)/\∃a x h' p,iD P o.op ρ h a=some (x,h',p)/\p/\C x h')
def vi(m:Bool)(P:api)(ops:Array Oper):apf Oper->(St->Prop)->St->Prop
 |[],K,s=>K s
 |o::rest,K,s=>iX ops o s (yc m P o (vi m P ops rest K) s) (vi m P ops rest K (s.put o.dst (.d (.v undef))))
abbrev Vw(P:api)(o:Oper)(K:St->Prop)(s:St):Prop:=yc false P o K s
abbrev Dx(P:api)(ops:Array Oper)(l:apf Oper)(K:St->Prop)(s:St):Prop:=vi false P ops l K s
section
variable {P:api} {o:Oper} {ρ ρ':Operand->AV} {h:apf aq} {C:AV->apf aq->Prop}
theorem RS(x:aph Operand)(hx:∀y∈x.toArray,ρ y=ρ' y)(d:Nat)(F:Nat->Prop):jW ρ x d F=jW ρ' x d F:=by
 cases x with
 |none=>rfl
 |some y=>simp only[jW,hx y (by simp)]
theorem amq(hρ:∀x∈o.op.operands,ρ x=ρ' x):cG P o ρ h C=cG P o ρ' h C:=by
 obtain⟨dst,op,type,pos,after,guard⟩:=o;have Zk:∀ps:Array (Nat×Operand),(∀x∈ps.map (·.2),ρ x=ρ' x)->(ps.toList.map λp=>(p.1,ρ p.2))=(ps.toList.map λp=>(p.1,ρ' p.2)):=λps hp=>
  aoW λp hm=>by rw[hp p.2 (Array.mem_map.2 ⟨p,Array.mem_toList_iff.1 hm,rfl⟩)]
 have fG:∀l:Array Operand,(∀x∈l,ρ x=ρ' x)->l.toList.map ρ=l.toList.map ρ':=λl hl=>aoW λx hm=>hl x (Array.mem_toList_iff.1 hm);cases op with
 |build t ps=>simp only[cG,Zk ps λx hx=>hρ x (by simpa [Op.operands]using hx)]
 |buildSlice t n ps=>simp only[cG,Zk ps λx hx=>hρ x (by simpa [Op.operands]using hx)]
 |makeFunc fn first captured=>
  cases fn with
  |func f=>simp only[cG,fG captured λx hx=>hρ x (by simp [Op.operands,hx]),fG first λx hx=>hρ x (by simp [Op.operands,hx])]
  |_=>rfl
 |slice t x lo hi mx=>
  have e1:ρ x=ρ' x:=hρ x (by simp [Op.operands]);have e2:=λd F=>RS (ρ:=ρ) (ρ':=ρ') lo (λy hy=>hρ y (by simp at hy;simp [Op.operands,hy])) d F;have e3:=λd F=>RS (ρ:=ρ) (ρ':=ρ') hi (λy hy=>hρ y (by simp at hy;simp [Op.operands,hy])) d F;have e4:=λd F=>RS (ρ:=ρ) (ρ':=ρ') mx (λy hy=>hρ y (by simp at hy;simp [Op.operands,hy])) d F;cases lo<;>cases hi<;>cases mx<;>simp only[cG,vn,e1,e2,e3,e4]
 |call c=>
  have ha:c.args.toList.map ρ=c.args.toList.map ρ':=fG c.args λx hx=>hρ x (by simp [Op.operands,Call.operands,hx]);have hm:∀x,x∈c.args.toList->ρ x=ρ' x:=λx hx=>hρ x (by simp [Op.operands,Call.operands];right;exact Array.mem_toList_iff.1 hx);cases hc:c.callee with
  |value f=>
   have hf:ρ f=ρ' f:=hρ f (by simp [Op.operands,Call.operands,hc]);simp only[cG,hc,hf,ha]
  |invoke=>simp only[cG,hc]
  |builtin b=>
   cases b with
   |len=>
    simp only[cG,hc];split
    ·rename_i x _ heq _
     rw[hm x (by rw[heq];simp)]
    ·rfl
   |append=>
    simp only[cG,hc];split
    ·rename_i x y _ _ heq _
     rw[hm x (by rw[heq];simp),hm y (by rw[heq];simp)]
    ·rfl
   |max=>simp only[cG,hc,ha]
   |min=>simp only[cG,hc,ha]
   |_=>simp only[cG,hc]
 |makeMap t r=>cases r<;>rfl
 |lookup t a b ok=>simp only[cG,pV,hρ a (by simp [Op.operands]),hρ b (by simp [Op.operands])]
 |mapUpdate t a b c=>simp only[cG,pV,hρ a (by simp [Op.operands]),hρ b (by simp [Op.operands]),hρ c (by simp [Op.operands])]
 |pick c a b=>simp only[cG,hρ c (by simp [Op.operands]),hρ a (by simp [Op.operands]),hρ b (by simp [Op.operands])]
 |store t a b=>simp only[cG,hρ a (by simp [Op.operands]),hρ b (by simp [Op.operands])]
 |binOp op t a b u=>simp only[cG,hρ a (by simp [Op.operands]),hρ b (by simp [Op.operands])]
 |indexAddr t a b=>simp only[cG,hρ a (by simp [Op.operands]),hρ b (by simp [Op.operands])]
 |index t a b=>simp only[cG,hρ a (by simp [Op.operands]),hρ b (by simp [Op.operands])]
 |move a|assign a|box t a|load t a|nilCheck a|fieldAddr t a f|field t a f|extract a i|unOp op t a|convert t u a=>simp only[cG,hρ a (by simp [Op.operands])]
 |_=>rfl
theorem alM(hv:jy o=true\/tB o=true)(hρ:∀x∈o.op.operands,ρ x=ρ' x)(a:VA):iD P o.op ρ h a=iD P o.op ρ' h a:=by
 obtain⟨dst,op,type,pos,after,guard⟩:=o;cases op with
 |store t a b=>simp only[iD,hρ a (by simp [Op.operands]),hρ b (by simp [Op.operands])]
 |indexAddr t a b=>simp only[iD,hρ a (by simp [Op.operands]),hρ b (by simp [Op.operands])]
 |load t a|nilCheck a|fieldAddr t a f=>simp only[iD,hρ a (by simp [Op.operands])]
 |call c=>
  have hm:∀x,x∈c.args.toList->ρ x=ρ' x:=λx hx=>hρ x (by simp [Op.operands,Call.operands];right;exact Array.mem_toList_iff.1 hx);cases hc:c.callee with
  |builtin b=>
   cases b with
   |len=>
    simp only[iD,hc];split
    ·rename_i x _ heq _
     rw[hm x (by rw[heq];simp)]
    ·rfl
   |append=>
    simp only[iD,hc];split
    ·rename_i x y _ _ heq _
     rw[hm x (by rw[heq];simp),hm y (by rw[heq];simp)]
    ·rfl
   |_=>simp [jy,tB,hc]at hv
  |_=>simp [jy,tB,hc]at hv
 |_=>simp [jy,tB]at hv
theorem Rf(hρ:∀x∈o.op.operands,ρ x=ρ' x):jE P o ρ h C=jE P o ρ' h C:=by
 unfold jE;rw[amq hρ];by_cases hv:jy o=true\/tB o=true
 ·simp only[alM hv hρ]
 ·simp only[hv,false_and]
end
def amT:aq->Bool
 | .cells _| .map _| .vec .. =>true
 |_=>false
def nQ:aph aq->aph (Nat×Nat)
 |some (.vec _ k cs)=>some (k,cs.length)
 |_=>none
def jc(h h':apf aq):Prop:=∀(m:Nat)(q:Nat×Nat),nQ h[m]?=some q->nQ h'[m]?=some q
def iO(h h':apf aq):Prop:=∀m:Nat,nQ h[m]?=nQ h'[m]?
theorem iO.i{h h':apf aq}(e:iO h h'):jc h h':=λm q hq=>by rw[<-e m];exact hq
theorem iO.j{h h':apf aq}(e:iO h h'):jc h' h:=λm q hq=>by rw[e m];exact hq
theorem jc.refl(h:apf aq):jc h h:=λ_ _ e=>e
theorem jc.trans{a b c:apf aq}(x:jc a b)(y:jc b c):jc a c:=λm q e=>y m q (x m q e)
theorem jc.app(h e:apf aq):jc h (h++e):=λm q hq=>by
 by_cases hl:m<h.length
 ·rw[aoB hl];exact hq
 ·rw[aoX (by omega)]at hq;cases hq
theorem iO.app{h:apf aq}{B:aq}(hB:nQ (some B)=none):iO h (h++[B]):=λm=>by
 by_cases hl:m<h.length
 ·rw[aoB hl]
 ·rw[aoH (by omega),aoX (by omega:h.length<=m)];by_cases h0:m-h.length=0
  ·rw[h0];exact hB.symm
  ·rw[aoX (by simp;omega)]
theorem iO.set{h:apf aq}{n:Nat}{B B':aq}(hn:h[n]?=some B)(hB:nQ (some B)=nQ (some B')):iO h (h.set n B'):=λm=>by
 by_cases e:n=m
 ·subst e;rw[aoU (aor.1 hn).1,hn];exact hB
 ·rw[aoZ e]
def ji(h h':apf aq):Prop:=∀(n:Nat)(B:aq),h[n]?=some B->amT B=true->h'[n]?=some B
theorem ji.app(h e:apf aq):ji h (h++e):=λn cs hn _=>by
 rw[aoB (aor.1 hn).1];exact hn
theorem ji.refl(h:apf aq):ji h h:=λ_ _ hn _=>hn
theorem afD{P:api}{ρ:Operand->AV}{h J:apf aq}{T:TypeId}{m i:Operand}{ok:Bool}{x:AV}{p:Sd}(hx:pV P (.lookup T m i ok) ρ h=some (x,J,p)):J=h/\∀h',ji h h'->pV P (.lookup T m i ok) ρ h'=some (x,h',p):=by
 simp only[pV]at hx ⊢;split at hx
 ·next k e hT=>
  split at hx
  ·next z hz=>
   split at hx
   ·next b s' hm hi=>
    split at hx
    ·next kv hn=>
     cases hc:iu P k with
     |false=>rw[hc]at hx;cases hx
     |true=>
      rw[hc]at hx;cases hx
      refine⟨rfl,λh' hh=> ?_⟩;rw[hh b _ hn rfl];simp only[cond_true]
    ·cases hx
   ·cases hx
  ·cases hx
 ·cases hx
theorem Y9{h:apf aq}{n e k:Nat}{cs:apf (apf AV)}(hn:h[n]?=some (.vec e k cs)):nQ h[n]?=some (k,cs.length):=by rw[hn];rfl
theorem Zh{h:apf aq}{n k l:Nat}(hq:nQ h[n]?=some (k,l)):∃e cs,h[n]?=some (.vec e k cs)/\cs.length=l:=by
 unfold nQ at hq;split at hq
 ·next e k' cs e1=>cases hq;exact⟨e,cs,e1,rfl⟩
 ·cases hq
theorem akb{P:api}{o:Oper}{ρ:Operand->AV}{h J:apf aq}{a:VA}{x:AV}{p:Prop}(hv:jy o=true)(hk:cr o=0)(hx:iD P o.op ρ h a=some (x,J,p))(hp:p):J=h/\∀h',jc h h'->∃p',iD P o.op ρ h' a=some (x,h',p')/\p':=by
 obtain⟨dst,op,type,pos,after,guard⟩:=o;cases op with
 |indexAddr T y i=>
  simp only[iD]at hx ⊢;split at hx
  ·next n o len L k z e k' i' e1 e2 e3=>
   split at hx
   ·next e4 k2 cs hn=>
    obtain⟨hb,he⟩:=mE hx;cases he
    rw[aot,beq_iff_eq,beq_iff_eq]at hb;obtain⟨rfl,rfl⟩:=hb;refine⟨rfl,λh' hh=> ?_⟩;obtain⟨e5,cs5,q1,q2⟩:=Zh (hh n _ (Y9 hn));simp only[q1,apa,Bool.and_self,cond_true];exact⟨_,rfl,by rw[q2];exact hp.1,hp.2⟩
   ·cases hx
  ·cases hx
 |fieldAddr T y f=>
  simp only[iD]at hx ⊢;split at hx
  ·next e1 e2=>cases hx;exact⟨rfl,λh' _=>⟨_,rfl,trivial⟩⟩
  ·cases hx
 |nilCheck y=>
  simp only[iD]at hx ⊢;split at hx
  ·next e1=>cases hx;exact⟨rfl,λh' _=>⟨_,rfl,trivial⟩⟩
  ·cases hx
 |call c=>
  cases hc:c.callee with
  |builtin b=>
   cases b with
   |len=>
    simp only[iD,hc]at hx ⊢;split at hx
    ·split at hx
     ·next n o len L k e1=>
      split at hx
      ·next e2 k2 cs hn=>
       obtain⟨hb,he⟩:=mE hx;cases he
       rw[aot,beq_iff_eq]at hb;obtain⟨iL,rfl⟩:=hb;refine⟨rfl,λh' hh=> ?_⟩;obtain⟨e5,cs5,q1,q2⟩:=Zh (hh n _ (Y9 hn));simp only[q1,iL,apa,Bool.and_self,cond_true];exact⟨_,rfl,by rw[q2];exact hp⟩
      ·cases hx
     ·cases hx
    ·cases hx
   |_=>simp [jy,hc]at hv
  |_=>simp [jy,hc]at hv
 |load t y=>simp [cr]at hk
 |store t y z=>simp [cr]at hk
 |_=>simp [jy]at hv
theorem acx{P:api}{o:Oper}{ρ:Operand->AV}{h J:apf aq}{a:VA}{x:AV}{p:Prop}(hv:jy o=true)(hk:cr o=1)(hx:iD P o.op ρ h a=some (x,J,p))(hp:p):J=h/\∀h',ji h h'->∃p',iD P o.op ρ h' a=some (x,h',p')/\p':=by
 obtain⟨dst,op,type,pos,after,guard⟩:=o;cases op with
 |load t y=>
  simp only[iD]at hx ⊢;split at hx
  ·next n i j L k c e1=>
   split at hx
   ·next e2 k' cs z hn hz=>
    obtain⟨hb,he⟩:=mE hx;cases he
    refine⟨rfl,λh' hh=> ?_⟩;simp only[hh n _ hn rfl,hz,hb,cond_true];exact⟨_,rfl,hp⟩
   ·cases hx
  ·cases hx
 |indexAddr T y i=>simp [cr]at hk
 |fieldAddr T y f=>simp [cr]at hk
 |nilCheck y=>simp [cr]at hk
 |call c=>
  cases hc:c.callee with
  |builtin b=>cases b<;>simp [cr,hc]at hk
  |value f=>cases mv:pN f<;>simp [cr,hc,mv]at hk
  |invoke=>simp [cr,hc]at hk
 |store t y z=>simp [cr]at hk
 |_=>simp [jy]at hv
theorem akR{P:api}{o:Oper}{ρ:Operand->AV}{h J:apf aq}{a:VA}{x:AV}{p:Prop}(hv:jy o=true)(hk:cr o=3)(hx:iD P o.op ρ h a=some (x,J,p))(hp:p):iO h J:=by
 obtain⟨dst,op,type,pos,after,guard⟩:=o;cases op with
 |store t y z=>
  simp only[iD]at hx;split at hx
  ·next n i j L k c cB e1=>
   split at hx
   ·next e k' cs q hn hz=>
    obtain⟨hb,he⟩:=mE hx;cases he
    simp only[aot,beq_iff_eq]at hb;refine iO.set hn ?_;simp only[nQ,List.length_set,hp.2.2,hb.1.1.1.1]
   ·cases hx
  ·cases hx
 |load t y=>simp [cr]at hk
 |indexAddr T y i=>simp [cr]at hk
 |fieldAddr T y f=>simp [cr]at hk
 |nilCheck y=>simp [cr]at hk
 |call c=>
  cases hc:c.callee with
  |builtin b=>cases b<;>simp [cr,hc]at hk
  |value f=>cases mv:pN f<;>simp [cr,hc,mv]at hk
  |invoke=>simp [cr,hc]at hk
 |_=>simp [jy]at hv
def jI(m:Bool)(o:Oper):Nat:=bif nq m o then 7 else cr o
def eC(m:Bool)(P:api)(o:Oper)(ρ:Operand->AV)(h:apf aq)(x:AV)(J:apf aq):Prop:=
 match jI m o with
 |0=>J=h/\∀h',(m=true\/jc h h')->∀C:AV->apf aq->Prop,C x h'->jE P o ρ h' C
 |1=>J=h/\∀h',ji h h'->∀C:AV->apf aq->Prop,C x h'->jE P o ρ h' C
 |2=>∃B,nQ (some B)=none/\x= .ptr h.length 0/\J=h++[B]/\∀h'(C:AV->apf aq->Prop),C (.ptr h'.length 0) (h'++[B])->jE P o ρ h' C
 |3=>iO h J/\∀C:AV->apf aq->Prop,C x J->jE P o ρ h C
 |4=>J=h/\∀e(C:AV->apf aq->Prop),C x (h++e)->jE P o ρ (h++e) C
 |5=>(ji h J/\ji J h/\iO h J)/\∀C:AV->apf aq->Prop,C x J->jE P o ρ h C
 |6=>∃e0,J=h++e0/\∀C:AV->apf aq->Prop,C x J->jE P o ρ h C
 |7=>∀C:AV->apf aq->Prop,C x J->jE P o ρ h C
 |_=>False
section
variable {P:api} {o:Oper} {ρ ρ':Operand->AV} {h:apf aq} {C:AV->apf aq->Prop}
theorem adx{p:AV}{K:apf AV->Nat->Prop}(hp:sE h p K):∃cs off,K cs off/\∀h',ji h h'->∀K':apf AV->Nat->Prop,K' cs off->sE h' p K':=by
 unfold sE at hp ⊢;split at hp
 ·rename_i n off
  split at hp
  ·rename_i cs gO
   refine⟨cs,off,hp,λh' hh K' hk=> ?_⟩;rw[hh n _ gO rfl];exact hk
  ·exact hp.elim
 ·rename_i xs i off
  split at hp
  ·rename_i cs gO
   refine⟨_,off,hp,λh' _ K' hk=> ?_⟩;exact hk
  ·exact hp.elim
 ·exact hp.elim
theorem aj1{t:Nat}{p:AV}{K:AV->Prop}(hp:oM P t h p K):∃x,K x/\∀h',ji h h'->∀K':AV->Prop,K' x->oM P t h' p K':=by
 unfold oM at hp ⊢;obtain⟨cs,off,J,h2⟩:=adx hp;split at J
 ·rw[bO]at J;refine⟨_,J.2,λh' hh K' gL=>h2 h' hh _ ?_⟩;exact bO.2 ⟨J.1,gL⟩
 ·split at J
  ·rename_i c hc
   refine⟨c,J,λh' hh K' gL=>h2 h' hh _ ?_⟩;simp only[hc];exact gL
  ·exact J.elim
 ·exact J.elim
theorem uU{x:aph Operand}{d:Nat}{F:Nat->Prop}(hx:jW ρ x d F):∃m,F m/\∀F':Nat->Prop,F' m->jW ρ x d F':=by
 cases x with
 |none=>exact⟨d,hx,λ_ h=>h⟩
 |some y=>
  simp only[jW]at hx;split at hx
  ·rename_i z hz
   exact⟨_,hx.2,λF' hF=>by simp only[jW,hz];exact⟨hx.1,hF⟩⟩
  ·exact hx.elim
theorem alw(hk:cr o=0)(hc:cG P o ρ h C):∃x,C x h/\∀h'(C':AV->apf aq->Prop),C' x h'->cG P o ρ h' C':=by
 have uJ:∀(F:(AV->Prop)->Prop),(∀K,F K->∃x,K x/\∀K',K' x->F K')->F (λx=>C x h)->(∀h' C',cG P o ρ h' C'=F (λx=>C' x h'))->∃x,C x h/\∀h'(C':AV->apf aq->Prop),C' x h'->cG P o ρ h' C':=λF hF h0 he=>by
  obtain⟨x,J,h2⟩:=hF _ h0;exact⟨x,J,λh' C' du=>by rw[he];exact h2 _ du⟩
 obtain⟨dst,op,type,pos,after,guard⟩:=o;cases op with
 |move a=>exact⟨ρ a,hc,λ_ _ h=>h⟩
 |assign a=>exact⟨ρ a,hc,λ_ _ h=>h⟩
 |pick c a b=>
  simp only[cG]at hc;split at hc
  ·rename_i t ht
   cases t with
   |true=>exact⟨ρ a,hc.1 rfl,λh' C' du=>by simp only[cG,ht];exact⟨λ_=>du,λe=>by cases e⟩⟩
   |false=>exact⟨ρ b,hc.2 rfl,λh' C' du=>by simp only[cG,ht];exact⟨λe=>(by cases e),λ_=>du⟩⟩
  ·exact hc.elim
 |nilCheck a=>
  simp only[cG]at hc;split at hc
  ·rename_i m off e;exact⟨_,hc,λh' C' du=>by simp only[cG,e];exact du⟩
  ·rename_i xs i off e;exact⟨_,hc,λh' C' du=>by simp only[cG,e];exact du⟩
  ·rename_i f cs e;exact⟨_,hc,λh' C' du=>by simp only[cG,e];exact du⟩
  ·exact hc.elim
 |fieldAddr t a f=>
  simp only[cG]at hc;split at hc
  ·rename_i fo k g hf
   split at hc
   ·rename_i m off e;exact⟨_,hc,λh' C' du=>by simp only[cG,hf,e];exact du⟩
   ·rename_i xs i off e;exact⟨_,hc,λh' C' du=>by simp only[cG,hf,e];exact du⟩
   ·exact hc.elim
  ·exact hc.elim
 |field t a f=>
  refine uJ (xv P t (ρ a) f) (λK hK=> ?_) hc (λ_ _=>rfl);unfold xv at hK ⊢;split at hK
  ·rw[bO]at hK;exact⟨_,hK.2,λK' eN=>bO.2 ⟨hK.1,eN⟩⟩
  ·split at hK
   ·rename_i c fR;exact⟨c,hK,λK' eN=>eN⟩
   ·exact hK.elim
  ·exact hK.elim
 |indexAddr t a b=>
  refine uJ (rX P t (ρ a) (ρ b)) (λK hK=> ?_) hc (λ_ _=>rfl);unfold rX at hK ⊢;split at hK
  ·rename_i e k hT
   split at hK
   ·rename_i n off len cap k'
    split at hK
    ·rename_i z hz
     rw[bO]at hK;obtain⟨J,h2,h3,h4⟩:=hK;exact⟨_,h4,λK' eN=>bO.2 ⟨J,h2,h3,eN⟩⟩
    ·exact hK.elim
   ·split at hK
    ·rename_i xs z lT hz
     obtain⟨h0,hK⟩:=hK;split at hK
     ·rename_i c fR
      exact⟨_,hK.2,λK' eN=>⟨h0,hK.1,eN⟩⟩
     ·exact hK.elim
    ·exact hK.elim
  ·split at hK
   ·rename_i n e k b' off z hT hz
    obtain⟨J,h2,h3⟩:=hK;exact⟨_,h3,λK' eN=>⟨J,h2,eN⟩⟩
   ·rename_i n e k xs i' off z hT hz
    rw[bO]at hK;obtain⟨h0,J,h2,h3⟩:=hK;split at h3
    ·rename_i c fR
     split at h3
     ·rename_i d hd
      exact⟨_,h3,λK' eN=>bO.2 ⟨h0,J,h2,eN⟩⟩
     ·exact h3.elim
    ·exact h3.elim
   ·exact hK.elim
 |index t a b=>
  simp only[cG]at hc;split at hc
  ·rename_i bb z e1 e2
   rw[bO]at hc;obtain⟨J,h2,h3⟩:=hc;split at h3
   ·rename_i c fR
    exact⟨_,h3,λh' C' du=>by simp only[cG,e1,e2];exact bO.2 ⟨J,h2,by simp only[fR];exact du⟩⟩
   ·exact h3.elim
  ·exact hc.elim
 |build t ps=>
  refine uJ (yd P t (ps.toList.map λp:Nat×Operand=>(p.1,ρ p.2))) (λK hK=> ?_) hc (λ_ _=>rfl);unfold yd at hK ⊢;split at hK
  ·split at hK
   ·rename_i cs gO
    rw[bO]at hK;exact⟨_,hK.2,λK' eN=>bO.2 ⟨hK.1,eN⟩⟩
   ·exact hK.elim
  ·exact hK.elim
 |buildSlice t n ps=>
  refine uJ (wa P t n (ps.toList.map λp:Nat×Operand=>(p.1,ρ p.2))) (λK hK=> ?_) hc (λ_ _=>rfl);unfold wa at hK ⊢;split at hK
  ·split at hK
   ·split at hK
    ·rename_i cs gO
     split at hK
     ·rename_i ds qX
      rw[bO]at hK;exact⟨_,hK.2,λK' eN=>bO.2 ⟨hK.1,eN⟩⟩
     ·exact hK.elim
    ·exact hK.elim
   ·exact hK.elim
  ·exact hK.elim
 |slice t a lo hi mx=>
  refine uJ (vn P t ρ (ρ a) lo hi mx) (λK hK=> ?_) hc (λ_ _=>rfl);unfold vn at hK ⊢;split at hK
  ·split at hK
   ·rw[bO]at hK;obtain⟨h0,hK⟩:=hK;obtain⟨m1,hK,j1⟩:=uU hK;obtain⟨J,hK⟩:=hK;obtain⟨m2,hK,j2⟩:=uU hK;obtain⟨h2,hK⟩:=hK;exact⟨_,hK,λK' eN=>bO.2 ⟨h0,j1 _ ⟨J,j2 _ ⟨h2,eN⟩⟩⟩⟩
   ·split at hK
    ·rw[bO]at hK;obtain⟨h0,hK⟩:=hK;obtain⟨m1,hK,j1⟩:=uU hK;rw[bO]at hK;obtain⟨J,hK⟩:=hK;obtain⟨m2,hK,j2⟩:=uU hK;rw[bO]at hK;obtain⟨h2,hK⟩:=hK;exact⟨_,hK,λK' eN=>by rw[bO];exact⟨h0,j1 _ (by rw[bO];exact⟨J,j2 _ (by rw[bO];exact⟨h2,eN⟩)⟩)⟩⟩
    ·exact hK.elim
   ·split at hK
    ·obtain⟨h0,hK⟩:=hK;obtain⟨m1,hK,j1⟩:=uU hK;obtain⟨J,hK⟩:=hK;obtain⟨m2,hK,j2⟩:=uU hK;obtain⟨h2,hK⟩:=hK;exact⟨_,hK,λK' eN=>⟨h0,j1 _ ⟨J,j2 _ ⟨h2,eN⟩⟩⟩⟩
    ·exact hK.elim
  ·split at hK
   ·split at hK
    ·obtain⟨h0,hK⟩:=hK;obtain⟨m1,hK,j1⟩:=uU hK;obtain⟨J,hK⟩:=hK;obtain⟨m2,hK,j2⟩:=uU hK;obtain⟨h2,hK⟩:=hK;exact⟨_,hK,λK' eN=>⟨h0,j1 _ ⟨J,j2 _ ⟨h2,eN⟩⟩⟩⟩
    ·exact hK.elim
   ·exact hK.elim
 |extract a i=>
  simp only[cG]at hc;split at hc
  ·rename_i cs e
   split at hc
   ·rename_i c fR;exact⟨c,hc,λh' C' du=>by simp only[cG,e,fR];exact du⟩
   ·exact hc.elim
  ·exact hc.elim
 |makeFunc fn first cZ=>
  cases fn with
  |func f=>
   simp only[cG]at hc;split at hc
   ·rename_i e;exact⟨_,hc,λh' C' du=>by simp only[cG,e];exact du⟩
   ·exact hc.elim
  |_=>exact hc.elim
 |binOp op t a b u=>
  refine uJ (w6 P t op (ρ a) (ρ b)) (λK hK=> ?_) hc (λ_ _=>rfl);unfold w6 at hK ⊢;split at hK
  ·split at hK
   ·rw[bO]at hK;exact⟨_,hK.2.2,λK' eN=>bO.2 ⟨hK.1,hK.2.1,eN⟩⟩
   ·split at hK
    ·exact⟨_,hK.2,λK' eN=>⟨hK.1,eN⟩⟩
    ·split at hK
     ·rw[bO]at hK;exact⟨_,hK.2,λK' eN=>bO.2 ⟨hK.1,eN⟩⟩
     ·exact hK.elim
  ·split at hK
   ·exact⟨_,hK,λK' eN=>eN⟩
   ·split at hK
    ·exact⟨_,hK.2,λK' eN=>⟨hK.1,eN⟩⟩
    ·exact hK.elim
  ·split at hK
   ·rw[bO]at hK;exact⟨_,hK.2,λK' eN=>bO.2 ⟨hK.1,eN⟩⟩
   ·exact hK.elim
  ·split at hK
   ·split at hK
    ·exact⟨_,hK,λK' eN=>eN⟩
    ·exact hK.elim
   ·exact hK.elim
  ·exact hK.elim
 |unOp op t a=>
  refine uJ (wX op (ρ a)) (λK hK=> ?_) hc (λ_ _=>rfl);unfold wX at hK ⊢;split at hK
  ·split at hK
   ·exact⟨_,hK,λK' eN=>eN⟩
   ·exact hK.elim
  ·exact hK.elim
 |convert t u a=>
  refine uJ (wW P t u (ρ a)) (λK hK=> ?_) hc (λ_ _=>rfl);unfold wW at hK ⊢;split at hK
  ·split at hK
   ·exact⟨_,hK,λK' eN=>eN⟩
   ·exact hK.elim
  ·rw[bO]at hK;exact⟨_,hK.2,λK' eN=>bO.2 ⟨hK.1,eN⟩⟩
  ·split at hK
   ·rw[bO]at hK;obtain⟨J,ns,h2,h3⟩:=hK;exact⟨_,h3,λK' eN=>bO.2 ⟨J,ns,h2,eN⟩⟩
   ·exact hK.elim
 |call c=>
  simp only[cr]at hk;cases fp:c.callee with
  |value f=>cases mv:pN f<;>simp [fp,mv]at hk
  |invoke=>simp [fp]at hk
  |builtin b=>
   cases b with
   |len=>
    simp only[cG,fp]at hc;split at hc
    ·rename_i x T e1 e2
     have key:∀F:Nat->Prop,rS P T (ρ x) F->∃m,F m/\∀F':Nat->Prop,F' m->rS P T (ρ x) F':=λF hF=>by
      unfold rS at hF ⊢;split at hF
      ·rw[bO]at hF;exact⟨_,hF.2,λF' lg=>bO.2 ⟨hF.1,lg⟩⟩
      ·rw[bO]at hF;exact⟨_,hF.2,λF' lg=>bO.2 ⟨hF.1,lg⟩⟩
      ·split at hF
       ·rw[bO]at hF;exact⟨_,hF.2,λF' lg=>bO.2 ⟨hF.1,lg⟩⟩
       ·exact hF.elim
     obtain⟨m,J,h2⟩:=key _ hc;exact⟨_,J,λh' C' du=>by simp only[cG,fp,e1,e2];exact h2 _ du⟩
    ·exact hc.elim
   |max=>
    simp only[cG,fp]at hc;split at hc
    ·rename_i e1
     exact⟨_,hc,λh' C' du=>by simp only[cG,fp,e1];exact du⟩
    ·exact hc.elim
   |min=>
    simp only[cG,fp]at hc;split at hc
    ·rename_i e1
     exact⟨_,hc,λh' C' du=>by simp only[cG,fp,e1];exact du⟩
    ·exact hc.elim
   |_=>simp [fp]at hk
 |_=>simp [cr]at hk
theorem aj2(hk:cr o=2)(hc:cG P o ρ h C):∃B,nQ (some B)=none/\C (.ptr h.length 0) (h++[B])/\∀h'(C':AV->apf aq->Prop),C' (.ptr h'.length 0) (h'++[B])->cG P o ρ h' C':=by
 obtain⟨dst,op,type,pos,after,guard⟩:=o;cases op with
 |alloc e=>
  simp only[cG]at hc;split at hc
  ·rename_i z hz;exact⟨_,rfl,hc,λh' C' du=>by simp only[cG,hz];exact du⟩
  ·exact hc.elim
 |box e x=>
  simp only[cG]at hc;rw[bO]at hc;exact⟨_,rfl,hc.2,λh' C' du=>by simp only[cG];rw[bO];exact⟨hc.1,du⟩⟩
 |call c=>
  simp only[cr]at hk;cases fp:c.callee with
  |value f=>cases mv:pN f<;>simp [fp,mv]at hk
  |invoke=>simp [fp]at hk
  |builtin b=>cases b<;>simp [fp]at hk
 |_=>simp [cr]at hk
theorem ajr(hk:cr o=3)(hc:cG P o ρ h C):∃x J,C x J/\iO h J/\∀C':AV->apf aq->Prop,C' x J->cG P o ρ h C':=by
 obtain⟨dst,op,type,pos,after,guard⟩:=o;cases op with
 |store t a b=>
  simp only[cG]at hc;have key:∀F:apf aq->Prop,xQ P t h (ρ a) (ρ b) F->∃J,F J/\iO h J/\∀F':apf aq->Prop,F' J->xQ P t h (ρ a) (ρ b) F':=λF hF=>by
   unfold xQ at hF ⊢;split at hF
   ·split at hF
    ·next hn=>
     split at hF
     ·rw[bO]at hF;exact⟨_,hF.2,iO.set hn rfl,λF' lg=>bO.2 ⟨hF.1,lg⟩⟩
     ·exact hF.elim
    ·exact hF.elim
   ·exact hF.elim
  obtain⟨J,k1,kv,k2⟩:=key _ hc;exact⟨_,J,k1,kv,λC' du=>by simp only[cG];exact k2 _ du⟩
 |makeMap t r=>
  simp only[cG]at hc;split at hc
  ·rename_i x h' p hx
   refine⟨x,h',hc.2,?_,λC' du=>by simp only[cG,hx];exact⟨hc.1,du⟩⟩;unfold pV at hx;cases r with
   |none=>
    simp only at hx;split at hx
    ·cases hx;exact iO.app rfl
    ·cases hx
   |some r=>cases hx
  ·exact hc.elim
 |mapUpdate t a b c=>
  simp only[cG]at hc;split at hc
  ·rename_i x h' p hx
   refine⟨x,h',hc.2,?_,λC' du=>by simp only[cG,hx];exact⟨hc.1,du⟩⟩;unfold pV at hx;simp only at hx;split at hx
   ·split at hx
    ·split at hx
     ·next hn=>
      obtain⟨hb,he⟩:=mE hx;cases he
      exact iO.set hn rfl
     ·cases hx
    ·cases hx
   ·cases hx
  ·exact hc.elim
 |call c=>
  simp only[cr]at hk;cases fp:c.callee with
  |value f=>cases mv:pN f<;>simp [fp,mv]at hk
  |invoke=>simp [fp]at hk
  |builtin b=>cases b<;>simp [fp]at hk
 |_=>simp [cr]at hk
theorem VH{n:Nat}{e:TypeId}{k l e' k' l':Nat}(hn:h[n]?=some (.front e' k' l')):ji h (h.set n (.front e k l))/\ji (h.set n (.front e k l)) h:=by
 refine⟨λm cs hm hc=> ?_,λm cs hm hc=> ?_⟩
 ·have:n≠m:=λe=>by subst e;rw[hn]at hm;cases hm;cases hc
  rw[aoZ this];exact hm
 ·by_cases e:n=m
  ·subst e;rw[aoU (aor.1 hn).1]at hm;cases hm;cases hc
  ·rw[aoZ e]at hm;exact hm
theorem I2{e:TypeId}{k l:Nat}:ji h (h++[.front e k l])/\ji (h++[.front e k l]) h:=by
 refine⟨ji.app _ _,λm cs hm hc=> ?_⟩;by_cases hl:m<h.length
 ·rw[aoB hl]at hm;exact hm
 ·rw[aoH (by omega)]at hm;by_cases h0:m-h.length=0
  ·rw[h0]at hm;cases hm;cases hc
  ·rw[aoX (by simp;omega)]at hm;cases hm
theorem amw(hk:cr o=5)(hc:cG P o ρ h C):∃x J,C x J/\(ji h J/\ji J h/\iO h J)/\∀C':AV->apf aq->Prop,C' x J->cG P o ρ h C':=by
 obtain⟨dst,op,type,pos,after,guard⟩:=o;cases op with
 |call c=>
  simp only[cr]at hk;cases fp:c.callee with
  |value f=>cases mv:pN f<;>simp [fp,mv]at hk
  |invoke=>simp [fp]at hk
  |builtin b=>
   cases b with
   |append=>
    simp only[cG,fp]at hc;split at hc
    ·rename_i x y T U e1 e2
     rw[bO]at hc;have aiD:∀(k:Nat)(y:AV)(F:apf (apf D)->Prop),uP h k y F->∃ys,F ys/\∀F':apf (apf D)->Prop,F' ys->uP h k y F':=λk y F hF=>by
       unfold uP at hF ⊢;split at hF
       ·split at hF
        ·split at hF
         ·rw[bO]at hF;exact⟨_,hF.2,λF' lg=>bO.2 ⟨hF.1,lg⟩⟩
         ·exact hF.elim
        ·exact hF.elim
       ·split at hF
        ·exact⟨_,hF.2,λF' lg=>⟨hF.1,lg⟩⟩
        ·exact hF.elim
     have key:∀F:AV->apf aq->Prop,vx P T h (ρ x) (ρ y) F->∃v J,F v J/\(ji h J/\ji J h/\iO h J)/\∀F':AV->apf aq->Prop,F' v J->vx P T h (ρ x) (ρ y) F':=λF hF=>by
      unfold vx at hF ⊢;split at hF
      ·split at hF
       ·rw[bO]at hF;obtain⟨h0,hF⟩:=hF;obtain⟨ys,hF,hs⟩:=aiD _ _ _ hF;split at hF
        ·split at hF
         ·rename_i hn
          rw[bO]at hF;obtain⟨g1,g2,g3,g4,g5,g6⟩:=hF;exact⟨_,_,g6,⟨(VH hn).1,(VH hn).2,iO.set hn rfl⟩,λF' lg=>bO.2 ⟨h0,hs _ (bO.2 ⟨g1,g2,g3,g4,g5,lg⟩)⟩⟩
         ·exact hF.elim
        ·obtain⟨g4,g5,g6⟩:=hF;exact⟨_,_,g6,⟨I2.1,I2.2,iO.app rfl⟩,λF' lg=>bO.2 ⟨h0,hs _ ⟨g4,g5,lg⟩⟩⟩
        ·obtain⟨g3,g4,g5,g6⟩:=hF;exact⟨_,_,g6,⟨I2.1,I2.2,iO.app rfl⟩,λF' lg=>bO.2 ⟨h0,hs _ ⟨g3,g4,g5,lg⟩⟩⟩
        ·exact hF.elim
       ·exact hF.elim
      ·exact hF.elim
     obtain⟨v,J,k1,c1,k2⟩:=key _ hc.2;exact⟨v,J,k1,c1,λC' du=>by simp only[cG,fp,e1,e2];rw[bO];exact⟨hc.1,k2 _ du⟩⟩
    ·exact hc.elim
   |_=>simp [fp]at hk
 |_=>simp [cr]at hk
theorem VZ{m:Bool}(kC:nq m o=false){s:St}{K:St->Prop}(hd:Bn P o K s):∃x J,eC m P o (ev s) s.h x J/\K ((s.wh J).put o.dst x):=by
 have km:jI m o=cr o:=by unfold jI;rw[kC];rfl
 have plain:qN P o K s->cr o≠4->cr o≠6->∃x J,eC m P o (ev s) s.h x J/\K ((s.wh J).put o.dst x):=λha hk4 E7=>by
  unfold qN at ha;by_cases h0:cr o=0
  ·obtain⟨x,J,h2⟩:=alw h0 ha;exact⟨x,s.h,by unfold eC;rw[km,h0];exact⟨rfl,λh' _ C' du=> .inl (h2 h' C' du)⟩,J⟩
  ·by_cases J:cr o=1
   ·obtain⟨dst,op,type,pos,after,guard⟩:=o;cases op with
    |load t a=>
     simp only[cG]at ha;obtain⟨x,k1,k2⟩:=aj1 ha;exact⟨x,s.h,by unfold eC;rw[km,J];exact⟨rfl,λh' hh C' du=> .inl (by simp only[cG];exact k2 h' hh _ du)⟩,k1⟩
    |lookup t a b ok=>
     simp only[cG]at ha;split at ha
     ·rename_i x h' p hx
      obtain⟨rfl,k2⟩:=afD hx;exact⟨x,s.h,by unfold eC;rw[km,J];exact⟨rfl,λh' hh C' du=> .inl (by simp only[cG,k2 h' hh];exact⟨ha.1,du⟩)⟩,ha.2⟩
     ·exact ha.elim
    |call c=>
     simp only[cr]at J;cases fp:c.callee with
     |value f=>cases mv:pN f<;>simp [fp,mv]at J
     |invoke=>simp [fp]at J
     |builtin b=>cases b<;>simp [fp]at J
    |_=>simp [cr]at J
   ·by_cases h2:cr o=2
    ·obtain⟨B,kB,k1,k2⟩:=aj2 h2 ha;exact⟨_,_,by unfold eC;rw[km,h2];exact⟨B,kB,rfl,rfl,λh' C' du=> .inl (k2 h' C' du)⟩,k1⟩
    ·by_cases h3:cr o=3
     ·obtain⟨x,ml,k1,kv,k2⟩:=ajr h3 ha;exact⟨x,ml,by unfold eC;rw[km,h3];exact⟨kv,λC' du=> .inl (k2 C' du)⟩,k1⟩
     ·by_cases h5:cr o=5
      ·obtain⟨x,ml,k1,c1,k2⟩:=amw h5 ha;exact⟨x,ml,by unfold eC;rw[km,h5];exact⟨c1,λC' du=> .inl (k2 C' du)⟩,k1⟩
      exfalso;obtain⟨dst,op,type,pos,after,guard⟩:=o;cases op with
      |call c=>
       simp only[cr]at h0 h3 hk4 E7 h5;simp only[cG]at ha;cases fp:c.callee with
       |value f=>cases mv:pN f<;>simp [fp,mv]at hk4 E7
       |invoke=>simp only[fp]at ha
       |builtin b=>cases b<;>simp only[fp]at ha h0 h3 h5<;>first|exact ha|exact absurd rfl h0|exact absurd rfl h3|exact absurd rfl h5|exact h3 trivial|exact h0 trivial|exact h5 trivial
      |_=>first|exact absurd rfl h0|exact absurd rfl J|exact absurd rfl h2|exact absurd rfl h3|exact ha
 unfold Bn at hd;split at hd
 ·rename_i c hO
  split at hd
  ·rename_i f fp
   have fin:∀x:AV,(∀e,∀C':AV->apf aq->Prop,C' x (s.h++e)->cG P o (ev s) (s.h++e) C')->eC m P o (ev s) s.h x s.h:=λx hx=>by
    have hk:cr o=4\/cr o=6:=by
     unfold cr;simp only[hO,fp];cases pN f<;>simp
    unfold eC;rw[km];rcases hk with hk|hk
    ·rw[hk];exact⟨rfl,λe C' du=> .inl (hx e C' du)⟩
    ·rw[hk];refine⟨[],(aoM _).symm,λC' du=> .inl ?_⟩;have:=hx [] C' (by rw[aoM];exact du)
     rwa [aoM]at this
   split at hd
   ·rename_i g cZ hg
    obtain⟨x,hK,jM⟩:=hd;refine⟨x,s.h,fin x λe C' du=> ?_,hK⟩;unfold cG;simp only[hO,fp,hg];exact(jM e).mono λr' h' ⟨e1,e2⟩=>by subst e1;subst e2;exact du
   ·rename_i q hg
    obtain⟨g,as,eq,x,hK,jM⟩:=hd;refine⟨x,s.h,fin x λe C' du=> ?_,hK⟩;unfold cG;simp only[hO,fp,hg];exact⟨g,as,eq,(jM e).mono λr' h' ⟨e1,e2⟩=>by subst e1;subst e2;exact du⟩
   ·exact hd.elim
  ·rename_i fp
   exact plain hd (by
    unfold cr;simp only[hO];cases hc:c.callee with
    |value f=>exact absurd hc (fp f)
    |invoke=>simp
    |builtin b=>cases b<;>simp) (by
    unfold cr;simp only[hO];cases hc:c.callee with
    |value f=>exact absurd hc (fp f)
    |invoke=>simp
    |builtin b=>cases b<;>simp)
 ·rename_i hO
  exact plain hd (by
   unfold cr;split<;>first|(rename_i c hc;exact(hO c hc).elim)|simp) (by
   unfold cr;split<;>first|(rename_i c hc;exact(hO c hc).elim)|simp)
theorem abG{m:Bool}{J:apf aq}{x:AV}(h0:eC m P o ρ h x J):∀C:AV->apf aq->Prop,C x J->jE P o ρ h C:=λC hC=>by
 unfold eC at h0;split at h0
 ·obtain⟨e,h0⟩:=h0;subst e;exact h0 _ (.inr (jc.refl _)) _ hC
 ·obtain⟨e,h0⟩:=h0;subst e;exact h0 _ (ji.refl _) _ hC
 ·obtain⟨B,_,rfl,rfl,h0⟩:=h0;exact h0 _ _ hC
 ·exact h0.2 _ hC
 ·obtain⟨e,h0⟩:=h0;subst e;have:=h0 [] C (by rw[aoM];exact hC)
  rwa [aoM]at this
 ·exact h0.2 _ hC
 ·obtain⟨e0,_,h0⟩:=h0;exact h0 _ hC
 ·exact h0 _ hC
 ·exact h0.elim
theorem Ka{m:Bool}{s:St}{K:St->Prop}(hd:yc m P o K s):∃x J,eC m P o (ev s) s.h x J/\K ((s.wh J).put o.dst x):=by
 cases kC:nq m o with
 |true=>
  have k7:jI m o=7:=by unfold jI;rw[kC];rfl
  rcases hd with hd|⟨_,x,J,hK,hc⟩|⟨hv,a,x,h',p,hx,hp,hK⟩|⟨_,x,e0,hK,hc⟩
  ·obtain⟨x,J,h2,hK⟩:=VZ (m:=false) rfl hd;refine⟨x,J,?_,hK⟩;have:=abG h2;unfold eC;rw[k7];exact this
  ·exact⟨x,J,by unfold eC;rw[k7];exact λC hC=> .inl (hc C hC),hK⟩
  ·exact⟨x,h',by unfold eC;rw[k7];exact λC hC=> .inr ⟨hv.imp (·.1) (λe=>(aot _ _▸e).2),a,x,h',p,hx,hp,hC⟩,hK⟩
  ·exact⟨x,_,by unfold eC;rw[k7];exact λC hC=> .inl (hc C hC),hK⟩
 |false=>
 have km:jI m o=cr o:=by unfold jI;rw[kC];rfl
 rcases hd with hd|⟨hb,_⟩|⟨hv,a,x,h',p,hx,hp,hK⟩|⟨hk,x,e0,hK,hc⟩
 ·exact VZ kC hd
 ·rw[kC]at hb;cases hb
 ·obtain⟨hv,Yw⟩:jy o=true/\(m&&cr o==0)=false:=hv.resolve_right λe=>by
   rw[aot]at e;unfold nq at kC;rw[e.1,e.2]at kC;simp at kC
  have hk:cr o=0\/cr o=1\/cr o=3:=by
   unfold jy at hv;unfold cr;split at hv
   all_goals first|(next e=>simp only[e];simp)|skip
   ·next c e=>
    split at hv
    ·next e2=>simp only[e,e2];simp
    ·cases hv
   ·cases hv
  rcases hk with hk|hk|hk
  ·obtain⟨rfl,h2⟩:=akb hv hk hx hp;refine⟨x,_,?_,hK⟩;unfold eC;rw[km,hk];exact⟨rfl,λh' hh C hC=> .inr ⟨.inl hv,a,x,h',by obtain⟨p',q1,q2⟩:=h2 h' (hh.resolve_left λe=>by rw[e,hk]at Yw;cases Yw);exact⟨p',q1,q2,hC⟩⟩⟩
  ·obtain⟨rfl,h2⟩:=acx hv hk hx hp;refine⟨x,_,?_,hK⟩;unfold eC;rw[km,hk];exact⟨rfl,λh' hh C hC=> .inr ⟨.inl hv,a,x,h',by obtain⟨p',q1,q2⟩:=h2 h' hh;exact⟨p',q1,q2,hC⟩⟩⟩
  ·refine⟨x,h',?_,hK⟩;unfold eC;rw[km,hk];exact⟨akR hv hk hx hp,λC hC=> .inr ⟨.inl hv,a,x,h',p,hx,hp,hC⟩⟩
 ·refine⟨x,_,?_,hK⟩;unfold eC;rw[km,hk];exact⟨e0,rfl,λC hC=> .inl (hc C hC)⟩
end
structure js(s s':St):Prop where
 n:s.n=s'.n
 h:s.h=s'.h
 t:∀i,bn s.t i=bn s'.t i
theorem js.refl(s:St):js s s:=⟨rfl,rfl,λ_=>rfl⟩
theorem js.symm{s s':St}(h:js s s'):js s' s:=⟨h.n.symm,h.h.symm,λi=>(h.t i).symm⟩
theorem js.trans{a b c:St}(h:js a b)(k:js b c):js a c:=⟨h.n.trans k.n,h.h.trans k.h,λi=>(h.t i).trans (k.t i)⟩
theorem rJ(s:St)(d:aph Nat)(x:AV)(i:Nat):bn (s.put d x).t i=if d=some i/\i<s.n then x else bn s.t i:=by
 cases d with
 |none=>simp [St.put]
 |some k=>
  by_cases hk:k<s.n
  ·rw[ri hk,k8];by_cases hi:i=k
   ·subst hi;simp [hk]
   ·rw[if_neg hi,if_neg (by simp;intro e;exact absurd e.symm hi)]
  ·rw[CH hk];rw[if_neg (by rintro⟨e,aN⟩;cases e;exact hk aN)]
theorem rD(s:St)(d:aph Nat)(x:AV):(s.put d x).n=s.n:=by
 cases d with
 |none=>rfl
 |some k=>
  by_cases hk:k<s.n
  ·rw[ri hk]
  ·rw[CH hk]
theorem CY(s:St)(d:aph Nat)(x:AV):(s.put d x).h=s.h:=by
 cases d with
 |none=>rfl
 |some k=>
  by_cases hk:k<s.n
  ·rw[ri hk]
  ·rw[CH hk]
theorem js.put{s s':St}(h:js s s')(J:apf aq)(d:aph Nat)(x:AV):js ((s.wh J).put d x) ((s'.wh J).put d x):=
 ⟨by rw[rD,rD];exact h.n,by rw[CY,CY];rfl,λi=>by
  rw[rJ,rJ];show(if d=some i/\i<s.n then x else bn s.t i)=(if d=some i/\i<s'.n then x else bn s'.t i);rw[h.n,h.t]⟩
theorem akq(s:St)(J ml h2:apf aq){d d':aph Nat}(x x':AV)(cE:∀k,d=some k->d'≠some k):js ((((s.wh J).put d x).wh h2).put d' x') ((((s.wh ml).put d' x').wh h2).put d x):=by
 refine⟨by simp only[rD];show((s.wh J).put d x).n=((s.wh ml).put d' x').n;simp only[rD];rfl,by simp only[CY];rfl,λi=> ?_⟩;rw[rJ,rJ];show(if d'=some i/\i<((s.wh J).put d x).n then x' else bn ((s.wh J).put d x).t i)=(if d=some i/\i<((s.wh ml).put d' x').n then x else bn ((s.wh ml).put d' x').t i);rw[rD,rD,rJ,rJ];show(if d'=some i/\i<s.n then x' else(if d=some i/\i<s.n then x else bn s.t i))=(if d=some i/\i<s.n then x else(if d'=some i/\i<s.n then x' else bn s.t i));by_cases a:d=some i
 ·have:=cE i a;simp [a,this]
 ·simp [a]
section
variable {P:api} {ops:Array Oper}
def mc(m:Bool)(P:api)(ops:Array Oper)(o:Oper)(s:St)(x:AV)(J:apf aq):Prop:=
 (iX ops o s True False/\eC m P o (ev s) s.h x J)\/(iX ops o s False True/\x= .d (.v undef)/\J=s.h)
theorem Ha{o:Oper}{s:St}{yes no:Prop}(h:iX ops o s yes no):(iX ops o s True False/\yes)\/(iX ops o s False True/\no):=by
 unfold iX at h ⊢;split at h
 ·exact .inl ⟨trivial,h⟩
 ·rename_i j want hg
  split at h
  ·rename_i d hd
   split at h
   ·rename_i b hb
    by_cases vU:b=want
    ·exact .inl ⟨⟨λ_=>trivial,λe=>by subst vU;cases b<;>cases e⟩,h.1 vU⟩
    ·have Fq:b= !want:=by cases b<;>cases want<;>simp_all
     exact .inr ⟨⟨λe=>(vU e).elim,λ_=>trivial⟩,h.2 Fq⟩
   ·exact .inr ⟨trivial,h⟩
   ·exact h.elim
  ·exact h.elim
theorem vz{o:Oper}{s s':St}{yes no:Prop}(ht:∀d,d∈o.looksAt ops->bn s'.t d=bn s.t d)(h:iX ops o s yes no):iX ops o s' yes no:=by
 unfold iX at h ⊢;split at h
 ·exact h
 ·rename_i j want hg
  split at h
  ·rename_i d hd
   have:bn s'.t d=bn s.t d:=ht d (by unfold Oper.looksAt;rw[hg];simp [hd]);rw[this];exact h
  ·exact h.elim
theorem Ny{m:Bool}{o:Oper}{s s':St}{x:AV}{J:apf aq}(ht:∀d,d∈o.looksAt ops->bn s'.t d=bn s.t d)(hh:s'.h=s.h)(h:mc m P ops o s x J):mc m P ops o s' x J:=by
 have dd:∀y∈o.op.operands,ev s y=ev s' y:=λy hy=>by
  cases y with
  |tmp t=>exact(ht t (by unfold Oper.looksAt;refine ao3.2 (.inl (List.mem_filterMap.2 ⟨.tmp t,Array.mem_toList_iff.2 hy,rfl⟩)))).symm
  |_=>rfl
 rcases h with⟨g,hc⟩|⟨g,e1,e2⟩
 ·refine .inl ⟨vz ht g,?_⟩;rw[hh];have uF:∀h C,jE P o (ev s) h C=jE P o (ev s') h C:=λh C=>Rf dd;unfold eC at hc ⊢;split at hc
  ·exact⟨hc.1,λh' hh C hC=>uF h' C▸hc.2 h' hh C hC⟩
  ·exact⟨hc.1,λh' hh C hC=>uF _ C▸hc.2 h' hh C hC⟩
  ·obtain⟨B,kB,a,b,c⟩:=hc;exact⟨B,kB,a,b,λh' C hC=>uF h' C▸c h' C hC⟩
  ·exact⟨hc.1,λC hC=>uF _ C▸hc.2 C hC⟩
  ·exact⟨hc.1,λe C hC=>uF _ C▸hc.2 e C hC⟩
  ·exact⟨hc.1,λC hC=>uF _ C▸hc.2 C hC⟩
  ·obtain⟨e0,a,b⟩:=hc;exact⟨e0,a,λC hC=>uF _ C▸b C hC⟩
  ·exact λC hC=>uF _ C▸hc C hC
  ·exact hc.elim
 ·exact .inr ⟨vz ht g,e1,e2.trans hh.symm⟩
theorem XC{o:Oper}(h:cr o=7):False:=by
 unfold cr at h
 repeat' (first|(split at h)|cases h)
 all_goals (cases hg:pN _<;>rw[hg]at h<;>cases h)
theorem ahT{m:Bool}{o:Oper}{ρ:Operand->AV}{h J:apf aq}{x:AV}(h7:nq m o=false)(h0:eC m P o ρ h x J):jc h J:=by
 unfold eC at h0;unfold jI at h0;rw[h7]at h0;simp only[cond_false]at h0;split at h0
 ·rw[h0.1];exact jc.refl _
 ·rw[h0.1];exact jc.refl _
 ·obtain⟨B,kB,_,e,_⟩:=h0;rw[e];exact(iO.app kB).i
 ·exact h0.1.i
 ·rw[h0.1];exact jc.refl _
 ·exact h0.1.2.2.i
 ·obtain⟨e0,e,_⟩:=h0;rw[e];exact jc.app _ _
 ·next e=>exact(XC e).elim
 ·exact h0.elim
theorem ahL{m:Bool}{o:Oper}{ρ:Operand->AV}{h J:apf aq}{x:AV}(h7:nq m o=false)(hk:cr o≠6)(h0:eC m P o ρ h x J):jc J h:=by
 unfold eC at h0;unfold jI at h0;rw[h7]at h0;simp only[cond_false]at h0;split at h0
 ·rw[h0.1];exact jc.refl _
 ·rw[h0.1];exact jc.refl _
 ·obtain⟨B,kB,_,e,_⟩:=h0;rw[e];exact(iO.app kB).j
 ·exact h0.1.j
 ·rw[h0.1];exact jc.refl _
 ·exact h0.1.2.2.j
 ·next e=>exact(hk e).elim
 ·next e=>exact(XC e).elim
 ·exact h0.elim
def An(m:Bool)(a b:Oper):Bool:=(m&&((nq m a&&(!nq m b&&cr b==0))||(nq m b&&(!nq m a&&cr a==0))))|| !nq m a&& !nq m b&&(cr a==0||(cr b==0&& !(cr a==6))||((cr a==1||cr a==4)&&(cr b==1||cr b==4||cr b==2||cr b==6))||(cr a==1&&cr b==5)||(cr a==5&&cr b==1))
theorem aoc{m:Bool}{oi oj:Oper}{s:St}{xi xj:AV}{hi hj:apf aq}(HC:oi.apart ops oj=true)(iN:An m oi oj=true)(J:mc m P ops oi s xi hi)(h2:mc m P ops oj ((s.wh hi).put oi.dst xi) xj hj):
 ∃jh,mc m P ops oj s xj jh/\mc m P ops oi ((s.wh jh).put oj.dst xj) xi hj:=by
 obtain⟨a1,a2,a3⟩:=Oper.apart_spec HC;have tj:∀d,d∈oj.looksAt ops->bn s.t d=bn ((s.wh hi).put oi.dst xi).t d:=λd hd=>by
  rw[rJ,if_neg (λe=>a1 d e.1 hd)];rfl
 have ti:∀(h':apf aq) d,d∈oi.looksAt ops->bn ((s.wh h').put oj.dst xj).t d=bn s.t d:=λh' d hd=>by
  rw[rJ,if_neg (λe=>a3 d e.1 hd)];rfl
 have fg:((s.wh hi).put oi.dst xi).h=hi:=by rw[CY];rfl
 have qt:∀h',((s.wh h').put oj.dst xj).h=h':=λh'=>by rw[CY];rfl
 have same:hi=s.h->mc m P ops oj s xj hj:=λe=>Ny tj (by rw[fg,e]) h2;have evi:∀h',∀y∈oi.op.operands,ev ((s.wh h').put oj.dst xj) y=ev s y:=λh' y hy=>by
  cases y with
  |tmp t=>exact ti h' t (by unfold Oper.looksAt;refine ao3.2 (.inl (List.mem_filterMap.2 ⟨.tmp t,Array.mem_toList_iff.2 hy,rfl⟩)))
  |_=>rfl
 have evj:∀y∈oj.op.operands,ev ((s.wh hi).put oi.dst xi) y=ev s y:=λy hy=>by
  cases y with
  |tmp t=>exact(tj t (by unfold Oper.looksAt;refine ao3.2 (.inl (List.mem_filterMap.2 ⟨.tmp t,Array.mem_toList_iff.2 hy,rfl⟩)))).symm
  |_=>rfl
 have ci:∀h' h C,jE P oi (ev ((s.wh h').put oj.dst xj)) h C=jE P oi (ev s) h C:=λh' h C=>Rf (evi h');have cj:∀h C,jE P oj (ev ((s.wh hi).put oi.dst xi)) h C=jE P oj (ev s) h C:=λh C=>Rf evj;unfold An at iN;rw[Bool.or_eq_true]at iN;rcases J with⟨g1,o1⟩|⟨g1,e1,e2⟩
 ·rcases h2 with⟨g2,o2⟩|⟨g2,f1,f2⟩
  ·rcases iN with iN|iN
   ·
    rw[aot,Bool.or_eq_true,aot,aot,aot,aot,Bool.not_eq_true',Bool.not_eq_true',beq_iff_eq,beq_iff_eq]at iN;obtain⟨hm,iN⟩:=iN;have vf:∀h',iX ops oi ((s.wh h').put oj.dst xj) True False:=λh'=>vz (ti h') g1;have LZ:iX ops oj s True False:=vz tj g2;rcases iN with⟨Fh,lj,kj⟩|⟨haj,li,ki⟩
    ·have nY:jI m oj=0:=by unfold jI;rw[lj];exact kj
     have kZ:jI m oi=7:=by unfold jI;rw[Fh];rfl
     unfold eC at o1 o2;rw[kZ]at o1;rw[nY]at o2;simp only at o1 o2;obtain⟨e,o2⟩:=o2;rw[fg]at e;refine⟨s.h, .inl ⟨LZ,?_⟩, .inl ⟨vf s.h,?_⟩⟩
     ·unfold eC;rw[nY];exact⟨rfl,λh' _ C hC=>by rw[<-cj];exact o2 h' (.inl hm) C hC⟩
     ·unfold eC;rw[kZ,qt];exact λC hC=>by rw[ci];exact o1 C (e▸hC)
    ·have kZ:jI m oi=0:=by unfold jI;rw[li];exact ki
     have nY:jI m oj=7:=by unfold jI;rw[haj];rfl
     unfold eC at o1;rw[kZ]at o1;simp only at o1;obtain⟨e,o1⟩:=o1;refine⟨hj,same e, .inl ⟨vf hj,?_⟩⟩;unfold eC;rw[kZ];exact⟨(qt hj).symm,λh' _ C hC=>by rw[ci];exact o1 h' (.inl hm) C hC⟩
   rw[aot,aot,Bool.not_eq_true',Bool.not_eq_true']at iN;obtain⟨⟨li,lj⟩,iN⟩:=iN;have kZ:jI m oi=cr oi:=by unfold jI;rw[li];rfl
   have nY:jI m oj=cr oj:=by unfold jI;rw[lj];rfl
   have vf:∀h',iX ops oi ((s.wh h').put oj.dst xj) True False:=λh'=>vz (ti h') g1;have LZ:iX ops oj s True False:=vz tj g2;by_cases k0:cr oi=0
   ·unfold eC at o1;rw[kZ,k0]at o1;simp only at o1;obtain⟨e,o1⟩:=o1;refine⟨hj,same e, .inl ⟨vf hj,?_⟩⟩;unfold eC;rw[kZ,k0];have hv:jc s.h hj:=by
     have:=ahT lj o2;rw[fg,e]at this;exact this
    exact⟨(qt hj).symm,λh' hh C hC=>by rw[qt]at hh;rw[ci];exact o1 h' (hh.imp id λhh=>hv.trans hh) C hC⟩
   ·by_cases k1:cr oj=0
    ·unfold eC at o2;rw[nY,k1]at o2;simp only at o2;obtain⟨e,o2⟩:=o2;rw[fg]at e o2;have k6:cr oi≠6:=λk6=>by
      simp [k6,k1]at iN
     have hv:=ahL li k6 o1;refine⟨s.h, .inl ⟨LZ,?_⟩, .inl ⟨vf s.h,?_⟩⟩
     ·unfold eC;rw[nY,k1];exact⟨rfl,λh' hh C hC=>by rw[<-cj];exact o2 h' (hh.imp id λhh=>hv.trans hh) C hC⟩
     ·rw[e];unfold eC at o1 ⊢;rw[qt];simp only[ci];exact o1
    ·by_cases ZG:cr oi=1/\cr oj=5
     ·obtain⟨ka,kb⟩:=ZG;unfold eC at o1 o2;rw[kZ,ka]at o1;rw[nY,kb]at o2;simp only at o1 o2;obtain⟨e,o1⟩:=o1;obtain⟨⟨c1,c2,_⟩,o2⟩:=o2;rw[fg,e]at c1 c2;refine⟨hj,same e, .inl ⟨vf hj,?_⟩⟩;unfold eC;rw[kZ,ka];simp only;refine⟨(qt hj).symm,λh' hh C hC=> ?_⟩;rw[qt]at hh;rw[ci];exact o1 h' (λn cs hn hq=>hh n cs (c1 n cs hn hq) hq) C hC
     by_cases ZF:cr oi=5/\cr oj=1
     ·obtain⟨ka,kb⟩:=ZF;unfold eC at o1 o2;rw[kZ,ka]at o1;rw[nY,kb]at o2;simp only at o1 o2;obtain⟨⟨c1,c2,c3⟩,o1⟩:=o1;obtain⟨e,o2⟩:=o2;rw[fg]at e o2;refine⟨s.h, .inl ⟨LZ,?_⟩, .inl ⟨vf s.h,?_⟩⟩
      ·unfold eC;rw[nY,kb];simp only;exact⟨trivial,λh' hh C hC=>by rw[<-cj];exact o2 h' (λn cs hn hq=>hh n cs (c2 n cs hn hq) hq) C hC⟩
      ·rw[e];unfold eC;rw[kZ,ka];simp only;rw[qt];exact⟨⟨c1,c2,c3⟩,λC hC=>by rw[ci];exact o1 C hC⟩
     have hc:(cr oi=1\/cr oi=4)/\(cr oj=1\/cr oj=4\/cr oj=2\/cr oj=6):=by
      simp only[Bool.or_eq_true,aot,beq_iff_eq,k0,k1,false_or,false_and]at iN;rcases iN with(iN|iN)|iN
      ·refine⟨iN.1,?_⟩;rcases iN.2 with((h|h)|h)|h
       ·exact .inl h
       ·exact .inr (.inl h)
       ·exact .inr (.inr (.inl h))
       ·exact .inr (.inr (.inr h))
      ·exact absurd iN ZG
      ·exact absurd iN ZF
     have q1:hi=s.h/\∀e(C:AV->apf aq->Prop),C xi (s.h++e)->jE P oi (ev s) (s.h++e) C:=by
      unfold eC at o1;rcases hc.1 with k|k
      ·rw[kZ,k]at o1;exact⟨o1.1,λe C hC=>o1.2 _ (ji.app _ _) C hC⟩
      ·rw[kZ,k]at o1;exact o1
     have q2:∃e0,hj=s.h++e0:=by
      have sA:=o2;unfold eC at sA;rcases hc.2 with k|k|k|k
      ·rw[nY,k]at sA;exact⟨[],by rw[sA.1,fg,q1.1,aoM]⟩
      ·rw[nY,k]at sA;exact⟨[],by rw[sA.1,fg,q1.1,aoM]⟩
      ·rw[nY,k]at sA;obtain⟨B,_,_,b,_⟩:=sA;exact⟨[B],by rw[b,fg,q1.1]⟩
      ·rw[nY,k]at sA;obtain⟨e0,b,_⟩:=sA;exact⟨e0,by rw[b,fg,q1.1]⟩
     obtain⟨e0,Fc⟩:=q2;refine⟨hj,same q1.1, .inl ⟨vf hj,?_⟩⟩;have:∀e(C:AV->apf aq->Prop),C xi (hj++e)->jE P oi (ev ((s.wh hj).put oj.dst xj)) (hj++e) C:=λe C hC=>by
      rw[ci,Fc,aoI];rw[Fc,aoI]at hC;exact q1.2 _ C hC
     unfold eC;rw[qt];rcases hc.1 with k|k
     ·rw[kZ,k];simp only;refine⟨trivial,λh' hh C hC=> ?_⟩;rw[ci];unfold eC at o1;rw[kZ,k]at o1;exact o1.2 h' (λn cs hn hq=>hh n cs (by rw[Fc];exact ji.app _ _ n cs hn hq) hq) C hC
     ·rw[kZ,k];exact⟨rfl,this⟩
  ·
   subst f1;rw[fg]at f2;refine⟨s.h, .inr ⟨vz tj g2,rfl,rfl⟩,?_⟩;rw[f2];exact Ny (ti s.h) (by rw[qt]) (.inl ⟨g1,o1⟩)
 ·
  subst e1;refine⟨hj,same e2, .inr ⟨vz (ti hj) g1,rfl,(qt hj).symm⟩⟩
def rm(K:St->Prop):Prop:=∀s s',js s s'->K s->K s'
def kN(m:Bool)(P:api)(ops:Array Oper)(K:St->Prop):Nat->Array Bool->St->Prop
 |0,listed,s=>Region.ready .any ops listed=[]/\K s
 |fuel+1,listed,s=>
  (Region.ready .any ops listed=[]->K s)/\
  ∀i∈Region.ready .any ops listed,∀o,ops[i]?=some o->∃x J,mc m P ops o s x J/\kN m P ops K fuel (listed.setIfInBounds i true) ((s.wh J).put o.dst x)
theorem S2{m:Bool}{K:St->Prop}(hK:rm K):∀(fuel:Nat)(listed:Array Bool)(s s':St),js s s'->kN m P ops K fuel listed s->kN m P ops K fuel listed s'
 |0,_,s,s',hs,h=>⟨h.1,hK s s' hs h.2⟩
 |fuel+1,_,s,s',hs,h=>⟨λh0=>hK s s' hs (h.1 h0),λi hi o ho=>by
  obtain⟨x,J,h2,h3⟩:=h.2 i hi o ho;exact⟨x,J,Ny (λd _=>(hs.t d).symm) hs.h.symm h2,S2 hK fuel _ _ _ (hs.put J o.dst x) h3⟩⟩
def oc(M:Array Nat)(ops:Array Oper):Bool:=
 (List.range ops.size).all λj=>(List.range ops.size).all λi=> !(M.getD j 0).testBit i||match ops[j]? with
  |some o=>o.after.any λe=>Region.binds .any e&&decide (e.on<j)&&(e.on==i||(M.getD e.on 0).testBit i)
  |none=>false
def Dn(ops:Array Oper)(listed:Array Bool):Prop:=∀(j:Nat)(o:Oper),ops[j]?=some o->listed.getD j false=true->∀e∈o.after,Region.binds .any e=true->listed.getD e.on false=true
theorem acy{M:Array Nat}(hM:oc M ops=true){listed:Array Bool}(hD:Dn ops listed):∀(j i:Nat)(o:Oper),i<ops.size->ops[j]?=some o->(∀e∈o.after,Region.binds .any e=true->listed.getD e.on false=true)->(M.getD j 0).testBit i=true->listed.getD i false=true:=by
 intro j
 induction j using Nat.strongRecOn with
 |_ j ih=>
  intro i o hi ho hp hb;unfold oc at hM;simp only[aoR,List.mem_range]at hM;have J:=hM j (aoG.1 ho).1 i hi;rw[hb,ho]at J;simp only[Bool.not_true,Bool.false_or]at J;rw[Array.any_eq_true']at J;obtain⟨e,he,h2⟩:=J;simp only[aot,decide_eq_true_eq,Bool.or_eq_true,beq_iff_eq]at h2;obtain⟨⟨zh,aN⟩,h3⟩:=h2;have hl:=hp e he zh;rcases h3 with h3|h3
  ·rw[<-h3];exact hl
  ·have KW:e.on<ops.size:=Nat.lt_trans aN (aoG.1 ho).1;exact ih e.on aN i ops[e.on] hi (aoN KW) (hD e.on _ (aoN KW) hl) h3
theorem Dn.set{listed:Array Bool}(hD:Dn ops listed){i:Nat}(hr:i∈Region.ready .any ops listed):Dn ops (listed.setIfInBounds i true):=by
 intro j o ho hj e he hb;refine getD_set_true ?_;by_cases l5:i=j
 ·subst l5;obtain⟨_,o',nt,fB⟩:=mem_ready.1 hr;rw[ho]at nt;cases nt;exact fB e he hb
 ·rw[getD_set_ne false l5]at hj;exact hD j o ho hj e he hb
theorem KL{m:Bool}{K:St->Prop}(hK:rm K){M:Array Nat}(hM:oc M ops=true){i:Nat}{oi:Oper}{x:AV}{J:apf aq}(hi:ops[i]?=some oi):
 ∀(fuel:Nat)(listed:Array Bool)(s:St),Dn ops listed->
  (∀j oj,ops[j]?=some oj->j≠i->listed.getD j true=false->(M.getD j 0).testBit i=false->oi.apart ops oj=true/\An m oi oj=true)->
  i∈Region.ready .any ops listed->mc m P ops oi s x J->kN m P ops K fuel (listed.setIfInBounds i true) ((s.wh J).put oi.dst x)->kN m P ops K (fuel+1) listed s:=by
 intro fuel
 induction fuel generalizing x J with
 |zero=>
  intro listed s _ _ hr hy H;refine⟨λh=>(by rw[h]at hr;cases hr),λj hj o ho=> ?_⟩;by_cases uq:j=i
  ·subst uq;rw[hi]at ho;cases ho;exact⟨x,J,hy,H⟩
  ·have:=ready_mono hj uq;rw[H.1]at this;cases this
 |succ fuel ih=>
  intro listed s hD S5 hr hy H;refine⟨λh=>(by rw[h]at hr;cases hr),λj hj oj zD=> ?_⟩;by_cases uq:j=i
  ·subst uq;rw[hi]at zD;cases zD;exact⟨x,J,hy,H⟩
  ·obtain⟨xj,hj1,Nf,H2⟩:=H.2 j (ready_mono hj uq) oj zD;obtain⟨abE,oj',aaP,fB⟩:=mem_ready.1 hj;rw[zD]at aaP;cases aaP;have aka:=(aoG.1 hi).1;have qd:listed.getD i false=false:=by
    have h0:=(mem_ready.1 hr).1;rcases Nat.lt_or_ge i listed.size with h'|h'
    ·simpa [h']using h0
    ·simp [Array.getElem?_eq_none h']at h0
   have j0:(M.getD j 0).testBit i=false:=by
    cases hb:(M.getD j 0).testBit i with
    |false=>rfl
    |true=>rw[acy hM hD j i oj aka zD fB hb]at qd;cases qd
   obtain⟨HC,iN⟩:=S5 j oj zD uq abE j0;obtain⟨jh,s1,s2⟩:=aoc HC iN hy Nf;obtain⟨_,a2,_⟩:=Oper.apart_spec HC;refine⟨xj,jh,s1,ih (listed.setIfInBounds j true) _ (hD.set hj) (λk ok hk MQ UR tv=> ?_) (ready_mono hr (Ne.symm uq)) s2 ?_⟩
   ·refine S5 k ok hk MQ ?_ tv;by_cases A8:j=k
    ·subst A8;exact abE
    ·rw[getD_set_ne true A8]at UR;exact UR
   ·rw[Array.setIfInBounds_comm _ _ uq];exact S2 hK _ _ _ _ (akq s J jh hj1 x xj (λk hk=>a2 k hk)) H2
def abM(M:Array Nat)(ops:Array Oper)(k:Nat):Bool:=
 match ops[k]? with
 |none=>false
 |some oi=>(List.range ops.size).all λj=>decide (j<=k)||(M.getD j 0).testBit k||match ops[j]? with
  |some oj=>oi.apart ops oj&&An false oi oj
  |none=>true
def Ce(M:Array Nat)(ops:Array Oper):Nat->Nat->Array Bool->Bool
 |0,_,listed=>(Region.ready .any ops listed).isEmpty
 |fuel+1,k,listed=>(Region.ready .any ops listed).contains k&&abM M ops k&&Ce M ops fuel (k+1) (listed.setIfInBounds k true)
def qx(ops:Array Oper):Bool:=oc (Region.before ops) ops&&Ce (Region.before ops) ops ops.size 0 (Array.replicate ops.size false)
theorem T1{K K':St->Prop}(hK:rm K')(DK:∀s,K s->K' s){M:Array Nat}(hM:oc M ops=true):∀(l:apf Oper)(k:Nat)(listed:Array Bool)(s:St),(∀j,l[j]?=ops[k+j]?)->(∀j,j<k->listed.getD j true=true)->Dn ops listed->
 Ce M ops l.length k listed=true->Dx P ops l K s->kN false P ops K' l.length listed s
 |[],_,_,_,_,_,_,hB,h=>⟨by simpa [Ce]using hB,DK _ h⟩
 |o::l,k,listed,s,hl,kA,hD,hB,h=>by
  have h0:ops[k]?=some o:=by simpa using (hl 0).symm
  simp only[aou,Ce,aot]at hB;obtain⟨⟨hr,hf⟩,dG⟩:=hB;have pZ:k∈Region.ready .any ops listed:=by simpa using hr
  have pv:∀j,l[j]?=ops[k+1+j]?:=λj=>by have:=hl (j+1);simpa [Nat.add_assoc,Nat.add_comm 1 j]using this
  have aef:∀j,j<k+1->(listed.setIfInBounds k true).getD j true=true:=λj hj=>by
   by_cases e:k=j
   ·subst e;rcases Nat.lt_or_ge k listed.size with h'|h'
    ·simp [h']
    ·have:(listed.setIfInBounds k true)[k]?=none:=Array.getElem?_eq_none (by simpa using h');rw[Array.getD_eq_getD_getElem?,this];rfl
   ·rw[getD_set_ne true e];exact kA j (by omega)
  obtain⟨x,J,hy,AL⟩:∃x J,mc false P ops o s x J/\Dx P ops l K ((s.wh J).put o.dst x):=by
   rcases Ha h with⟨g,hd⟩|⟨g,hd⟩
   ·obtain⟨x,J,h2,h3⟩:=Ka hd;exact⟨x,J, .inl ⟨g,h2⟩,h3⟩
   ·exact⟨_,s.h, .inr ⟨g,rfl,rfl⟩,hd⟩
  refine KL hK hM h0 l.length listed s hD (λj oj hj cE qd tv=> ?_) pZ hy (T1 hK DK hM l (k+1) _ _ pv aef (hD.set pZ) dG AL);unfold abM at hf;rw[h0]at hf;simp only[aoR,List.mem_range]at hf;have:=hf j (aoG.1 hj).1;rw[tv,hj]at this;simp only[Bool.or_false,Bool.or_eq_true,aot,decide_eq_true_eq]at this;rcases this with this|this
  ·exfalso;have:=kA j (by omega);rw[this]at qd;cases qd
  ·exact this
def XU(ops:Array Oper):Nat->Array Bool->apf Nat
 |0,_=>[]
 |f+1,listed=>match (Region.ready .any ops listed).find? (λk=>match ops[k]? with|some o=> !(cr o==6)&& !K9 o|none=>false)with
  |some k=>k::XU ops f (listed.setIfInBounds k true)
  |none=>match Region.ready .any ops listed with
   |k::_=>k::XU ops f (listed.setIfInBounds k true)
   |[]=>[]
def E4(m:Bool)(M:Array Nat)(ops:Array Oper):apf Nat->Array Bool->Bool
 |[],listed=>(Region.ready .any ops listed).isEmpty
 |k::l,listed=>(Region.ready .any ops listed).contains k&&(match ops[k]? with
  |none=>false
  |some oi=>(List.range ops.size).all λj=>j==k||listed.getD j true||(M.getD j 0).testBit k||match ops[j]? with
   |some oj=>oi.apart ops oj&&An m oi oj
   |none=>true)&&E4 m M ops l (listed.setIfInBounds k true)
def D4(m:Bool)(ops:Array Oper)(p:apf Nat):Bool:=oc (Region.before ops) ops&&E4 m (Region.before ops) ops p (Array.replicate ops.size false)
def sa(ops:Array Oper):apf Nat->apf Oper
 |[]=>[]
 |k::l=>match ops[k]? with
  |some o=>o::sa ops l
  |none=>sa ops l
theorem aa5{m:Bool}{K K':St->Prop}(hK:rm K')(DK:∀s,K s->K' s){M:Array Nat}(hM:oc M ops=true):∀(l:apf Nat)(listed:Array Bool)(s:St),Dn ops listed->
 E4 m M ops l listed=true->vi m P ops (sa ops l) K s->kN m P ops K' l.length listed s
 |[],_,_,_,hB,h=>⟨by simpa [E4]using hB,DK _ h⟩
 |k::l,listed,s,hD,hB,h=>by
  simp only[E4,aot]at hB;obtain⟨⟨hr,hf⟩,dG⟩:=hB;have pZ:k∈Region.ready .any ops listed:=by simpa using hr
  obtain⟨_,o,h0,_⟩:=mem_ready.1 pZ;rw[h0]at hf;simp only[aoR,List.mem_range]at hf;simp only[sa,h0]at h;obtain⟨x,J,hy,AL⟩:∃x J,mc m P ops o s x J/\vi m P ops (sa ops l) K ((s.wh J).put o.dst x):=by
   rcases Ha h with⟨g,hd⟩|⟨g,hd⟩
   ·obtain⟨x,J,h2,h3⟩:=Ka hd;exact⟨x,J, .inl ⟨g,h2⟩,h3⟩
   ·exact⟨_,s.h, .inr ⟨g,rfl,rfl⟩,hd⟩
  refine KL hK hM h0 l.length listed s hD (λj oj hj cE qd tv=> ?_) pZ hy (aa5 hK DK hM l _ _ (hD.set pZ) dG AL);have:=hf j (aoG.1 hj).1;rw[tv,qd,hj]at this;simp only[Bool.or_false,Bool.or_eq_true,aot,beq_iff_eq]at this;rcases this with this|this
  ·exact absurd this cE
  ·exact this
end
section
variable {P:api} {r:aph Nat} {n N0:Nat} {G:Gh} {w:apk} {a:Act} {s:St} {o:Oper} {Q:Exit->St->Prop}
theorem cV.drew(hs:cV G w a s):bM G.N G w G {w with drawn:=w.drawn+1}/\cV G {w with drawn:=w.drawn+1} a s:=by
 have hE:bM G.N G w G {w with drawn:=w.drawn+1}:=⟨aoC _,λ_ _ h=>h,λ_ _ _=>rfl,λ_ _=>rfl,λ_ _=> .inl ⟨rfl,rfl⟩,zsame rfl,λ_ _=>rfl,rfl,rfl,rfl,λ_ _ h=> .inl h⟩;have hi:bN G {w with drawn:=w.drawn+1} s.h:=⟨hs.inv.len,hs.inv.z,hs.inv.S,λn B hB=>dZ.keep (hs.inv.lt hB) hE (aoC _) ⟨rfl,rfl,rfl⟩ (λ_ _=>⟨rfl,λ_ h=>h⟩) (hs.inv.c7 n B hB),hs.inv.inj,hs.inv.gl.keep hE⟩;exact⟨hE,hs.move hE (aoC _) hi⟩
theorem ag6{m:Bool}{x:AV}{J:apf aq}(h:eC m P o (ev s) s.h x J):jE P o (ev s) s.h (λx' h'=>(s.wh h').put o.dst x'=(s.wh J).put o.dst x):=abG h _ rfl
theorem Cb{m:Bool}{ops:Array Oper}{K:St->Prop}{Q':Exit->Act->apk->Prop}(hQ:∀a' w',jf N0 G w K a' w'->Q' .normal a' w'):∀(fuel:Nat)(listed:Array Bool)(G1:Gh)(w1:apk)(a:Act)(s:St),
 bM N0 G w G1 w1->N0<=G1.N->cV G1 w1 a s->kN m P ops K fuel listed s->wpAnyIn (WF r) n P .any ops Q' fuel listed a w1
 |0,_,G1,w1,a,s,hE,hN,hs,h=>⟨h.1,hQ _ _ ⟨G1,s,hE,hN,hs,h.2⟩⟩
 |fuel+1,listed,G1,w1,a,s,hE,hN,hs,h=>by
  refine⟨λh0=>hQ _ _ ⟨G1,s,hE,hN,hs,h.1 h0⟩,λi hi=> ?_⟩;obtain⟨_,o,ho,_⟩:=mem_ready.1 hi;obtain⟨x,J,hy,AL⟩:=h.2 i hi o ho;unfold wpOpIn;rw[ho];simp only;rcases hy with⟨g,hc⟩|⟨g,rfl,rfl⟩
  ·have hg:=N9 hs g;split at hg
   ·rename_i hw
    rw[if_pos hw];refine Oper.wpIn_mono (λa' w' hn=> ?_) ((ag6 hc).elim (λk=>US (K:=λs'=>s'=(s.wh J).put o.dst x) (r:=r) (n:=n) (N0:=N0) (Q:=Q') hs hN k) fun⟨_,va,x',h',p,k1,k2,k3⟩=>V7 (K:=λs'=>s'=(s.wh J).put o.dst x) (r:=r) (n:=n) (N0:=N0) (Q:=Q') hs hN ⟨va,x',h',p,k1,k2,k3⟩);obtain⟨G2,s2,e2,n2,wz,rfl⟩:=hn;exact Cb hQ fuel _ G2 w' a' _ (hE.trans e2) n2 wz AL
   ·exact hg.elim
  ·have hg:=N9 hs g;split at hg
   ·exact hg.elim
   ·rename_i hw
    rw[if_neg hw];exact⟨λ_ _=>trivial,Cb hQ fuel _ G1 w1 _ _ hE hN (hs.put (.d (.v undef)) o.dst) AL⟩
theorem Ib{id:Nat}{l:apf Oper}(hm:P.follows .mixedOrders=true)(hl:qx l.toArray=true)(h:Dx P l.toArray l (Q .normal) s):bA P r N0 (.region id l.toArray true) Q s:=by
 constructor
 intro G w a n hs hN;unfold qx at hl;rw[aot]at hl;obtain⟨d1,d2⟩:=hs.drew;refine wpIn_region_any hm ?_;have hC:rm (λs=>∃s',js s' s/\Q .normal s'):=λs s' e ⟨s0,e0,h0⟩=>⟨s0,e0.trans e,h0⟩;have:=T1 (K:=Q .normal) hC (λs h=>⟨s,js.refl s,h⟩) hl.1 l 0 (Array.replicate l.toArray.size false) s (by simp) (λj hj=>absurd hj (aoT _)) (λj o ho hj=>by
  exfalso;rw[Array.getD_eq_getD_getElem?]at hj;rw[Array.getElem?_replicate]at hj;split at hj<;>simp at hj) (by simpa using hl.2) h
 refine Cb (G:=G) (w:=w) (N0:=N0) (K:=λs=>∃s',js s' s/\Q .normal s') (λa' w' hn=> ?_) l.toArray.size _ G _ a s (d1.less hN) hN d2 (by simpa using this);obtain⟨G',s',x1,x2,x3,s0,e0,x4⟩:=hn;refine⟨G',s0,x1,x2,⟨x3.size.trans e0.n.symm,λi=>by rw[e0.t i];exact x3.tmp i,by rw[e0.h];exact x3.inv,x3.df⟩,x4⟩
theorem Ti{m:Bool}{id:Nat}{ops:Array Oper}(p:apf Nat)(hm:P.follows .mixedOrders=true)(hz:p.length=ops.size)(hl:D4 m ops p=true)(h:vi m P ops (sa ops p) (Q .normal) s):bA P r N0 (.region id ops true) Q s:=by
 constructor
 intro G w a n hs hN;unfold D4 at hl;rw[aot]at hl;obtain⟨d1,d2⟩:=hs.drew;refine wpIn_region_any hm ?_;have hC:rm (λs=>∃s',js s' s/\Q .normal s'):=λs s' e ⟨s0,e0,h0⟩=>⟨s0,e0.trans e,h0⟩;have:=aa5 (K:=Q .normal) hC (λs h=>⟨s,js.refl s,h⟩) hl.1 p (Array.replicate ops.size false) s (λj o ho hj=>by
  exfalso;rw[Array.getD_eq_getD_getElem?]at hj;rw[Array.getElem?_replicate]at hj;split at hj<;>simp at hj) hl.2 h
 rw[hz]at this;refine Cb (G:=G) (w:=w) (N0:=N0) (K:=λs=>∃s',js s' s/\Q .normal s') (λa' w' hn=> ?_) ops.size _ G _ a s (d1.less hN) hN d2 this;obtain⟨G',s',x1,x2,x3,s0,e0,x4⟩:=hn;refine⟨G',s0,x1,x2,⟨x3.size.trans e0.n.symm,λi=>by rw[e0.t i];exact x3.tmp i,by rw[e0.h];exact x3.inv,x3.df⟩,x4⟩
end
def aoh(want:Bool):AV->Bool
 | .d (.v (.bool b))=>b==want
 |_=>false
def gNo(want:Bool):AV->Bool
 | .d (.v (.bool b))=>b== !want
 | .d (.v (.tuple _))=>true
 |_=>false
def acj(t:apf (Nat×AV)):aph Nat->AV
 |some d=>bn t d
 |none=> .dead
def vy(ops:Array Oper)(j:Nat)(t:apf (Nat×AV)):AV:=acj t ((ops[j]?).bind (·.dst))
section
variable {P:api} {ops:Array Oper} {dst:aph Nat} {op:Op} {ty:TypeId} {pos:String} {after:Array Edge} {j:Nat} {w:Bool} {s:St} {rest:apf Oper} {K:St->Prop} {y n:Prop}
theorem IP:iX ops ⟨dst,op,ty,pos,after,some (j,w)⟩ s y n=(match vy ops j s.t with
 | .d (.v (.bool b))=>(b=w->y)/\(b= !w->n)
 | .d (.v (.tuple _))=>n
 |_=>False):=by
 show(match (ops[j]?).bind (·.dst)with
  |some d=>match bn s.t d with
   | .d (.v (.bool b))=>(b=w->y)/\(b= !w->n)
   | .d (.v (.tuple _))=>n
   |_=>False
  |none=>False)=_
 unfold vy;cases (ops[j]?).bind (·.dst)<;>rfl
end
section
variable {P:api} {r:aph Nat} {n N0:Nat} {G:Gh} {w:apk} {a:Act} {s:St} {o:Oper} {Q:Exit->St->Prop}
theorem bE{K:St->Prop}(h:K s):iU K Q .normal s:=h
theorem kW{K:St->Prop}{i:Nat}(h:Q (.exit i) s):iU K Q (.exit i) s:=h
theorem c9{K:St->Prop}(h:Q .ret s):iU K Q .ret s:=h
theorem iK{id:Nat}(h:Q .normal s):rb id Q .normal s:=h
theorem fa{id:Nat}(h:Q .ret s):rb id Q .ret s:=h
theorem rE{id i:Nat}(e:(i==id)=true)(h:Q .normal s):rb id Q (.exit i) s:=by simpa only[rb,e,cond_true]using h
theorem ai9{id i:Nat}(e:(i==id)=false)(h:Q (.exit i) s):rb id Q (.exit i) s:=by simpa only[rb,e,cond_false]using h
theorem lC{c:Operand}{x y:Code}(hc:ev s c= .d (.v (.bool true)))(h:bA P r N0 x Q s):bA P r N0 (.cond c x y) Q s:=Pj hc (λ_=>h) λh=>Bool.noConfusion h
theorem lP{c:Operand}{x y:Code}(hc:ev s c= .d (.v (.bool false)))(h:bA P r N0 y Q s):bA P r N0 (.cond c x y) Q s:=Pj hc (λh=>Bool.noConfusion h) λ_=>h
theorem eK{c:Operand}{x y:Code}{t:Bool}(hc:ev s c= .d (.v (.bool t)))(e:t=true)(h:bA P r N0 x Q s):bA P r N0 (.cond c x y) Q s:=lC (by rw[hc,e]) h
theorem eH{c:Operand}{x y:Code}{t:Bool}(hc:ev s c= .d (.v (.bool t)))(e:t=false)(h:bA P r N0 y Q s):bA P r N0 (.cond c x y) Q s:=lP (by rw[hc,e]) h
theorem Mh{c:Code}(k:Nat)(e:TypeId)(sz:Nat)(xs:apf (apf D))(hx:bn s.t k= .full xs\/(bn s.t k= .d (.v (.slice none 0 0))/\xs=[]))
 (h:bA P r N0 c Q ⟨s.n,(k, .own s.h.length xs)::s.t,s.h++[.front e sz xs.length]⟩):bA P r N0 c Q s:=by
 constructor
 intro G w a n hs hN;have hp:dh G.S w (a.tmps.getD k undef) (.sl xs)/\∃A,a.tmps.getD k undef= .slice A xs.length xs.length:=by
  have hv:=hs.tmp k;revert hv;generalize a.tmps.getD k undef=u;intro hv;rcases hx with hx|⟨hx,rfl⟩
  ·rw[hx]at hv;cases hv with|full _ hp hf=>exact⟨hp,hf⟩
  ·rw[hx]at hv;rw[hv.val];exact⟨CF,none,rfl⟩
 obtain⟨a1,a2,a3,a4⟩:=PO hs.inv hp.1 hp.2 e sz;have cC:cV (G.ib (a.tmps.getD k undef) xs.length) w a ⟨s.n,(k, .own s.h.length xs)::s.t,s.h++[.front e sz xs.length]⟩:=by
  refine⟨hs.size,λi=> ?_,a3,hs.df.keep a1⟩;show aF _ _ _ (bn ((k, .own s.h.length xs)::s.t) i);rw[k8];split
  ·next e=>exact e▸a4
  ·exact(hs.tmp i).keep a1 a2
 exact wpIn_mono (h.run _ w a n cC (aoJ hN a2)) λ_ _ _ hn=>hn.trans (a1.less hN)
end
theorem Vc{G:Gh}{w:apk}{h:apf aq}{b:Nat}{cs cB:apf AV}(hi:bN G w h)(hb:h[b]?=some (.cells cs))(hl:cB.length=cs.length)
 (hc:∀(vs:Array apj)(T:TypeId),w.heap[G.aR b]?=some (.cells vs T (0,0))->∀(i:Nat)(u:apj)(c:AV),vs[i]?=some u->cB[i]?=some c->aF G w u c):bN G w (h.set b (aq.cells cB)):=by
 have ho:∀n,bK (h.set b (aq.cells cB)) G n=bK h G n:=λn=>by
  have aN:=(aor.1 hb).1;unfold bK;by_cases e:b=n
  ·subst e;rw[aoU aN,hb];rfl
  ·rw[aoZ e]
 refine⟨by rw[List.length_set];exact hi.len,hi.z,hi.S,λn B hB=> ?_,λm n x hm hn=>hi.inj m n x (by rw[<-ho];exact hm) (by rw[<-ho];exact hn),hi.gl⟩;have aN:=(aor.1 hb).1;by_cases e:b=n
 ·subst e;rw[aoU aN]at hB;cases hB
  obtain⟨J,h2,vs,T,h3,h4,_⟩:=hi.c7 _ _ hb;exact⟨J,h2,vs,T,h3,h4.trans hl.symm,hc vs T h3⟩
 ·rw[aoZ e]at hB;exact hi.c7 n B hB
theorem ajw{P:api}{r:aph Nat}{N0:Nat}{s:St}{Q:Exit->St->Prop}{c:Code}(b i:Nat)(e:TypeId)(sz:Nat)(xs:apf (apf D)){cs:apf AV}(hb:s.h[b]?=some (.cells cs))(hx:cs[i]?=some (.full xs)\/(cs[i]?=some (.d (.v (.slice none 0 0)))/\xs=[]))
 (h:bA P r N0 c Q ⟨s.n,s.t,(s.h++[aq.front e sz xs.length]).set b (aq.cells (cs.set i (AV.own s.h.length xs)))⟩):bA P r N0 c Q s:=by
 constructor
 intro G w a n hs hN;obtain⟨J,h2,vs,T,h3,h4,h5⟩:=hs.inv.c7 _ _ hb;have hi:i<cs.length:=by rcases hx with hx|⟨hx,_⟩<;>exact(aor.1 hx).1
 have hv:vs[i]?=some vs[i]:=aoN (by omega);have hp:dh G.S w vs[i] (.sl xs)/\∃A,vs[i]= .slice A xs.length xs.length:=by
  rcases hx with hx|⟨hx,rfl⟩
  ·have:=h5 i _ _ hv hx;generalize vs[i]=u at this;cases this with|full _ hp hf=>exact⟨hp,hf⟩
  ·have:=h5 i _ _ hv hx;rw[this.val];exact⟨CF,none,rfl⟩
 obtain⟨a1,a2,a3,a4⟩:=PO hs.inv hp.1 hp.2 e sz;have aN:=(aor.1 hb).1;have cC:cV (G.ib vs[i] xs.length) w a ⟨s.n,s.t,(s.h++[aq.front e sz xs.length]).set b (aq.cells (cs.set i (AV.own s.h.length xs)))⟩:=by
  refine⟨hs.size,λj=>(hs.tmp j).keep a1 a2,Vc a3 (by rw[aoB aN];exact hb) (by rw[List.length_set]) λfS T' B5 j u c hu hc=> ?_,hs.df.keep a1⟩;have e1:(G.ib vs[i] xs.length).aR b=G.aR b:=by
   have:b≠G.N:=by have:=hs.inv.len;omega
   simp [Gh.ib]
  rw[e1,h3]at B5;cases B5
  by_cases e2:i=j
  ·subst e2;rw[aoU hi]at hc;cases hc
   rw[hv]at hu;cases hu
   exact a4
  ·rw[aoZ e2]at hc;exact(h5 j u c hu hc).keep a1 a2
 exact wpIn_mono (h.run _ w a n cC (aoJ hN a2)) λ_ _ _ hn=>hn.trans (a1.less hN)
def AV.Le(x y:AV):Prop:=∀(G:Gh)(w:apk)(u:apj),aF G w u x->aF G w u y
theorem AV.Le.refl(x:AV):AV.Le x x:=λ_ _ _ h=>h
theorem AV.Le.full(xs:apf (apf D)):AV.Le (.full xs) (.d (.sl xs)):=λ_ _ _ h=>by
 cases h with|full _ hp _=>exact .d hp
theorem AV.Le.nil:AV.Le (.d (.v (.slice none 0 0))) (.d (.sl [])):=λ_ _ _ h=>by
 rw[h.val];exact .d CF
theorem AV.Le.agg{cs ds:apf AV}(hl:cs.length=ds.length)(h:∀(i:Nat)(c d:AV),cs[i]?=some c->ds[i]?=some d->AV.Le c d):AV.Le (.agg cs) (.agg ds):=λG w u hu=>by
 cases hu with
 |agg vs _ pv hv=>
  refine .agg vs ds (pv.trans hl) λi u d hui hd=> ?_;have aN:i<cs.length:=by rw[hl];exact(aor.1 hd).1
  exact h i _ d (aov aN) hd G w u (hv i u _ hui (aov aN))
set_option linter.unusedSimpArgs false
set_option linter.unusedVariables false
def rn:apf Nat->Nat->Nat->Nat
 |[],base,i=>base+i
 |j::_,_,0=>j
 |_::l,base,i+1=>rn l base i
theorem Bu:∀(l:apf Nat)(base i:Nat)(j:Nat),l[i]?=some j->rn l base i=j
 |[],_,i,j,h=>by simp at h
 |a::l,base,0,j,h=>by simpa [rn]using h
 |a::l,base,i+1,j,h=>by rw[rn];exact Bu l base i j (by simpa using h)
theorem Jq:∀(l:apf Nat)(base i:Nat),l.length<=i->rn l base i=base+(i-l.length)
 |[],base,i,_=>by simp [rn]
 |a::l,base,0,h=>by simp at h
 |a::l,base,i+1,h=>by rw[rn,Jq l base i (by simpa using h)];simp
mutual
def AV.aK(σ:Nat->Nat):AV->AV
 | .ptr n off=> .ptr (σ n) off
 | .own n xs=> .own (σ n) xs
 | .row n off len cap k=> .row (σ n) off len cap k
 | .mp n=> .mp (σ n)
 | .cn n=> .cn (σ n)
 | .vec n o len L k=> .vec (σ n) o len L k
 | .dn n i j L k=> .dn (σ n) i j L k
 | .agg cs=> .agg (AV.fX σ cs)
 | .bg cs=> .bg (AV.fX σ cs)
 | .fn f cs=> .fn f (AV.fX σ cs)
 | .d x=> .d x
 | .bj xs i off=> .bj xs i off
 | .full xs=> .full xs
 | .hid c=> .hid c
 | .dead=> .dead
def AV.fX(σ:Nat->Nat):apf AV->apf AV
 |[]=>[]
 |x::l=>x.aK σ::AV.fX σ l
end
theorem gQ(σ:Nat->Nat):∀l,AV.fX σ l=l.map (AV.aK σ)
 |[]=>by simp [AV.fX]
 |x::l=>by simp [AV.fX,gQ σ l]
def aq.aK(σ:Nat->Nat):aq->aq
 | .cells cs=> .cells (AV.fX σ cs)
 | .lp ls p as bd cs=> .lp ls p as bd (AV.fX σ cs)
 | .it sn cs=> .it sn (AV.fX σ cs)
 | .eP T cs=> .eP T (AV.fX σ cs)
 | .vec e k cs=> .vec e k (cs.map (AV.fX σ))
 | .front e k len=> .front e k len
 | .iB e b=> .iB e b
 | .map kv=> .map kv
 | .iS kv=> .iS kv
 | .gone=> .gone
def putAll:apf Nat->apf aq->apf aq->apf aq
 |[],Bs,h=>h++Bs
 |_::_,[],h=>h
 |i::l,B::Bs,h=>putAll l Bs (h.set i B)
structure rj(σ:Nat->Nat)(G G2:Gh):Prop where
 lt:∀n,n<G.N->σ n<G2.N
 aR:∀n,n<G.N->G2.aR (σ n)=G.aR n
 sg:∀n,n<G.N->G2.sg (σ n)=G.sg n
 fl:∀n,n<G.N->G2.fl (σ n)=G.fl n
 ow:∀n,n<G.N->G2.ow (σ n)=G.ow n
 S:∀b o,G2.S b o↔G.S b o
theorem dh.tF{S S':Nat->Nat->Prop}{w:apk}(hS:∀b o,S b o->S' b o){u:apj}{x:D}(h:dh S w u x):dh S' w u x:=h.keep hS (λ_ _ _=>rfl)
theorem aF.aK{σ:Nat->Nat}{G G2:Gh}{w:apk}(hR:rj σ G G2){u:apj}{x:AV}(h:aF G w u x):aF G2 w u (x.aK σ):=by
 have hS:∀b o,G.S b o->G2.S b o:=λb o h=>(hR.S b o).2 h;have fG:∀(vs:Array apj)(cs:apf AV),(∀(i:Nat)(u:apj)(c:AV),vs[i]?=some u->cs[i]?=some c->aF G2 w u (c.aK σ))->∀(i:Nat)(u:apj)(c:AV),vs[i]?=some u->(AV.fX σ cs)[i]?=some c->aF G2 w u c:=by
  intro vs cs ih i u c hu hc;rw[gQ,aoy]at hc;cases hx:cs[i]? with
  |none=>rw[hx]at hc;cases hc
  |some x=>rw[hx]at hc;cases hc;exact ih i u x hu hx
 induction h with
 |agg vs cs hl _ ih=>rw[AV.aK];exact .agg vs _ (by rw[gQ,aow];exact hl) (fG vs cs ih)
 |bg vs cs hl _ ih=>rw[AV.aK];exact .bg vs _ (by rw[gQ,aow];exact hl) (fG vs cs ih)
 |fn f vs cs hl _ ih=>rw[AV.aK];exact .fn f vs _ (by rw[gQ,aow];exact hl) (fG vs cs ih)
 |d h=>rw[AV.aK];exact .d (h.tF hS)
 |full xs hp hf=>rw[AV.aK];exact .full xs (hp.tF hS) hf
 |ptr n off h=>rw[AV.aK,<-hR.aR n h];exact .ptr _ off (hR.lt n h)
 |row n off len cap k h hl hm=>rw[AV.aK,<-hR.aR n h];exact .row _ off len cap k (hR.lt n h) hl hm
 |mp n h=>rw[AV.aK,<-hR.aR n h];exact .mp _ (hR.lt n h)
 |cn n h=>rw[AV.aK,<-hR.aR n h];exact .cn _ (hR.lt n h)
 |own n xs h hp hle hf=>rw[AV.aK];exact .own _ xs (hR.lt n h) (hp.tF hS) (by rw[hR.fl n h];exact hle) (by rw[hR.fl n h,hR.sg n h];exact hf)
 |vec n o len L k h hs hL hf=>rw[AV.aK];exact .vec _ o len L k (hR.lt n h) hs (by rw[hR.fl n h];exact hL) (by rw[hR.fl n h,hR.sg n h];exact hf)
 |dn n i j L k h hs hL hf=>rw[AV.aK];exact .dn _ i j L k (hR.lt n h) hs (by rw[hR.fl n h];exact hL) (by rw[hR.fl n h,hR.sg n h];exact hf)
 |bj xs i off b o u x hx qL hu=>rw[AV.aK];exact .bj xs i off b o u x hx (λj hj=>⟨hS _ _ (qL j hj).1,(qL j hj).2⟩) (λj d hd=>(hu j d hd).tF hS)
 |hid h J=>rw[AV.aK];exact .hid (h.keep hS (λ_ _ _=>rfl)) J
 |dead u=>rw[AV.aK];exact .dead u
theorem aF.rT{σ:Nat->Nat}{G G2:Gh}{w:apk}(hR:rj σ G G2){u:apj}{y:AV}(h:aF G2 w u y):∀x:AV,x.aK σ=y->x.aE G.N=true->aF G w u x:=by
 have hS:∀b o,G2.S b o->G.S b o:=λb o h=>(hR.S b o).1 h;have lt:∀n,(!cm G.N n)=true->n<G.N:=λn h=>by rw[Bool.not_eq_true',<-Bool.not_eq_true,da]at h;omega
 have fG:∀(vs:Array apj)(cs xs:apf AV),(∀(i:Nat)(u:apj)(c:AV),vs[i]?=some u->cs[i]?=some c->∀x:AV,x.aK σ=c->x.aE G.N=true->aF G w u x)->AV.fX σ xs=cs->AV.kE G.N xs=true->∀(i:Nat)(u:apj)(c:AV),vs[i]?=some u->xs[i]?=some c->aF G w u c:=by
  intro vs cs xs ih e hb i u c hu hc;subst e;rw[mS,aoR]at hb;exact ih i u (c.aK σ) hu (by rw[gQ,aoy,hc];rfl) c rfl (hb c (aoE hc))
 induction h with
 |agg vs cs hl _ ih=>
  intro x e hb;cases x<;>simp only[AV.aK,AV.agg.injEq,reduceCtorEq]at e
  next xs=>
   rw[AV.aE]at hb;exact .agg vs xs (by rw[hl,<-e,gQ,aow]) (fG vs cs xs ih e hb)
 |bg vs cs hl _ ih=>
  intro x e hb;cases x<;>simp only[AV.aK,AV.bg.injEq,reduceCtorEq]at e
  next xs=>
   rw[AV.aE]at hb;exact .bg vs xs (by rw[hl,<-e,gQ,aow]) (fG vs cs xs ih e hb)
 |fn f vs cs hl _ ih=>
  intro x e hb;cases x<;>simp only[AV.aK,AV.fn.injEq,reduceCtorEq]at e
  next g xs=>
   obtain⟨rfl,e⟩:=e;rw[AV.aE]at hb;exact .fn _ vs xs (by rw[hl,<-e,gQ,aow]) (fG vs cs xs ih e hb)
 |d h=>
  intro x e hb;cases x<;>simp only[AV.aK,AV.d.injEq,reduceCtorEq]at e
  next y=>subst e;exact .d (h.tF hS)
 |full xs hp hf=>
  intro x e hb;cases x<;>simp only[AV.aK,AV.full.injEq,reduceCtorEq]at e
  next y=>subst e;exact .full y (hp.tF hS) hf
 |ptr n off h=>
  intro x e hb;cases x<;>simp only[AV.aK,AV.ptr.injEq,reduceCtorEq]at e
  next m o=>
   obtain⟨e1,rfl⟩:=e;rw[AV.aE]at hb;have hm:=lt _ hb;rw[<-e1,hR.aR _ hm];exact .ptr _ _ hm
 |row n off len cap k h hl gk=>
  intro x e hb;cases x<;>simp only[AV.aK,AV.row.injEq,reduceCtorEq]at e
  next m o l c q=>
   obtain⟨e1,rfl,rfl,rfl,rfl⟩:=e;rw[AV.aE]at hb;have hm:=lt _ hb;rw[<-e1,hR.aR _ hm];exact .row _ _ _ _ _ hm hl gk
 |mp n h=>
  intro x e hb;cases x<;>simp only[AV.aK,AV.mp.injEq,reduceCtorEq]at e
  next m=>
   rw[AV.aE]at hb;have hm:=lt _ hb;rw[<-e,hR.aR _ hm];exact .mp _ hm
 |cn n h=>
  intro x e hb;cases x<;>simp only[AV.aK,AV.cn.injEq,reduceCtorEq]at e
  next m=>
   rw[AV.aE]at hb;have hm:=lt _ hb;rw[<-e,hR.aR _ hm];exact .cn _ hm
 |own n xs h hp hle hf=>
  intro x e hb;cases x<;>simp only[AV.aK,AV.own.injEq,reduceCtorEq]at e
  next m l=>
   obtain⟨e1,rfl⟩:=e;rw[AV.aE]at hb;have hm:=lt _ hb;rw[<-e1]at hle hf;exact .own _ _ hm (hp.tF hS) (by rw[<-hR.fl _ hm];exact hle) (by rw[<-hR.fl _ hm,<-hR.sg _ hm];exact hf)
 |vec n o len L k h hs hL hf=>
  intro x e hb;cases x<;>simp only[AV.aK,AV.vec.injEq,reduceCtorEq]at e
  next m a1 a2 a3 a4=>
   obtain⟨e1,rfl,rfl,rfl,rfl⟩:=e;rw[AV.aE]at hb;have hm:=lt _ hb;rw[<-e1]at hL hf;exact .vec _ _ _ _ _ hm hs (by rw[<-hR.fl _ hm];exact hL) (by rw[<-hR.fl _ hm,<-hR.sg _ hm];exact hf)
 |dn n i j L k h hs hL hf=>
  intro x e hb;cases x<;>simp only[AV.aK,AV.dn.injEq,reduceCtorEq]at e
  next m a1 a2 a3 a4=>
   obtain⟨e1,rfl,rfl,rfl,rfl⟩:=e;rw[AV.aE]at hb;have hm:=lt _ hb;rw[<-e1]at hL hf;exact .dn _ _ _ _ _ hm hs (by rw[<-hR.fl _ hm];exact hL) (by rw[<-hR.fl _ hm,<-hR.sg _ hm];exact hf)
 |bj xs i off b o u y hx qL hu=>
  intro x e hb;cases x<;>simp only[AV.aK,AV.bj.injEq,reduceCtorEq]at e
  next a1 a2 a3=>
   obtain⟨rfl,rfl,rfl⟩:=e;exact .bj _ _ _ b o u y hx (λj hj=>⟨hS _ _ (qL j hj).1,(qL j hj).2⟩) (λj d hd=>(hu j d hd).tF hS)
 |hid h J=>
  intro x e hb;cases x<;>simp only[AV.aK,AV.hid.injEq,reduceCtorEq]at e
  next c=>subst e;exact .hid (h.keep hS (λ_ _ _=>rfl)) J
 |dead u=>
  intro x e hb;cases x<;>simp only[AV.aK,reduceCtorEq]at e
  exact .dead u
theorem Sv{σ:Nat->Nat}{G G2:Gh}(hR:rj σ G G2){n:Nat}(hn:n<G.N)(B:aq):(B.aK σ).dP G2 (σ n)=B.dP G n:=by
 cases B<;>simp only[aq.aK,aq.dP,hR.aR n hn,hR.ow n hn]
theorem dZ.aK{σ:Nat->Nat}{G G2:Gh}{w:apk}(hR:rj σ G G2){n:Nat}(hn:n<G.N){B:aq}(hz:∀b,B.dP G n=some b->¬G2.Z b)(h:dZ G w n B):dZ G2 w (σ n) (B.aK σ):=by
 have hS:∀b o,¬G.S b o->¬G2.S b o:=λb o h h2=>h ((hR.S b o).1 h2);cases B with
 |gone=>trivial
 |cells cs=>
  obtain⟨J,h2,vs,T,h3,h4,h5⟩:=h;rw[aq.aK];refine⟨by rw[hR.aR n hn];exact hz _ rfl,by rw[hR.aR n hn];exact λo=>hS _ _ (h2 o),vs,T,by rw[hR.aR n hn];exact h3,by rw[gQ,aow];exact h4,λi u c hu hc=> ?_⟩;rw[gQ,aoy]at hc;cases hx:cs[i]? with
  |none=>rw[hx]at hc;cases hc
  |some x=>rw[hx]at hc;cases hc;exact(h5 i u x hu hx).aK hR
 |lp ls p as bd cs=>
  obtain⟨J,h2,fn,vs,T,h3,h4,h5⟩:=h;rw[aq.aK];refine⟨by rw[hR.aR n hn];exact hz _ rfl,by rw[hR.aR n hn];exact λo=>hS _ _ (h2 o),fn,vs,T,by rw[hR.aR n hn];exact h3,by rw[gQ,aow];exact h4,λi u c hu hc=> ?_⟩;rw[gQ,aoy]at hc;cases hx:cs[i]? with
  |none=>rw[hx]at hc;cases hc
  |some x=>rw[hx]at hc;cases hc;exact(h5 i u x hu hx).aK hR
 |it sn cs=>
  obtain⟨J,h2,fn,vs,T,h3,h4,h5⟩:=h;rw[aq.aK];refine⟨by rw[hR.aR n hn];exact hz _ rfl,by rw[hR.aR n hn];exact λo=>hS _ _ (h2 o),fn,vs,T,by rw[hR.aR n hn];exact h3,by rw[gQ,aow];exact h4,λi u c hu hc=> ?_⟩;rw[gQ,aoy]at hc;cases hx:cs[i]? with
  |none=>rw[hx]at hc;cases hc
  |some x=>rw[hx]at hc;cases hc;exact(h5 i u x hu hx).aK hR
 |eP T0 cs=>
  obtain⟨J,h2,fn,vs,T,h3,h4,h5⟩:=h;rw[aq.aK];refine⟨by rw[hR.aR n hn];exact hz _ rfl,by rw[hR.aR n hn];exact λo=>hS _ _ (h2 o),fn,vs,T,by rw[hR.aR n hn];exact h3,by rw[gQ,aow,hR.aR n hn];exact h4,λi u c hu hc=> ?_⟩;rw[gQ,aoy]at hc;cases hx:cs[i]? with
  |none=>rw[hx]at hc;cases hc
  |some x=>rw[hx]at hc;cases hc;exact(h5 i u x hu hx).aK hR
 |map kv=>
  obtain⟨J,h2,es,c,h3,h4⟩:=h;exact⟨by rw[hR.aR n hn];exact hz _ rfl,by rw[hR.aR n hn];exact λo=>hS _ _ (h2 o),es,c,by rw[hR.aR n hn];exact h3,h4.keep (λb o h=>(hR.S b o).2 h) (λ_ _ _=>rfl)⟩
 |iS kv=>
  obtain⟨J,h2,es,c,h3,h4⟩:=h;exact⟨by rw[hR.aR n hn];exact hz _ rfl,by rw[hR.aR n hn];exact λo=>hS _ _ (h2 o),es,c,by rw[hR.aR n hn];exact h3,h4.keep (λb o h=>(hR.S b o).2 h) (λ_ _ _=>rfl)⟩
 |iB e b=>
  obtain⟨J,hm,h2⟩:=h;refine⟨(hR.fl n hn).trans J,hm,?_⟩;rcases h2 with⟨h2,h0,A,h3⟩|⟨g,cap,cur,h2,h3,h4,h5,h6,h7,h8,h9,bG⟩
  ·exact .inl ⟨(hR.ow n hn).trans h2,h0,A,(hR.sg n hn).trans h3⟩
  ·exact .inr ⟨g,cap,cur,(hR.ow n hn).trans h2,(hR.sg n hn).trans h3,hz g h2,h5,h6,h7,h8,λo=>hS _ _ (h9 o),bG⟩
 |front e k len=>
  obtain⟨J,hm,h2⟩:=h;refine⟨(hR.fl n hn).trans J,hm,?_⟩;rcases h2 with⟨h2,A,h3⟩|⟨g,cap,cur,h2,h3,h4,h5,h6,h7,h8,h9⟩
  ·exact .inl ⟨(hR.ow n hn).trans h2,A,(hR.sg n hn).trans h3⟩
  ·exact .inr ⟨g,cap,cur,(hR.ow n hn).trans h2,(hR.sg n hn).trans h3,hz g h2,h5,h6,h7,h8,λo ho=>hS _ _ (h9 o ho)⟩
 |vec e k cs=>
  obtain⟨J,hm,hk,h2⟩:=h;rw[aq.aK];refine⟨by rw[aow];exact(hR.fl n hn).trans J,by rw[aow];exact hm,λc hc=> ?_,?_⟩
  ·obtain⟨x,hx,rfl⟩:=List.mem_map.1 hc;rw[gQ,aow];exact hk x hx
  ·rcases h2 with⟨h2,e2,A,h3⟩|⟨g,cap,cur,h2,h3,h4,h5,h6,h7,h8,h9,bG⟩
   ·exact .inl ⟨(hR.ow n hn).trans h2,by rw[e2];rfl,A,(hR.sg n hn).trans h3⟩
   ·refine .inr ⟨g,cap,cur,(hR.ow n hn).trans h2,by rw[aow];exact(hR.sg n hn).trans h3,hz g h2,h5,by rw[aow];exact h6,h7,h8,λo=>hS _ _ (h9 o),λi j c x u hc hx hu=> ?_⟩;rw[aoy]at hc;cases hy:cs[i]? with
    |none=>rw[hy]at hc;cases hc
    |some y=>
     rw[hy]at hc;cases hc
     rw[gQ,aoy]at hx;cases hw:y[j]? with
     |none=>rw[hw]at hx;cases hx
     |some z=>rw[hw]at hx;cases hx;exact(bG i j y z u hy hw hu).aK hR
theorem dZ.rT{σ:Nat->Nat}{G G2:Gh}{w:apk}(hR:rj σ G G2){n:Nat}(hn:n<G.N){B:aq}(hb:B.aE G.N=true)(hz:∀b,B.dP G n=some b->¬G.Z b)(h:dZ G2 w (σ n) (B.aK σ)):dZ G w n B:=by
 have hS:∀b o,¬G2.S b o->¬G.S b o:=λb o h h2=>h ((hR.S b o).2 h2);cases B with
 |gone=>trivial
 |cells cs=>
  rw[aq.aK]at h;obtain⟨J,h2,vs,T,h3,h4,h5⟩:=h;rw[hR.aR n hn]at h2 h3;rw[gQ,aow]at h4;simp only[aq.aE,aoR]at hb;exact⟨hz _ rfl,λo=>hS _ _ (h2 o),vs,T,h3,h4,λi u c hu hc=>aF.rT hR (h5 i u (c.aK σ) hu (by rw[gQ,aoy,hc];rfl)) c rfl (hb c (aoE hc))⟩
 |lp ls p as bd cs=>
  rw[aq.aK]at h;obtain⟨J,h2,fn,vs,T,h3,h4,h5⟩:=h;rw[hR.aR n hn]at h2 h3;rw[gQ,aow]at h4;simp only[aq.aE,aoR]at hb;exact⟨hz _ rfl,λo=>hS _ _ (h2 o),fn,vs,T,h3,h4,λi u c hu hc=>aF.rT hR (h5 i u (c.aK σ) hu (by rw[gQ,aoy,hc];rfl)) c rfl (hb c (aoE hc))⟩
 |it sn cs=>
  rw[aq.aK]at h;obtain⟨J,h2,fn,vs,T,h3,h4,h5⟩:=h;rw[hR.aR n hn]at h2 h3;rw[gQ,aow]at h4;simp only[aq.aE,aoR]at hb;exact⟨hz _ rfl,λo=>hS _ _ (h2 o),fn,vs,T,h3,h4,λi u c hu hc=>aF.rT hR (h5 i u (c.aK σ) hu (by rw[gQ,aoy,hc];rfl)) c rfl (hb c (aoE hc))⟩
 |eP T0 cs=>
  rw[aq.aK]at h;obtain⟨J,h2,fn,vs,T,h3,h4,h5⟩:=h;rw[hR.aR n hn]at h2 h3 h4;rw[gQ,aow]at h4;simp only[aq.aE,aoR]at hb;exact⟨hz _ rfl,λo=>hS _ _ (h2 o),fn,vs,T,h3,h4,λi u c hu hc=>aF.rT hR (h5 i u (c.aK σ) hu (by rw[gQ,aoy,hc];rfl)) c rfl (hb c (aoE hc))⟩
 |map kv=>
  obtain⟨J,h2,es,c,h3,h4⟩:=h;rw[hR.aR n hn]at h2 h3;exact⟨hz _ rfl,λo=>hS _ _ (h2 o),es,c,h3,h4.keep (λb o h=>(hR.S b o).1 h) (λ_ _ _=>rfl)⟩
 |iS kv=>
  obtain⟨J,h2,es,c,h3,h4⟩:=h;rw[hR.aR n hn]at h2 h3;exact⟨hz _ rfl,λo=>hS _ _ (h2 o),es,c,h3,h4.keep (λb o h=>(hR.S b o).1 h) (λ_ _ _=>rfl)⟩
 |iB e b=>
  obtain⟨J,hm,h2⟩:=h;rw[hR.fl n hn]at J;rw[hR.ow n hn,hR.sg n hn]at h2;refine⟨J,hm,?_⟩;rcases h2 with⟨h2,h0,A,h3⟩|⟨g,cap,cur,h2,h3,h4,h5,h6,h7,h8,h9,bG⟩
  ·exact .inl ⟨h2,h0,A,h3⟩
  ·exact .inr ⟨g,cap,cur,h2,h3,hz g h2,h5,h6,h7,h8,λo=>hS _ _ (h9 o),bG⟩
 |front e k len=>
  obtain⟨J,hm,h2⟩:=h;rw[hR.fl n hn]at J;rw[hR.ow n hn,hR.sg n hn]at h2;refine⟨J,hm,?_⟩;rcases h2 with⟨h2,A,h3⟩|⟨g,cap,cur,h2,h3,h4,h5,h6,h7,h8,h9⟩
  ·exact .inl ⟨h2,A,h3⟩
  ·exact .inr ⟨g,cap,cur,h2,h3,hz g h2,h5,h6,h7,h8,λo ho=>hS _ _ (h9 o ho)⟩
 |vec e k cs=>
  rw[aq.aK]at h;obtain⟨J,hm,hk,h2⟩:=h;rw[hR.fl n hn,aow]at J;rw[aow]at hm;rw[hR.ow n hn,hR.sg n hn,aow]at h2;simp only[aq.aE,aoR]at hb;refine⟨J,hm,λc hc=> ?_,?_⟩
  ·have:=hk _ (List.mem_map.2 ⟨c,hc,rfl⟩)
   rwa [gQ,aow]at this
  ·rcases h2 with⟨h2,e2,A,h3⟩|⟨g,cap,cur,h2,h3,h4,h5,h6,h7,h8,h9,bG⟩
   ·exact .inl ⟨h2,List.map_eq_nil_iff.1 e2,A,h3⟩
   ·refine .inr ⟨g,cap,cur,h2,h3,hz g h2,h5,h6,h7,h8,λo=>hS _ _ (h9 o),λi j c x u hc hx hu=> ?_⟩;exact aF.rT hR (bG i j (AV.fX σ c) (x.aK σ) u (by rw[aoy,hc];rfl) (by rw[gQ,aoy,hx];rfl) hu) x rfl (hb c (aoE hc) x (aoE hx))
theorem TU:∀(l:apf Nat)(Bs h:apf aq),l.length<=Bs.length->(putAll l Bs h).length=h.length+(Bs.length-l.length)
 |[],Bs,h,_=>by simp [putAll]
 |j::l,[],h,hl=>by simp at hl
 |j::l,B::Bs,h,hl=>by rw[putAll,TU l Bs _ (by simpa using hl),List.length_set];simp
theorem M0:∀(l:apf Nat)(Bs h:apf aq)(n:Nat),l.length<=Bs.length->n<h.length->n ∉ l->(putAll l Bs h)[n]?=h[n]?
 |[],Bs,h,n,_,hn,_=>by rw[putAll,aoB hn]
 |j::l,[],h,n,hl,_,_=>by simp at hl
 |j::l,B::Bs,h,n,hl,hn,hm=>by
  simp only[aoV,not_or]at hm;rw[putAll,M0 l Bs _ n (by simpa using hl) (by rw[List.length_set];exact hn) hm.2,aoZ (Ne.symm hm.1)]
theorem U5:∀(l:apf Nat)(Bs h:apf aq)(i:Nat),l.length<=Bs.length->l.Nodup->(∀j∈l,j<h.length)->i<Bs.length->(putAll l Bs h)[rn l h.length i]?=Bs[i]?
 |[],Bs,h,i,_,_,_,hi=>by rw[putAll,rn,aoH (ao6 _ _),Nat.add_sub_cancel_left]
 |j::l,[],h,i,hl,_,_,_=>by simp at hl
 |j::l,B::Bs,h,0,hl,hd,aN,_=>by
  rw[List.nodup_cons]at hd;rw[putAll,rn,M0 l Bs _ j (by simpa using hl) (by rw[List.length_set];exact aN j (by simp)) hd.1,aoU (aN j (by simp))];rfl
 |j::l,B::Bs,h,i+1,hl,hd,aN,hi=>by
  rw[List.nodup_cons]at hd;have:=U5 l Bs (h.set j B) i (by simpa using hl) hd.2 (λx hx=>by rw[List.length_set];exact aN x (by simp [hx])) (by simpa using hi);rw[List.length_set]at this;rw[putAll,rn,this];simp
def wD(l:apf Nat)(base n:Nat):aph Nat:=if n∈l then some (l.idxOf n)else if base<=n then some (l.length+(n-base))else none
theorem O7{l:apf Nat}{base:Nat}(hd:l.Nodup)(aN:∀j∈l,j<base)(i:Nat):wD l base (rn l base i)=some i:=by
 unfold wD;by_cases hi:i<l.length
 ·have e:l[i]?=some l[i]:=aov hi;rw[Bu l base i _ e,if_pos (List.getElem_mem _),List.Nodup.idxOf_getElem hd i hi]
 ·rw[Jq l base i (by omega),if_neg (λh=>by have:=aN _ h;omega),if_pos (ao6 _ _)]
  congr 1;omega
theorem Nw{l:apf Nat}{base n i:Nat}(h:wD l base n=some i):rn l base i=n:=by
 unfold wD at h;split at h
 ·rename_i hm
  cases h
  have aN:=List.idxOf_lt_length_of_mem hm;refine Bu l base _ n ?_;rw[aov aN,List.getElem_idxOf]
 ·split at h
  ·cases h
   rw[Jq _ _ _ (by omega)];omega
  ·cases h
theorem aeQ{l:apf Nat}{base n:Nat}(h:wD l base n=none):n<base/\n ∉ l:=by
 unfold wD at h;split at h
 ·cases h
 ·split at h
  ·cases h
  ·rename_i J h2;exact⟨by omega,J⟩
def sy{α:Type}(o:aph Nat)(f:Nat->α)(d:α):α:=match o with|some i=>f i|none=>d
theorem Xx{H:apf aq}{l:apf Nat}{h:apf aq}
 (hd:l.Nodup) (aN:∀j∈l,j<h.length) (hH:∀(i j:Nat),l[i]?=some j->h[j]?=(H[i]?).map (aq.aK (rn l h.length))) (hk:l.length=H.length)
 (hb:H.all (aq.aE H.length)=true) {G:Gh} {w:apk} (hi:bN G w h):
 ∃G0:Gh,G0.N=H.length/\bN G0 w H/\rj (rn l h.length) G0 G/\∀(G1:Gh)(w':apk)(H':apf aq),bM H.length G0 w G1 w'->H.length<=G1.N->bN G1 w' H'->
  ∃G2:Gh,bM G.N G w G2 w'/\G.N<=G2.N/\bN G2 w' (putAll l (H'.map (aq.aK (rn l h.length))) h)/\rj (rn l h.length) G1 G2:=by
 obtain⟨σ,hσ⟩:∃σ,σ=rn l h.length:=⟨_,rfl⟩;rw[<-hσ]at hH ⊢;have LA:h.length=G.N:=hi.len;obtain⟨own,eG⟩:∃own:Nat->Prop,own=λb=>∃j∈l,bK h G j=some b:=⟨_,rfl⟩;obtain⟨G0,kO⟩:∃G0:Gh,G0={N:=H.length,Z:=λb=>b<w.heap.size/\¬own b,S:=G.S,aR:=λi=>G.aR (σ i),sg:=λi=>G.sg (σ i),ow:=λi=>G.ow (σ i),fl:=λi=>G.fl (σ i),M:=G.M}:=⟨_,rfl⟩;have KJ:∀i,i<H.length->∃j,l[i]?=some j/\σ i=j/\j∈l:=λi dO=>by
  have jR:i<l.length:=by rw[hk];exact dO
  exact⟨l[i],aov jR,by rw[hσ];exact Bu l _ i _ (aov jR),List.getElem_mem _⟩
 have nT:rj σ G0 G:=by
  subst kO;refine⟨λn hn=> ?_,λ_ _=>rfl,λ_ _=>rfl,λ_ _=>rfl,λ_ _=>rfl,λ_ _=>Iff.rfl⟩;obtain⟨j,_,e,hj⟩:=KJ n hn;rw[e,<-LA];exact aN j hj
 have cv:G0.N=H.length:=by rw[kO]
 have UX:∀(i:Nat)(B:aq),H[i]?=some B->h[σ i]?=some (B.aK σ):=λi B hB=>by
  obtain⟨j,e1,e2,_⟩:=KJ i (aor.1 hB).1;rw[e2,hH i j e1,hB];rfl
 have Oc:∀(i:Nat)(B:aq)(b:Nat),H[i]?=some B->B.dP G0 i=some b->bK h G (σ i)=some b:=λi B b hB fu=>by
  rw[dA (UX i B hB),Sv nT (by rw[cv];exact(aor.1 hB).1) B];exact fu
 have wQ:∀(i:Nat)(B:aq)(b:Nat),H[i]?=some B->B.dP G0 i=some b->¬G0.Z b:=λi B b hB fu hz=>by
  rw[kO]at hz;refine hz.2 ?_;rw[eG];obtain⟨j,_,e2,hj⟩:=KJ i (aor.1 hB).1;exact⟨j,hj,by rw[<-e2];exact Oc i B b hB fu⟩
 have al9:∀i i',σ i=σ i'->i=i':=λi i' e=>by
  have J:=O7 hd aN i;have h2:=O7 hd aN i';rw[hσ]at e;rw[e,h2]at J;exact(aoK J).symm
 have sf:bN G0 w H:=by
  refine⟨cv.symm,λb hz=> ?_,λb o hs=> ?_,λi B hB=> ?_,λm n b J h2=> ?_,by rw[kO];exact hi.gl⟩
  ·rw[kO]at hz;exact hz.1
  ·rw[kO]at hs;exact hi.S b o hs
  ·have hiN:i<G0.N:=by rw[cv];exact(aor.1 hB).1
   rw[aoR]at hb;exact dZ.rT nT hiN (by rw[cv];exact hb B (aoE hB)) (λb fu=>wQ i B b hB fu) (hi.c7 (σ i) _ (UX i B hB))
  ·obtain⟨B1,vv,iL⟩:=nm J;obtain⟨B2,PI,jZ⟩:=nm h2;exact al9 m n (hi.inj _ _ b (Oc m B1 b vv iL) (Oc n B2 b PI jZ))
 refine⟨G0,cv,sf,nT,λG1 w' H' hE gu j5=> ?_⟩;have Di:H'.length=G1.N:=j5.len;obtain⟨ps,FM⟩:∃ps,ps=wD l h.length:=⟨_,rfl⟩;obtain⟨G2,iA⟩:∃G2:Gh,G2={N:=G.N+(G1.N-H.length),Z:=G.Z,S:=G1.S,aR:=λn=>sy (ps n) G1.aR (G.aR n),sg:=λn=>sy (ps n) G1.sg (G.sg n),ow:=λn=>sy (ps n) G1.ow (G.ow n),fl:=λn=>sy (ps n) G1.fl (G.fl n),M:=G.M}:=⟨_,rfl⟩;have Kx:∀i,ps (σ i)=some i:=λi=>by rw[FM,hσ];exact O7 hd aN i
 have Hl:∀i,H.length<=i->σ i=G.N+(i-H.length):=λi jT=>by rw[hσ,Jq l _ i (by omega),LA,hk]
 have adg:∀i,i<H.length->σ i<G.N:=λi KW=>by
  obtain⟨j,_,e,hj⟩:=KJ i KW;rw[e,<-LA];exact aN j hj
 have OR:rj σ G1 G2:=by
  subst iA;refine⟨λn hn=> ?_,λn _=>by simp only[Kx];rfl,λn _=>by simp only[Kx];rfl,λn _=>by simp only[Kx];rfl,λn _=>by simp only[Kx];rfl,λ_ _=>Iff.rfl⟩;show σ n<G.N+(G1.N-H.length);by_cases eW:n<H.length
  ·have:=adg n eW;omega
  ·rw[Hl n (by omega)];omega
 have Ue:∀b,G0.Z b->G1.Z b:=hE.Z.1.1;have MY:∀b,G.Z b->G0.Z b:=λb hz=>by
  rw[kO];refine⟨hi.z b hz,λho=> ?_⟩;rw[eG]at ho;obtain⟨j,_,ho⟩:=ho;obtain⟨B,hB,fu⟩:=nm ho;exact(hi.c7 j B hB).lq fu hz
 have jo:bM G.N G w G2 w':=by
  refine⟨hE.size,λb o hs=> ?_,λb o hs=> ?_,λn hn=> ?_,λn hn=> ?_,zsame (by rw[iA]) (by rw[iA]),λb hz=>hE.old b (MY b hz),hE.os,hE.tape,hE.output,λb o hs=> ?_⟩
  ·rw[iA];exact hE.S b o (by rw[kO];exact hs)
  ·exact hE.cell b o (by rw[kO];exact hs)
  ·rw[iA];show sy (ps n) G1.aR (G.aR n)=G.aR n;cases hp:ps n with
   |none=>rfl
   |some i=>
    have e:σ i=n:=by rw[hσ];rw[FM]at hp;exact Nw hp
    have dO:i<H.length:=Nat.lt_of_not_le λjT=>by rw[Hl i jT]at e;omega
    show G1.aR i=G.aR n;rw[hE.aR i dO,kO,<-e]
  ·rw[iA];show(sy (ps n) G1.fl (G.fl n)=G.fl n/\sy (ps n) G1.sg (G.sg n)=G.sg n)\/G.fl n<sy (ps n) G1.fl (G.fl n);cases hp:ps n with
   |none=>exact .inl ⟨rfl,rfl⟩
   |some i=>
    have e:σ i=n:=by rw[hσ];rw[FM]at hp;exact Nw hp
    have dO:i<H.length:=Nat.lt_of_not_le λjT=>by rw[Hl i jT]at e;omega
    have:=hE.fr i dO;rw[kO]at this;simp only[e]at this;exact this
  ·rw[iA]at hs;rcases hE.new b o hs with J|J
   ·rw[kO]at J;exact .inl J
   ·exact .inr λhz=>J (MY b hz)
 have hlen:(putAll l (H'.map (aq.aK σ)) h).length=G2.N:=by
  rw[TU _ _ _ (by rw[aow,hk,Di];omega),aow,Di,hk,LA,iA]
 have aii:∀i,i<G1.N->(putAll l (H'.map (aq.aK σ)) h)[σ i]?=(H'[i]?).map (aq.aK σ):=λi dO=>by
  rw[<-aoy,hσ];exact U5 l _ h i (by rw[aow,hk,Di];omega) hd aN (by rw[aow,Di];exact dO)
 have HK:∀(n:Nat)(B:aq),(putAll l (H'.map (aq.aK σ)) h)[n]?=some B->(∃i B',i<G1.N/\n=σ i/\H'[i]?=some B'/\B=B'.aK σ)\/(ps n=none/\n ∉ l/\h[n]?=some B):=λn B hB=>by
  have aav:n<G2.N:=by rw[<-hlen];exact(aor.1 hB).1
  cases hp:ps n with
  |none=>
   rw[FM]at hp;obtain⟨J,h2⟩:=aeQ hp;exact .inr ⟨rfl,h2,by rw[<-M0 l (H'.map (aq.aK σ)) h n (by rw[aow,hk,Di];omega) J h2];exact hB⟩
  |some i=>
   have e:σ i=n:=by rw[hσ];rw[FM]at hp;exact Nw hp
   have dO:i<G1.N:=Nat.lt_of_not_le λjT=>by
    rw[Hl i (by omega)]at e;rw[iA]at aav;have:n<G.N+(G1.N-H.length):=aav;omega
   rw[<-e,aii i dO]at hB;cases hx:H'[i]? with
   |none=>rw[hx]at hB;cases hB
   |some B'=>rw[hx]at hB;cases hB;exact .inl ⟨i,B',dO,e.symm,hx,rfl⟩
 have hold:∀(n b:Nat),n ∉ l->bK h G n=some b->G0.Z b:=λn b hn fu=>by
  rw[kO];refine⟨hi.h1 fu,λho=> ?_⟩;rw[eG]at ho;obtain⟨j,hj,ho⟩:=ho;exact hn ((hi.inj n j b fu ho)▸hj)
 have FU:∀(n b:Nat),bK (putAll l (H'.map (aq.aK σ)) h) G2 n=some b->(∃i,n=σ i/\bK H' G1 i=some b/\¬G0.Z b)\/(n ∉ l/\bK h G n=some b/\G0.Z b):=λn b fu=>by
  obtain⟨B,hB,iL⟩:=nm fu;rcases HK n B hB with⟨i,B',dO,rfl,dG,rfl⟩|⟨hp,hn,dG⟩
  ·rw[Sv OR dO]at iL;exact .inl ⟨i,rfl,(dA dG).trans iL,λhz=>(j5.c7 i B' dG).lq iL (Ue _ hz)⟩
  ·have e:B.dP G2 n=B.dP G n:=by
    subst iA;cases B<;>simp only[aq.dP,hp,sy]
   have:=(dA dG).trans (e▸iL);exact .inr ⟨hn,this,hold n b hn this⟩
 refine⟨G2,jo,by rw[iA];exact ao6 _ _,⟨hlen,λb hz=> ?_,λb o hs=> ?_,λn B hB=> ?_,λm n b J h2=> ?_,hi.gl.keep jo⟩,OR⟩
 ·rw[iA]at hz;exact aoP (hi.z b hz) hE.size
 ·rw[iA]at hs;exact j5.S b o hs
 ·rcases HK n B hB with⟨i,B',dO,rfl,dG,rfl⟩|⟨hp,hn,dG⟩
  ·refine dZ.aK OR dO (λb fu hz=> ?_) (j5.c7 i B' dG);have:=(j5.c7 i B' dG).lq fu;rw[iA]at hz;exact this (Ue b (MY b hz))
  ·have oW:n<G.N:=by rw[<-hi.len];exact(aor.1 dG).1
   refine dZ.keep oW jo (by rw[iA];exact ao6 _ _) (by rw[iA];simp only[hp];exact⟨rfl,rfl,rfl⟩) (λb fu=> ?_) (hi.c7 n B dG);have hz:=hold n b hn ((dA dG).trans fu);refine⟨hE.old b hz,λo jx hs=> ?_⟩;rw[iA]at hs;rcases hE.new b o hs with J|J
   ·rw[kO]at J;exact jx J
   ·exact J hz
 ·rcases FU m b J with⟨i,rfl,a1,a2⟩|⟨a0,a1,a2⟩<;>rcases FU n b h2 with⟨j,rfl,b1,b2⟩|⟨b0,b1,b2⟩
  ·rw[j5.inj i j b a1 b1]
  ·exact absurd b2 a2
  ·exact absurd a2 b2
  ·exact hi.inj m n b a1 b1
theorem cO.Yq{P:api}{f:FuncId}{args:apf AV}{H:apf aq}{K:AV->apf aq->Prop}(hc:cO P f args H K){l:apf Nat}{h:apf aq}
 (hd:l.Nodup) (aN:∀j∈l,j<h.length) (hH:∀(i j:Nat),l[i]?=some j->h[j]?=(H[i]?).map (aq.aK (rn l h.length))) (hk:l.length=H.length)
 (ha:args.all (AV.aE H.length)=true) (hb:H.all (aq.aE H.length)=true):
 cO P f (args.map (AV.aK (rn l h.length))) h λr' h'=>∃r H',K r H'/\r'=r.aK (rn l h.length)/\h'=putAll l (H'.map (aq.aK (rn l h.length))) h:=by
 refine⟨hc.1,λG w vs hi xU hvr=> ?_⟩;obtain⟨G0,cv,sf,nT,Qa⟩:=Xx hd aN hH hk hb hi;refine(hc.2 G0 w vs sf (by rw[xU,aow]) λi u c hu hx=> ?_).mono λe w' hp=> ?_
 ·rw[aoR]at ha;exact aF.rT nT (hvr i u (c.aK (rn l h.length)) hu (by rw[aoy,hx];rfl)) c rfl (by rw[cv];exact ha c (aoE hx))
 ·obtain⟨v,G1,r,H',rfl,hE,gu,j5,hv,hK⟩:=hp;rw[cv]at gu hE;obtain⟨G2,e1,e2,e3,e4⟩:=Qa G1 w' H' hE gu j5;exact⟨v,G2,r.aK _,_,rfl,e1,e2,e3,hv.aK e4,r,H',hK,rfl,rfl⟩
mutual
theorem vD{σ τ:Nat->Nat}{k:Nat}(h:∀i,i<k->σ i=τ i):∀x:AV,x.aE k=true->x.aK σ=x.aK τ
 | .ptr n off,hb=>by rw[AV.aE]at hb;rw[AV.aK,AV.aK,h n (by rw[Bool.not_eq_true',<-Bool.not_eq_true,da]at hb;omega)]
 | .own n xs,hb=>by rw[AV.aE]at hb;rw[AV.aK,AV.aK,h n (by rw[Bool.not_eq_true',<-Bool.not_eq_true,da]at hb;omega)]
 | .row n off len cap q,hb=>by rw[AV.aE]at hb;rw[AV.aK,AV.aK,h n (by rw[Bool.not_eq_true',<-Bool.not_eq_true,da]at hb;omega)]
 | .mp n,hb=>by rw[AV.aE]at hb;rw[AV.aK,AV.aK,h n (by rw[Bool.not_eq_true',<-Bool.not_eq_true,da]at hb;omega)]
 | .cn n,hb=>by rw[AV.aE]at hb;rw[AV.aK,AV.aK,h n (by rw[Bool.not_eq_true',<-Bool.not_eq_true,da]at hb;omega)]
 | .vec n o len L q,hb=>by rw[AV.aE]at hb;rw[AV.aK,AV.aK,h n (by rw[Bool.not_eq_true',<-Bool.not_eq_true,da]at hb;omega)]
 | .dn n i j L q,hb=>by rw[AV.aE]at hb;rw[AV.aK,AV.aK,h n (by rw[Bool.not_eq_true',<-Bool.not_eq_true,da]at hb;omega)]
 | .agg cs,hb=>by rw[AV.aE]at hb;rw[AV.aK,AV.aK,rI h cs hb]
 | .bg cs,hb=>by rw[AV.aE]at hb;rw[AV.aK,AV.aK,rI h cs hb]
 | .fn f cs,hb=>by rw[AV.aE]at hb;rw[AV.aK,AV.aK,rI h cs hb]
 | .d x,_=>by rw[AV.aK,AV.aK]
 | .bj xs i off,_=>by rw[AV.aK,AV.aK]
 | .full xs,_=>by rw[AV.aK,AV.aK]
 | .hid c,_=>by rw[AV.aK,AV.aK]
 | .dead,_=>by rw[AV.aK,AV.aK]
theorem rI{σ τ:Nat->Nat}{k:Nat}(h:∀i,i<k->σ i=τ i):∀l:apf AV,AV.kE k l=true->AV.fX σ l=AV.fX τ l
 |[],_=>by rw[AV.fX,AV.fX]
 |x::l,hb=>by
  rw[AV.kE,aot]at hb;rw[AV.fX,AV.fX,vD h x hb.1,rI h l hb.2]
end
theorem Pk{σ τ:Nat->Nat}{k:Nat}(h:∀i,i<k->σ i=τ i)(B:aq)(hb:B.aE k=true):B.aK σ=B.aK τ:=by
 cases B with
 |cells cs=>rw[aq.aK,aq.aK,rI h cs (by rw[mS];exact hb)]
 |lp ls p as bd cs=>rw[aq.aK,aq.aK,rI h cs (by rw[mS];exact hb)]
 |it sn cs=>rw[aq.aK,aq.aK,rI h cs (by rw[mS];exact hb)]
 |eP T0 cs=>rw[aq.aK,aq.aK,rI h cs (by rw[mS];exact hb)]
 |vec e q cs=>
  rw[aq.aK,aq.aK]
  congr 1
  refine aoW λc hc=>rI h c ?_;simp only[aq.aE,aoR]at hb;rw[mS,aoR];exact hb c hc
 |_=>rfl
theorem T7:∀(l:apf Nat)(b c i:Nat),i<l.length->rn l b i=rn l c i
 |[],b,c,i,h=>by simp at h
 |a::l,b,c,0,_=>by rw[rn,rn]
 |a::l,b,c,i+1,h=>by rw[rn,rn];exact T7 l b c i (by simpa using h)
def pO:apf Nat->Bool
 |[]=>true
 |a::l=> !l.any (·==a)&&pO l
theorem UT:∀{l:apf Nat},pO l=true->l.Nodup
 |[],_=>List.nodup_nil
 |a::l,h=>by
  rw[pO,aot,Bool.not_eq_true',<-Bool.not_eq_true]at h;rw[List.nodup_cons];exact⟨λhm=>h.1 (List.any_eq_true.2 ⟨a,hm,by simp⟩),UT h.2⟩
theorem U8:∀(l:apf Nat)(h Bs:apf aq),l.map (λj=>h[j]?)=Bs.map some->putAll l Bs h=h
 |[],h,Bs,e=>by
  cases Bs with
  |nil=>rw[putAll,aoM]
  |cons=>simp at e
 |j::l,h,Bs,e=>by
  cases Bs with
  |nil=>simp at e
  |cons B Bs=>
   rw[aoQ,aoQ]at e;injection e with e1 e2;have hs:h.set j B=h:=by
     refine List.ext_getElem? λm=> ?_;by_cases em:j=m
     ·subst em;rw[aoU (aor.1 e1).1,e1]
     ·rw[aoZ em]
   rw[putAll,hs];exact U8 l h Bs e2
section
variable {P:api} {f:FuncId} {eV:apf AV} {H:apf aq} {l:apf Nat} {h:apf aq}
theorem Ta{l:apf Nat}{h H:apf aq}{σ:Nat->Nat}(hb:l.map (λj=>h[j]?)=H.map λB=>some (B.aK σ)):l.length=H.length/\(∀j∈l,j<h.length)/\∀(i j:Nat),l[i]?=some j->h[j]?=(H[i]?).map (aq.aK σ):=by
 have J:l.length=H.length:=by simpa using congrArg List.length hb
 have key:∀(i j:Nat),l[i]?=some j->∃B,H[i]?=some B/\h[j]?=some (B.aK σ):=λi j e=>by
  have aN:i<H.length:=by rw[<-J];exact(aor.1 e).1
  have:=congrArg (·[i]?) hb;simp only[aoy,e,aov aN,Option.map_some,Option.some.injEq]at this;exact⟨_,aov aN,this⟩
 refine⟨J,λj hj=> ?_,λi j e=> ?_⟩
 ·obtain⟨i,hi⟩:=List.mem_iff_getElem?.1 hj;obtain⟨B,_,h2⟩:=key i j hi;exact(aor.1 h2).1
 ·obtain⟨B,h2,h3⟩:=key i j e;rw[h2,h3];rfl
theorem cO.nJ{r:AV}{H':apf aq}(hc:cO P f eV H λr1 J=>r1=r/\J=H')(hd:pO l=true)(hb:l.map (λj=>h[j]?)=H.map λB=>some (B.aK (rn l h.length)))(hl:(eV.all (AV.aE H.length)&&H.all (aq.aE H.length))=true):
 cO P f (eV.map (AV.aK (rn l h.length))) h λr1 J=>r1=r.aK (rn l h.length)/\J=putAll l (H'.map (aq.aK (rn l h.length))) h:=by
 rw[aot]at hl;obtain⟨J,h2,h3⟩:=Ta hb;exact(hc.Yq (UT hd) h2 h3 J hl.1 hl.2).mono λr1 J ⟨r2,H2,⟨e1,e2⟩,e3,e4⟩=>by subst e1;subst e2;exact⟨e3,e4⟩
theorem cO.rq{r:AV}(hc:cO P f eV H λr1 J=>r1=r/\J=H)(hd:pO l=true)(hb:l.map (λj=>h[j]?)=H.map λB=>some (B.aK (rn l 0)))(hl:(eV.all (AV.aE H.length)&&H.all (aq.aE H.length)&&r.aE H.length)=true)(e:apf aq):
 cO P f (eV.map (AV.aK (rn l 0))) (h++e) λr1 J=>r1=r.aK (rn l 0)/\J=h++e:=by
 rw[aot,aot]at hl;obtain⟨⟨l1,l2⟩,l3⟩:=hl;obtain⟨J,h2,_⟩:=Ta hb;have Nr:∀i,i<H.length->rn l (h++e).length i=rn l 0 i:=λi hi=>T7 l _ _ i (by rw[J];exact hi);have iL:H.map (λB=>some (B.aK (rn l (h++e).length)))=H.map λB=>some (B.aK (rn l 0)):=by
   refine aoW λB hB=> ?_;rw[aoR]at l2;rw[Pk Nr B (l2 B hB)]
 have jZ:l.map (λj=>(h++e)[j]?)=H.map λB=>some (B.aK (rn l (h++e).length)):=by
  rw[iL,<-hb];refine aoW λj hj=> ?_;rw[aoB (h2 j hj)]
 have:=hc.nJ hd jZ (by rw[l1,l2];rfl);have ha:eV.map (AV.aK (rn l (h++e).length))=eV.map (AV.aK (rn l 0)):=by
  refine aoW λx hx=> ?_;rw[aoR]at l1;exact vD Nr x (l1 x hx)
 rw[ha,vD Nr r l3]at this;refine this.mono λr1 J ⟨e1,e2⟩=>⟨e1,?_⟩;rw[e2];refine U8 l _ _ ?_;rw[jZ,List.map_map];rfl
end
end Go.Proofs.YtpeecnpmcbnahaaGreatDoor
