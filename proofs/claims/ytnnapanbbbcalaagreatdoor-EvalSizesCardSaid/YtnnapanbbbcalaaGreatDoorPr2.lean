/-
  Part 2 of the proof: AbsLeave, AbsLoop, AbsZero, AbsIter, AbsCode, AbsWalk, GrowF, AbsDraw, AbsFrame.
-/
import Derived.Test.YtnnapanbbbcalaaGreatDoorPr1
import Derived.Lib.AppendZeros
import Derived.Maps.RangeRun
namespace Go.Proofs.YtnnapanbbbcalaaGreatDoor
open Go.RowKit
theorem aD.zm{G:Gh}{w:ak9}{u:ak8}{x:AV}(Z:Nat->Prop)(M:Nat)(h:aD G w u x):aD {G with Z:=Z,M:=M} w u x:=by
 induction h with
 |agg vs cs hl _ ih=>exact .agg vs cs hl ih
 |aW vs cs hl _ ih=>exact .aW vs cs hl ih
 |fn f vs cs hl _ ih=>exact .fn f vs cs hl ih
 |own n xs h hp hle hf=>exact .own n xs h hp hle hf
 |ptr n off h=>exact .ptr (G:={G with Z:=Z,M:=M}) n off h
 |row n off len cap k h hl hm=>exact .row (G:={G with Z:=Z,M:=M}) n off len cap k h hl hm
 |mp n h=>exact .mp (G:={G with Z:=Z,M:=M}) n h
 |cp n h=>exact .cp (G:={G with Z:=Z,M:=M}) n h
 |vec n o len L k h hs hL hf=>exact .vec (G:={G with Z:=Z,M:=M}) n o len L k h hs hL hf
 |dF n i j L k h hs hL hf=>exact .dF (G:={G with Z:=Z,M:=M}) n i j L k h hs hL hf
 |hid h J=>exact .hid h J
 |d h=>exact .d h
 |bn xs i off b o u x hx hS hu=>exact .bn xs i off b o u x hx hS hu
 |full xs hp hf=>exact .full xs hp hf
 |dead u=>exact .dead u
theorem er.zm{G:Gh}{w:ak9}{n:Nat}{B:ao}(Z:Nat->Prop)(M:Nat)(hz:∀b,Z b->G.Z b)(h:er G w n B):er {G with Z:=Z,M:=M} w n B:=by
 cases B with
 |gone=>trivial
 |cells cs=>
  obtain⟨J,h2,vs,T,h3,h4,h5⟩:=h;exact⟨λk=>J (hz _ k),h2,vs,T,h3,h4,λi u c hu hc=>(h5 i u c hu hc).zm Z M⟩
 |lp ls p as bd cs=>
  obtain⟨J,h2,fn,vs,T,h3,h4,h5⟩:=h;exact⟨λk=>J (hz _ k),h2,fn,vs,T,h3,h4,λi u c hu hc=>(h5 i u c hu hc).zm Z M⟩
 |it sn cs=>
  obtain⟨J,h2,fn,vs,T,h3,h4,h5⟩:=h;exact⟨λk=>J (hz _ k),h2,fn,vs,T,h3,h4,λi u c hu hc=>(h5 i u c hu hc).zm Z M⟩
 |eO T0 cs=>
  obtain⟨J,h2,fn,vs,T,h3,h4,h5⟩:=h;exact⟨λk=>J (hz _ k),h2,fn,vs,T,h3,h4,λi u c hu hc=>(h5 i u c hu hc).zm Z M⟩
 |map kv=>
  obtain⟨J,h2,es,c,h3,h4⟩:=h;exact⟨λk=>J (hz _ k),h2,es,c,h3,h4⟩
 |ie kv=>
  obtain⟨J,h2,es,c,h3,h4⟩:=h;exact⟨λk=>J (hz _ k),h2,es,c,h3,h4⟩
 |front e k len=>
  obtain⟨J,hm,h2⟩:=h;refine⟨J,hm,?_⟩;rcases h2 with h2|⟨g,cap,cur,h2,h3,h4,h5⟩
  ·exact .inl h2
  ·exact .inr ⟨g,cap,cur,h2,h3,λk=>h4 (hz _ k),h5⟩
 |byt e b2=>
  obtain⟨J,hm,h2⟩:=h;refine⟨J,hm,?_⟩;rcases h2 with h2|⟨g,cap,cur,h2,h3,h4,h5⟩
  ·exact .inl h2
  ·exact .inr ⟨g,cap,cur,h2,h3,λk=>h4 (hz _ k),h5⟩
 |vec e k cs=>
  obtain⟨J,hm,hk,h2⟩:=h;refine⟨J,hm,hk,?_⟩;rcases h2 with h2|⟨g,cap,cur,h2,h3,h4,h5,h6,h7,h8,h9,aO⟩
  ·exact .inl h2
  ·exact .inr ⟨g,cap,cur,h2,h3,λk=>h4 (hz _ k),h5,h6,h7,h8,h9,λi j c x u hc hx hu=>(aO i j c x u hc hx hu).zm Z M⟩
theorem Hk{h:ak4 ao}{G:Gh}{n:Nat}(Z:Nat->Prop)(M:Nat):bR h {G with Z:=Z,M:=M} n=bR h G n:=by
 unfold bR;cases h[n]? with
 |none=>rfl
 |some B=>cases B<;>rfl
theorem bU.zm{G:Gh}{w:ak9}{h:ak4 ao}(hi:bU G w h)(Z:Nat->Prop)(M:Nat)(hz:∀b,Z b->G.Z b)(hM:M<=w.heap.size):bU {G with Z:=Z,M:=M} w h:=
 ⟨hi.len,λb hb=>hi.z b (hz b hb),hi.S,λn B hB=>(hi.dn n B hB).zm Z M hz,λm n b J h2=>hi.inj m n b (by rw[<-Hk Z M];exact J) (by rw[<-Hk Z M];exact h2),⟨hi.gl.1,hM⟩⟩
def py(l:ak4 Nat)(w:ak9):ak9:=l.foldl (λw D=>w.putObj D (.deferred none)) w
theorem SO:∀(l:ak4 Nat)(w:ak9),(∀D∈l,w.heap[D]?=some (.deferred (some [])))->l.Nodup->
 (py l w).heap.size=w.heap.size/\(∀b,b ∉ l->(py l w).heap[b]?=w.heap[b]?)/\(∀b o,(py l w).cell? ⟨b,o,none⟩=w.cell? ⟨b,o,none⟩)/\(py l w).os=w.os/\(py l w).tape=w.tape/\(py l w).output=w.output
 |[],w,_,_=>⟨rfl,λ_ _=>rfl,λ_ _=>rfl,rfl,rfl,rfl⟩
 |D::l,w,hd,hn=>by
  rw[List.nodup_cons]at hn;have hD:=hd D akm;have aL:=(akv.1 hD).1;obtain⟨J,h2,h3,h4,h5,h6⟩:=SO l (w.putObj D (.deferred none)) (λE hE=>by
    have cN:E≠D:=λe=>hn.1 (e▸hE);rw[World.putObj_heap_other cN];exact hd E (akp _ hE)) hn.2
  refine⟨J.trans (by simp),λb hb=> ?_,λb o=> ?_,h4,h5,h6⟩
  ·exact(h2 b λh=>hb (akp _ h)).trans (World.putObj_heap_other λe=>hb (e▸akm))
  ·refine(h3 b o).trans ?_;by_cases e:b=D
   ·subst e;unfold World.cell?;simp only[World.putObj_heap_same aL,hD]
   ·exact World.cell?_of_block (World.putObj_heap_other e)
theorem Tz{F:Fence}{n:Nat}{P:ak7}{fn:Func}{tmps:Array ak8}{R:Ending->ak9->Prop}:∀(l:ak4 Nat)(w:ak9),(∀D∈l,w.heap[D]?=some (.deferred (some [])))->l.Nodup->
 LeavesIn F n P fn tmps R [] .returning (py l w)->LeavesInM F n P fn tmps R (l.map λD=>{target:= .collected D,args:= #[]}) .returning w
 |[],w,_,_,h=>h
 |D::l,w,hd,hn,h=>by
  rw[List.nodup_cons]at hn;exact⟨by simp, .inl ⟨D,_,rfl,run_takeDeferred (hd D akm),Tz l _ (λE hE=>by
    have cN:E≠D:=λe=>hn.1 (e▸hE);rw[World.putObj_heap_other cN];exact hd E (akp _ hE)) hn.2 h⟩⟩
theorem agN{N0:Nat}{G G1:Gh}{w w':ak9}{a':Act}{s1:St}(hE:bP N0 {G with M:=w.heap.size} w G1 w')(hN:N0<=G1.N)(hz:∀b,G.Z b->b<w.heap.size)(hMw:G.M<=w.heap.size)(hs:db G1 w' a' s1):
 ∃(w2:ak9)(G2:Gh),(∀(F:Fence)(n:Nat)(P:ak7)(fn:Func)(R:Ending->ak9->Prop),(∃v,(results fn a'.tmps).run P w2= .ok v w2/\R (.returned v) w2)->LeavesInM F n P fn a'.tmps R a'.defers .returning w')/\
  bP N0 G w G2 w2/\G2.N=G1.N/\db G2 w2 {a' with defers:=[]} s1:=by
 obtain⟨l,l1,l2,l3⟩:=hs.df;have hd:∀D∈l,w'.heap[D]?=some (.deferred (some [])):=λD hD=>(l3 D hD).2.2;obtain⟨J,h2,h3,h4,h5,h6⟩:=SO l w' hd l1;have hM:G1.M=w.heap.size:=hE.Z.2;have je:∀b,G.Z b->b ∉ l:=λb hb hl=>by
  have:=(l3 b hl).1;have:=hz b hb;omega
 obtain⟨G2,hG2⟩:∃G2:Gh,G2={G1 with Z:=G.Z,M:=G.M}:=⟨_,rfl⟩;have rR:∀b,G.Z b->G1.Z b:=hE.Z.1.1;have kC:bU G2 w' s1.h:=by rw[hG2];exact hs.inv.zm _ _ rR (aky hMw hE.size)
 have hX:bP N0 G w G2 w':=by
  rw[hG2];exact⟨hE.size,hE.S,hE.cell,hE.aM,hE.fr,gQ rfl,hE.old,hE.os,hE.tape,hE.output,hE.new⟩
 have ja:bP G2.N G2 w' G2 (py l w'):=⟨by rw[J];exact akr _,λ_ _ h=>h,λb o _=>h3 b o,λ_ _=>rfl,λ_ _=> .inl ⟨rfl,rfl⟩,gQ rfl,λb hb=>h2 b (je b (by rw[hG2]at hb;exact hb)),h4,h5,h6,λ_ _ h=> .inl h⟩;have GU:bU G2 (py l w') s1.h:=⟨kC.len,λb hb=>by rw[J];exact kC.z b hb,λb o hb=>by rw[J];exact kC.S b o hb,λn B hB=>er.keep (kC.lt hB) ja (akr _) ⟨rfl,rfl,rfl⟩ (λb hb=>⟨h2 b λhl=>(hs.inv.dn n B hB).kH (by rw[hG2]at hb;cases B<;>exact hb) (l3 b hl).2.1,λ_ h=>h⟩) (kC.dn n B hB),kC.inj,kC.gl.keep ja⟩;refine⟨py l w',G2,λF n P fn R h=> ?_,hX.trans (ja.less (by rw[hG2];exact hN)),by rw[hG2],⟨hs.size,λi=>aD.keep ja (akr _) (by rw[hG2];exact(hs.tmp i).zm _ _),GU,qn.nil _ _⟩⟩;rw[l2];exact Tz l w' hd l1 h
section
variable {G:Gh} {w:ak9} {h:ak4 ao}
theorem aiv(hi:bU G w h)(fn:FuncId)(tm:Array ak8)(D p:Nat)(as bd:Code)(cs:ak4 AV)(hl:tm.size=cs.length)(hr:∀(i:Nat)(u:ak8)(c:AV),tm[i]?=some u->cs[i]?=some c->aD G w u c):bP G.N G w (G.dg w.heap.size) (w.alloc (.loop {state:= .ready,pending:=none,fn:=fn,tmps:=tm,params:= #[p],assign:=as,body:=bd,defers:=D}))/\bU (G.dg w.heap.size) (w.alloc (.loop {state:= .ready,pending:=none,fn:=fn,tmps:=tm,params:= #[p],assign:=as,body:=bd,defers:=D})) (h++[.lp .ready p as bd cs])/\aD (G.dg w.heap.size) (w.alloc (.loop {state:= .ready,pending:=none,fn:=fn,tmps:=tm,params:= #[p],assign:=as,body:=bd,defers:=D})) (.func (.yield w.heap.size) #[] #[]) (.cp h.length):=by
 have hE:=rB G w hi.z hi.S (.loop {state:= .ready,pending:=none,fn:=fn,tmps:=tm,params:= #[p],assign:=as,body:=bd,defers:=D});have hN:G.N<=(G.dg w.heap.size).N:=Nat.le_succ _;have gi:(G.dg w.heap.size).aM h.length=w.heap.size:=by simp [Gh.dg,hi.len]
 have kQ:∀n(B:ao),n<G.N->B.dZ (G.dg w.heap.size) n=B.dZ G n:=λn B hn=>by
  cases B<;>simp [ao.dZ,Gh.dg,Nat.ne_of_lt hn]
 have fk:∀n,n<G.N->bR (h++[.lp .ready p as bd cs]) (G.dg w.heap.size) n=bR h G n:=λn hn=>by
  have aL:n<h.length:=by rw[hi.len];exact hn
  unfold bR;rw[akq aL,akk aL];exact kQ n _ hn
 have qV:bR (h++[.lp .ready p as bd cs]) (G.dg w.heap.size) h.length=some w.heap.size:=by
  rw[dM (B:= .lp .ready p as bd cs) (by simp)];exact congrArg some gi
 refine⟨hE,⟨by simp [Gh.dg,hi.len],λb hb=>akE (hi.z b hb) hE.size,λb o hs=>akE (hi.S b o hs) hE.size,λn B hB=> ?_,λm n b hm hn=> ?_,hi.gl.keep hE⟩,?_⟩
 ·by_cases hn:n<h.length
  ·rw[akq hn]at hB;have eZ:n<G.N:=hi.len▸hn;exact er.keep eZ hE hN ⟨rfl,rfl,rfl⟩ (λb hb=>⟨Below.heap_alloc w _ _ (hi.gW (n:=n) ((dM hB).trans hb)),λo h=>h⟩) (hi.dn n B hB)
  ·have jY:n=h.length:=by
    have:=(akg.1 hB).1;simp at this;omega
   subst jY;simp at hB;subst hB;exact⟨by rw[gi];exact λhz=>akU _ (hi.z _ hz),λo hs=>by rw[gi]at hs;exact akU _ (hi.S _ _ hs),fn,tm,D,by rw[gi];exact World.alloc_heap_new w _,hl,λi u c hu hc=>(hr i u c hu hc).keep hE hN⟩
 ·have key:∀n b,bR (h++[.lp .ready p as bd cs]) (G.dg w.heap.size) n=some b->(n<G.N/\bR h G n=some b)\/(n=h.length/\b=w.heap.size):=λn b hn=>by
   by_cases aL:n<G.N
   ·exact .inl ⟨aL,by rw[<-fk n aL];exact hn⟩
   ·by_cases e:n=h.length
    ·subst e;rw[qV]at hn;cases hn;exact .inr ⟨rfl,rfl⟩
    ·rw[sB (akM (by simp;have:=hi.len;omega))]at hn;cases hn
  rcases key m b hm with⟨_,h1⟩|⟨rfl,rfl⟩<;>rcases key n _ hn with⟨_,eZ⟩|⟨rfl,hb⟩
  ·exact hi.inj m n b h1 eZ
  ·have:=hi.gW h1;omega
  ·have:=hi.gW eZ;omega
  ·rfl
 ·have:=aD.cp (G:=G.dg w.heap.size) (w:=w.alloc (.loop {state:= .ready,pending:=none,fn:=fn,tmps:=tm,params:= #[p],assign:=as,body:=bd,defers:=D})) h.length (by simp [Gh.dg,hi.len])
  rwa [gi]at this
theorem KG{k:Nat}{B B':ao}{ob wA:Obj}(hi:bU G w h)(hk:h[k]?=some B)(tI:B.dZ G k=some (G.aM k))(hS:∀o,¬G.S (G.aM k) o)(l5:w.heap[G.aM k]?=some ob)(hn:B'= .gone\/B'.dZ G k=some (G.aM k))
 (hB:∀w',(∀b o,G.S b o->w'.cell? ⟨b,o,none⟩=w.cell? ⟨b,o,none⟩)->w'.heap[G.aM k]?=some wA->bP G.N G w G w'->er G w' k B'):bP G.N G w G (w.putObj (G.aM k) wA)/\bU G (w.putObj (G.aM k) wA) (h.set k B'):=by
 have aL:=(akv.1 l5).1;have hZ:¬G.Z (G.aM k):=(hi.dn k B hk).kH tI;have iH:∀b,b≠G.aM k->(w.putObj (G.aM k) wA).heap[b]?=w.heap[b]?:=λb hb=>World.putObj_heap_other hb;have hJ:∀b o,G.S b o->(w.putObj (G.aM k) wA).cell? ⟨b,o,none⟩=w.cell? ⟨b,o,none⟩:=λb o hs=>World.cell?_of_block (iH b (λe=>hS o (e▸hs)));have hE:bP G.N G w G (w.putObj (G.aM k) wA):=⟨by simp,λ_ _ h=>h,hJ,λ_ _=>rfl,λ_ _=> .inl ⟨rfl,rfl⟩,gQ rfl,λb hb=>iH b (λe=>hZ (e▸hb)),rfl,rfl,rfl,λ_ _ h=> .inl h⟩;refine⟨hE,?_⟩;have hkl:=(akg.1 hk).1;have lT:(h.set k B')[k]?=some B':=by rw[akJ hkl]
 have fz:∀m,m≠k->(h.set k B')[m]?=h[m]?:=λm hm=>by rw[akO (Ne.symm hm)]
 have lr:bR h G k=some (G.aM k):=(dM hk).trans tI;have eF:∀m b,bR (h.set k B') G m=some b->bR h G m=some b:=λm b hb=>by
  by_cases e:m=k
  ·subst e;rw[dM lT]at hb;rcases hn with rfl|hn
   ·cases hb
   ·rw[hn]at hb;cases hb;exact lr
  ·unfold bR at hb ⊢;rw[fz m e]at hb;exact hb
 refine⟨by rw[List.length_set];exact hi.len,λb hb=>akE (hi.z b hb) hE.size,λb o hs=>akE (hi.S b o hs) hE.size,λm C hC=> ?_,λm m' b J h2=>hi.inj m m' b (eF m b J) (eF m' b h2),hi.gl.keep hE⟩;by_cases e:m=k
 ·subst e;rw[lT]at hC;cases hC
  exact hB _ hJ (World.putObj_heap_same aL) hE
 ·rw[fz m e]at hC;have cN:∀b,bR h G m=some b->b≠G.aM k:=λb hb eb=>e (hi.inj m k b hb (by rw[eb];exact lr));exact er.keep (hi.lt hC) hE (akr _) ⟨rfl,rfl,rfl⟩ (λb hb=>⟨iH b (cN _ ((dM hC).trans hb)),λo h=>h⟩) (hi.dn m C hC)
theorem EF{k:Nat}{ls:LS}{p:Nat}{as bd:Code}{cs:ak4 AV}(hi:bU G w h)(hk:h[k]?=some (.lp ls p as bd cs)):
 (∀o,¬G.S (G.aM k) o)/\∃(fn:FuncId)(tm:Array ak8)(D:Nat),w.heap[G.aM k]?=some (.loop {state:=ls.st,pending:=ls.pd,fn:=fn,tmps:=tm,params:= #[p],assign:=as,body:=bd,defers:=D})/\tm.size=cs.length/\(∀(i:Nat)(u:ak8)(c:AV),tm[i]?=some u->cs[i]?=some c->aD G w u c)/\
   ∀(xt:LS),bP G.N G w G (w.putObj (G.aM k) (.loop {state:=xt.st,pending:=xt.pd,fn:=fn,tmps:=tm,params:= #[p],assign:=as,body:=bd,defers:=D}))/\bU G (w.putObj (G.aM k) (.loop {state:=xt.st,pending:=xt.pd,fn:=fn,tmps:=tm,params:= #[p],assign:=as,body:=bd,defers:=D})) (h.set k (.lp xt p as bd cs)):=by
 obtain⟨J,h2,fn,tm,D,h3,h4,h5⟩:=hi.dn k _ hk;refine⟨h2,fn,tm,D,h3,h4,h5,λxt=>KG hi hk rfl h2 h3 (.inr rfl) λw' hc e9 hE=>⟨J,h2,fn,tm,D,e9,h4,λi u c hu fM=>(h5 i u c hu fM).keep hE (akr _)⟩⟩
theorem aeL{k:Nat}{ls:LS}{p:Nat}{as bd:Code}{cs:ak4 AV}(hi:bU G w h)(hk:h[k]?=some (.lp ls p as bd cs))(ob:Obj):bP G.N G w G (w.putObj (G.aM k) ob)/\bU G (w.putObj (G.aM k) ob) (h.set k .gone):=by
 obtain⟨J,h2,fn,tm,D,h3,h4,h5⟩:=hi.dn k _ hk;exact KG hi hk rfl h2 h3 (.inl rfl) λ_ _ _ _=>trivial
theorem aaM(hi:bU G w h):bP G.N G w {G with Z:=λb=>G.Z b\/b=w.heap.size} (w.alloc (.deferred (some [])))/\bU {G with Z:=λb=>G.Z b\/b=w.heap.size} (w.alloc (.deferred (some []))) h:=by
 have hE:bP G.N G w {G with Z:=λb=>G.Z b\/b=w.heap.size} (w.alloc (.deferred (some []))):=
  ⟨by simp,λ_ _ h=>h,λb _ h=>World.cell?_alloc_lt _ _ _ (hi.S _ _ h),λ_ _=>rfl,λ_ _=> .inl ⟨rfl,rfl⟩,⟨⟨λ_ h=> .inl h,λb h=>h.imp id λe=>Nat.le_of_eq e.symm⟩,rfl⟩,λb hb=>Below.heap_alloc w _ b (hi.z b hb),rfl,rfl,rfl,λ_ _ h=> .inl h⟩
 refine⟨hE,hi.len,λb hb=> ?_,λb o hs=>akE (hi.S b o hs) hE.size,λn B hB=> ?_,λm n b J h2=>hi.inj m n b (by rw[<-Hk (λb=>G.Z b\/b=w.heap.size) G.M];exact J) (by rw[<-Hk (λb=>G.Z b\/b=w.heap.size) G.M];exact h2),hi.gl.keep hE⟩
 ·rcases hb with hb|rfl
  ·exact akE (hi.z b hb) hE.size
  ·simp
 ·exact er.keep (hi.lt hB) hE (akr _) ⟨rfl,rfl,rfl⟩ (λb hb=>⟨Below.heap_alloc w _ _ (hi.gW (n:=n) ((dM hB).trans hb)),λo h=>h⟩) (hi.dn n B hB)
end
end Go.Proofs.YtnnapanbbbcalaaGreatDoor
namespace Go.Proofs.YtnnapanbbbcalaaGreatDoor
open Go.RowKit Go.Lib
def AV.isNil:AV->Bool
 | .d (.v (.slice none 0 0))=>true
 |_=>false
theorem YQ{x:AV}(h:x.isNil=true):x= .d (.v (.slice none 0 0)):=by
 unfold AV.isNil at h;split at h
 ·rfl
 ·cases h
def zc(P:ak7)(op:Op)(ρ:Operand->AV)(h:ak4 ao):ak6 (AV×ak4 ao):=
 match op with
 | .slice T x lo hi none=>match eS P T,rZ ρ 0 lo,rZ ρ 0 hi with
   |some _,some 0,some 0=>bif (ρ x).isNil then some (.d (.v (.slice none 0 0)),h)else none
   |_,_,_=>none
 | .call c=>match c.callee with
   | .builtin .cap=>match c.args.toList,c.argTypes.toList with
     |[x],[T]=>bif (ρ x).isNil&&(eS P T).isSome then some (.d (.v (.int .i64 0)),h)else none
     |_,_=>none
   | .builtin .append=>match c.args.toList,c.argTypes.toList with
     |[x,y],[T,U]=>match eS P T,pn P U,ρ y with
      |some (e,k),some _, .d (.v (.int _ (.ofNat m)))=>match iw P e,px P e with
       |some z,some de=>bif (ρ x).isNil&&ct 1 m&&ct 1 k&&z.cells.toList.length==k&&ct m maxLen&&ct (m*de) 140737488355328 then some (.vec h.length 0 m m k,h++[.vec e k (List.replicate m (z.cells.toList.map λu=> .d (.v u)))])else none
       |_,_=>none
      |_,_,_=>none
     |_,_=>none
   |_=>none
 |_=>none
section
variable {P:ak7} {r:ak6 Nat} {n N0:Nat} {G:Gh} {w:ak9} {a:Act} {s:St} {o:Oper} {K:St->Prop} {Q:Exit->Act->ak9->Prop}
theorem ahW{x:Operand}{T:TypeId}(c:Call)(hc:c.callee= .builtin .cap)(J:c.args.toList=[x])(h2:c.argTypes.toList=[T])(ho:o.op= .call c):
 (execOp a.eval o).run P w=((Builtin.cap_ #[T] o.type #[a.eval x]).run P w).andThen λv w'=> .ok (.value v) w':=by
 have e1:c.args= #[x]:=by rw[<-Array.toList_inj];exact J
 have e2:c.argTypes= #[T]:=by rw[<-Array.toList_inj];exact h2
 unfold execOp;simp only[ho,resolve,hc,e1,e2,invoke,builtin,Sem.run_bind,Sem.run_pure,Result.andThen_ok,List.map_toArray,akF,List.map_nil]
theorem SL(hs:db G w a s){x:ak6 Operand}(h:rZ (ev s) 0 x=some 0):Aa a x 0 0:=by
 cases x with
 |none=>rfl
 |some y=>exact MU (d:=0) hs h (Int.le_refl _)
theorem Ys{x:AV}{h':ak4 ao}(hs:db G w a s)(cw:N0<=G.N)(hx:zc P o.op (ev s) s.h=some (x,h'))(hK:K ((s.wh h').put o.dst x)):o.wpIn (WF r) n P a w (iv N0 G w K) Q:=by
 have du:=hs.ev;have nil:∀{y:Operand},(ev s y).isNil=true->a.eval y= .slice none 0 0:=fun{y} h=>by
  have:=du y;rw[YQ h]at this;exact this.val
 unfold zc at hx;split at hx
 next T y lo hi ho=>
  split at hx
  ·next ek e1 e2 e3=>
   obtain⟨hb,he⟩:=lH hx;cases he
   obtain⟨fI,fP⟩:=jB e1;refine fx (by rw[ho];simp) hs cw (v:= .slice none 0 0) ?_ (.d (.v _)) hK;have kg:=Cq (P:=P) (xh:=true) (SL hs e2) (SL hs e3) (akr _) (akr 0) w;unfold execOp;simp [ho,nil hb,Instr.sliceAt,Instr.slice,run_underlying fI,kg,lI fP]
  ·cases hx
 next c ho=>
  split at hx
  ·next hc=>
   split at hx
   ·next y T e1 e2=>
    obtain⟨hb,he⟩:=lH hx;cases he
    rw[aki]at hb;cases hT:eS P T with
    |none=>rw[hT]at hb;cases hb.2
    |some ek=>
     obtain⟨fI,fP⟩:=jB hT;refine fx (by rw[ho];simp) hs cw (v:= .int .i64 0) ?_ (.d (.v _)) hK;rw[ahW c hc e1 e2 ho,nil hb.1];simp [Builtin.cap_,run_underlying fI,goInt]
   ·cases hx
  ·next hc=>
   split at hx
   ·next y z T U e1 e2=>
    split at hx
    ·next e k kn kq m f1 f2 f3=>
     split at hx
     ·next zz de g1 g2=>
      obtain⟨hb,he⟩:=lH hx;cases he
      simp only[aki,dy,beq_iff_eq]at hb;obtain⟨⟨⟨⟨⟨iR,kg⟩,EA⟩,pR⟩,O3⟩,LK⟩:=hb;clear hx;obtain⟨fI,fP⟩:=jB f1;obtain⟨i,kD,jC⟩:∃i,P.info? e=some i/\i.size=k:=by
       unfold gj at fP;cases hq:P.info? e with
       |none=>rw[hq]at fP;cases fP
       |some i=>rw[hq]at fP;exact⟨i,rfl,akz fP⟩
      have hz:i.zero=some zz:=by unfold iw at g1;rw[kD]at g1;exact g1
      have hbt:i.bytes=de:=by unfold px at g2;rw[kD]at g2;exact akz g2
      subst jC;subst hbt;have hy:=du z;rw[f3]at hy;have ey:a.eval z= .int kq (m:Nat):=hy.val;have dO:=run_append_nil_zeros (P:=P) w T U o.type e i zz kq kn fI (Ir f2) kD hz m (by omega) (by omega) (by have:=O3;simp [maxLen]at this;omega) (by omega);have je:zz.cells.size=i.size:=by rw[<-akN];exact pR
      have gg:(List.replicate m (zz.cells.toList.map λu=>AV.d (.v u))).length=m:=akQ;obtain⟨cap,jD⟩:∃cap,cap=grownCap w m 0 e:=⟨_,rfl⟩;have kt:m<=cap:=by rw[jD];exact grownCap_ge _ _ _ _
      have hle:cap<=maxLen:=by rw[jD];exact grownCap_le_maxLen _ _ _ _ O3
      rw[<-jD]at dO;obtain⟨cur,jZ⟩:∃cur,cur=Builtin.zeroCells zz.cells m++Builtin.zeroCells zz.cells (cap-m):=⟨_,rfl⟩;rw[<-jZ]at dO;have gw:cur.size=cap*i.size:=by
        rw[jZ,Array.size_append,size_zeroCells,size_zeroCells,je,<-Nat.add_mul]
        congr 1
        omega
      obtain⟨G',q1,q2,q3,q4⟩:=LL (e:=e) (k:=i.size) (cap:=cap) (cs:=List.replicate m (zz.cells.toList.map λu=>AV.d (.v u))) (cur:=cur) hs.inv (by rw[gg];exact kt) hle gw (λc hc=>by
       rw[List.eq_of_mem_replicate hc,akl];exact pR) w.drew ⟨rfl,rfl,rfl,rfl⟩ (λa' b c x u hc hx hu=>by
       have:=List.eq_of_mem_replicate (akt hc);subst this;rw[akn]at hx;cases hq:zz.cells.toList[b]? with
       |none=>rw[hq]at hx;cases hx
       |some y=>
        rw[hq]at hx;cases hx
        have iQ:b<i.size:=by rw[<-pR];exact(akg.1 hq).1
        have Lg:a'<m:=by have:=(akg.1 hc).1;rwa [gg]at this
        have aL:a'*i.size+b<m*i.size:=ma Lg iQ;rw[jZ,Array.getElem?_append_left (by rw[size_zeroCells,je];exact aL)]at hu;unfold Builtin.zeroCells at hu;rw[Array.getElem?_map,Array.getElem?_range,je,if_pos aL]at hu;simp only[Option.map_some,Option.some.injEq]at hu;rw[(HO (i:=a') iQ).2]at hu;have nT:zz.cells[b]?=some y:=by rw[<-akD];exact hq
        rw[getElem!_pos zz.cells b (by rw[je];exact iQ)]at hu;rw[akC (by rw[je];exact iQ)]at nT;cases nT
        subst hu;exact .d (.v _))
      rw[gg]at q4;refine lW (by rw[ho];simp) hs cw (by rw[A5 c hc e1 e2 ho,nil iR,ey,dO];rfl) q1 q2 q3 (q4 m (akr _)) hK
     ·cases hx
    ·cases hx
   ·cases hx
  ·cases hx
 next=>cases hx
end
end Go.Proofs.YtnnapanbbbcalaaGreatDoor
namespace Go.Proofs.YtnnapanbbbcalaaGreatDoor
open Go.RowKit
section
variable {G:Gh} {w:ak9} {h:ak4 ao}
theorem aeW(hi:bU G w h){b mb c:Nat}(hr:aD G w (.map (some b)) (.mp mb)):bP G.N G w (G.dg w.heap.size) (w.alloc (.mapIter (some b) c #[] c))/\bU (G.dg w.heap.size) (w.alloc (.mapIter (some b) c #[] c)) (h++[.it (c,[]) [.mp mb]])/\aD (G.dg w.heap.size) (w.alloc (.mapIter (some b) c #[] c)) (.pointer (some ⟨w.heap.size,0,none⟩)) (.ptr h.length 0):=by
 have hE:=rB G w hi.z hi.S (.mapIter (some b) c #[] c);have hN:G.N<=(G.dg w.heap.size).N:=Nat.le_succ _;have gi:(G.dg w.heap.size).aM h.length=w.heap.size:=by simp [Gh.dg,hi.len]
 have kQ:∀n(B:ao),n<G.N->B.dZ (G.dg w.heap.size) n=B.dZ G n:=λn B hn=>by
  cases B<;>simp [ao.dZ,Gh.dg,Nat.ne_of_lt hn]
 have fk:∀n,n<G.N->bR (h++[.it (c,[]) [.mp mb]]) (G.dg w.heap.size) n=bR h G n:=λn hn=>by
  have aL:n<h.length:=by rw[hi.len];exact hn
  unfold bR;rw[akq aL,akk aL];exact kQ n _ hn
 have qV:bR (h++[.it (c,[]) [.mp mb]]) (G.dg w.heap.size) h.length=some w.heap.size:=by
  rw[dM (B:= .it (c,[]) [.mp mb]) (by simp)];exact congrArg some gi
 refine⟨hE,⟨by simp [Gh.dg,hi.len],λb hb=>akE (hi.z b hb) hE.size,λb o hs=>akE (hi.S b o hs) hE.size,λn B hB=> ?_,λm n b hm hn=> ?_,hi.gl.keep hE⟩,?_⟩
 ·by_cases hn:n<h.length
  ·rw[akq hn]at hB;have eZ:n<G.N:=hi.len▸hn;exact er.keep eZ hE hN ⟨rfl,rfl,rfl⟩ (λb hb=>⟨Below.heap_alloc w _ _ (hi.gW (n:=n) ((dM hB).trans hb)),λo h=>h⟩) (hi.dn n B hB)
  ·have jY:n=h.length:=by
    have:=(akg.1 hB).1;simp at this;omega
   subst jY;simp at hB;subst hB;exact⟨by rw[gi];exact λhz=>akU _ (hi.z _ hz),λo hs=>by rw[gi]at hs;exact akU _ (hi.S _ _ hs),b, #[.map (some b)],(),by rw[gi];exact World.alloc_heap_new w _,⟨rfl,rfl⟩,λi u c hu hc=>by
    match i with
    |0=>cases hu;cases hc;exact hr.keep hE hN
    |i+1=>simp at hu⟩
 ·have key:∀n b,bR (h++[.it (c,[]) [.mp mb]]) (G.dg w.heap.size) n=some b->(n<G.N/\bR h G n=some b)\/(n=h.length/\b=w.heap.size):=λn b hn=>by
   by_cases aL:n<G.N
   ·exact .inl ⟨aL,by rw[<-fk n aL];exact hn⟩
   ·by_cases e:n=h.length
    ·subst e;rw[qV]at hn;cases hn;exact .inr ⟨rfl,rfl⟩
    ·rw[sB (akM (by simp;have:=hi.len;omega))]at hn;cases hn
  rcases key m b hm with⟨_,h1⟩|⟨rfl,rfl⟩<;>rcases key n _ hn with⟨_,eZ⟩|⟨rfl,hb⟩
  ·exact hi.inj m n b h1 eZ
  ·have:=hi.gW h1;omega
  ·have:=hi.gW eZ;omega
  ·rfl
 ·have:=aD.ptr (G:=G.dg w.heap.size) (w:=w.alloc (.mapIter (some b) c #[] c)) h.length 0 (by simp [Gh.dg,hi.len])
  rwa [gi]at this
theorem UX(hi:bU G w h)(e:TypeId):bU (G.dg w.heap.size) (w.alloc (.cells #[.pointer none, .slice none 0 0] e)) (h++[.eO e [.d (.v (.slice none 0 0))]])/\aD (G.dg w.heap.size) (w.alloc (.cells #[.pointer none, .slice none 0 0] e)) (.pointer (some ⟨w.heap.size,0,none⟩)) (.ptr h.length 0):=by
 have hE:=rB G w hi.z hi.S (.cells #[.pointer none, .slice none 0 0] e);have hN:G.N<=(G.dg w.heap.size).N:=Nat.le_succ _;have gi:(G.dg w.heap.size).aM h.length=w.heap.size:=by simp [Gh.dg,hi.len]
 have kQ:∀n(B:ao),n<G.N->B.dZ (G.dg w.heap.size) n=B.dZ G n:=λn B hn=>by
  cases B<;>simp [ao.dZ,Gh.dg,Nat.ne_of_lt hn]
 have fk:∀n,n<G.N->bR (h++[.eO e [.d (.v (.slice none 0 0))]]) (G.dg w.heap.size) n=bR h G n:=λn hn=>by
  have aL:n<h.length:=by rw[hi.len];exact hn
  unfold bR;rw[akq aL,akk aL];exact kQ n _ hn
 have qV:bR (h++[.eO e [.d (.v (.slice none 0 0))]]) (G.dg w.heap.size) h.length=some w.heap.size:=by
  rw[dM (B:= .eO e [.d (.v (.slice none 0 0))]) (by simp)];exact congrArg some gi
 refine⟨⟨by simp [Gh.dg,hi.len],λb hb=>akE (hi.z b hb) hE.size,λb o hs=>akE (hi.S b o hs) hE.size,λn B hB=> ?_,λm n b hm hn=> ?_,hi.gl.keep hE⟩,?_⟩
 ·by_cases hn:n<h.length
  ·rw[akq hn]at hB;have eZ:n<G.N:=hi.len▸hn;exact er.keep eZ hE hN ⟨rfl,rfl,rfl⟩ (λb hb=>⟨Below.heap_alloc w _ _ (hi.gW (n:=n) ((dM hB).trans hb)),λo h=>h⟩) (hi.dn n B hB)
  ·have jY:n=h.length:=by
    have:=(akg.1 hB).1;simp at this;omega
   subst jY;simp at hB;subst hB;exact⟨by rw[gi];exact λhz=>akU _ (hi.z _ hz),λo hs=>by rw[gi]at hs;exact akU _ (hi.S _ _ hs),(), #[.slice none 0 0], .pointer none,by rw[gi];exact World.alloc_heap_new w _,⟨rfl, .inl rfl,λv hv=>Or.inl (by simpa using hv)⟩,λi u c hu hc=>by
    match i with
    |0=>cases hu;cases hc;exact .d (.v _)
    |i+1=>simp at hu⟩
 ·have key:∀n b,bR (h++[.eO e [.d (.v (.slice none 0 0))]]) (G.dg w.heap.size) n=some b->(n<G.N/\bR h G n=some b)\/(n=h.length/\b=w.heap.size):=λn b hn=>by
   by_cases aL:n<G.N
   ·exact .inl ⟨aL,by rw[<-fk n aL];exact hn⟩
   ·by_cases e:n=h.length
    ·subst e;rw[qV]at hn;cases hn;exact .inr ⟨rfl,rfl⟩
    ·rw[sB (akM (by simp;have:=hi.len;omega))]at hn;cases hn
  rcases key m b hm with⟨_,h1⟩|⟨rfl,rfl⟩<;>rcases key n _ hn with⟨_,eZ⟩|⟨rfl,hb⟩
  ·exact hi.inj m n b h1 eZ
  ·have:=hi.gW h1;omega
  ·have:=hi.gW eZ;omega
  ·rfl
 ·have:=aD.ptr (G:=G.dg w.heap.size) (w:=w.alloc (.cells #[.pointer none, .slice none 0 0] e)) h.length 0 (by simp [Gh.dg,hi.len])
  rwa [gi]at this
theorem HN{n mb:Nat}{sn:Nat×ak4 Nat}(hi:bU G w h)(hb:h[n]?=some (.it sn [.mp mb])):(∀o,¬G.S (G.aM n) o)/\w.heap[G.aM n]?=some (.mapIter (some (G.aM mb)) sn.1 sn.2.toArray sn.1)/\aD G w (.map (some (G.aM mb))) (.mp mb):=by
 obtain⟨J,h2,fn,vs,_,h3,⟨_,h4⟩,h5⟩:=hi.dn n _ hb;have:=h5 0 (.map (some fn)) (.mp mb) (by rw[h4];rfl) rfl;cases this with
 |mp _ aL=>exact⟨h2,h3, .mp mb aL⟩
theorem Sk(hi:bU G w h):bP G.N G w G w.drew/\bU G w.drew h:=by
 have hE:bP G.N G w G w.drew:=⟨akr _,λ_ _ h=>h,λ_ _ _=>rfl,λ_ _=>rfl,λ_ _=> .inl ⟨rfl,rfl⟩,gQ rfl,λ_ _=>rfl,rfl,rfl,rfl,λ_ _ h=> .inl h⟩;exact⟨hE,hi.len,hi.z,hi.S,λn B hB=>er.keep (hi.lt hB) hE (akr _) ⟨rfl,rfl,rfl⟩ (λ_ _=>⟨rfl,λ_ h=>h⟩) (hi.dn n B hB),hi.inj,hi.gl.keep hE⟩
end
def OE(P:ak7)(o:Oper)(K:St->Prop)(s:St):Prop:=
 match o.op with
 | .range T m=>match tc P T,ev s m with
   |some _, .mp mb=>match s.h[mb]? with
    |some (.ie kv)=>K ((s.wh (s.h++[.it (kv.length,[]) [.mp mb]])).put o.dst (.ptr s.h.length 0))
    |_=>False
   |_,_=>False
 | .next it false=>match ev s it with
   | .ptr m 0=>match s.h[m]? with
     |some (.it sn [.mp mb])=>match s.h[mb]? with
      |some (.ie kv)=>sn.1=kv.length/\(∀b p,kv[b]?=some p->b ∉ sn.2->K ((s.wh (s.h.set m (.it (sn.1,sn.2++[b]) [.mp mb]))).put o.dst (.aW [.d (.v (.bool true)), .d (.v (.string p.1)), .d p.2])))/\((∀b,b<kv.length->b∈sn.2)->K (s.put o.dst (.aW [.d (.v (.bool false))])))
      |_=>False
     |_=>False
   |_=>False
 | .entry it=>match ev s it with
   | .ptr m 0=>match s.h[m]? with
     |some (.it sn [.mp mb])=>match s.h[mb]? with
      |some (.ie kv)=>sn.1=kv.length/\∃l b p,sn.2=l++[b]/\kv[b]?=some p/\K (s.put o.dst (.aW [.d (.v (.string p.1)), .d p.2]))
      |_=>False
     |_=>False
   |_=>False
 | .alloc e=>match iw P e with
   |some z=>z.cells= #[.pointer none, .slice none 0 0]/\K ((s.wh (s.h++[.eO e [.d (.v (.slice none 0 0))]])).put o.dst (.ptr s.h.length 0))
   |none=>False
 | .box e x=>ev s x= .agg [.d (.v (.pointer none)), .d (.v (.slice none 0 0))]/\K ((s.wh (s.h++[.eO e [.d (.v (.slice none 0 0))]])).put o.dst (.ptr s.h.length 0))
 |_=>False
section
variable {P:ak7} {r:ak6 Nat} {n N0:Nat} {G:Gh} {w:ak9} {a:Act} {s:St} {o:Oper} {K:St->Prop} {Q:Exit->Act->ak9->Prop}
theorem OI{mb:Nat}{kv:ak4 (ak5×D)}(hi:bU G w s.h)(hb:s.h[mb]?=some (.ie kv)):∃es:Array MapEntry,w.heap[G.aM mb]?=some (.map es kv.length)/\wg G.S w es kv.length kv:=by
 obtain⟨_,_,es,c,J,h2⟩:=hi.dn mb _ hb;have:c=kv.length:=h2.ok.AS.trans h2.all.symm;subst this;exact⟨es,J,h2⟩
theorem wg.mem{S:Nat->Nat->Prop}{es:Array MapEntry}{c:Nat}{kv:ak4 (ak5×D)}(h:wg S w es c kv){e:MapEntry}(he:e∈es.toList):es[e.born]?=some e/\e.born<kv.length:=by
 obtain⟨i,hi,rfl⟩:=List.getElem_of_mem he;have hs:es[i]?=some es.toList[i]:=by simp
 have hb:=h.ok.born i _ hs;rw[hb];exact⟨hs,by rw[h.all];simpa using hi⟩
theorem aei(hs:db G w a s)(cw:N0<=G.N)(hx:OE P o K s):o.wpIn (WF r) n P a w (iv N0 G w K) Q:=by
 have du:=hs.ev;have ptr:∀{y:Operand}{n:Nat},ev s y= .ptr n 0->a.eval y= .pointer (some ⟨G.aM n,0,none⟩):=fun{y n} h=>by
  have:=du y;rw[h]at this;generalize a.eval y=u at this;cases this;rfl
 unfold OE at hx;split at hx
 next T m ho=>
  split at hx
  ·next ke mb e1 e2=>
   split at hx
   ·next kv hb=>
    obtain⟨es,J,h2⟩:=OI hs.inv hb;have hv:=du m;rw[e2]at hv;have ea:a.eval m= .map (some (G.aM mb)):=by
     generalize a.eval m=u at hv;cases hv;rfl
    rw[ea]at hv;obtain⟨i1,i2,i3⟩:=aeW (c:=kv.length) hs.inv hv;obtain⟨k0,el⟩:=ke;refine lW (by rw[ho];simp) hs cw (v:= .pointer (some ⟨w.heap.size,0,none⟩)) (w':=w.alloc (.mapIter (some (G.aM mb)) kv.length #[] kv.length)) ?_ i1 (Nat.le_succ _) i2 i3 hx;unfold execOp;simp [ho,ea,Instr.range,run_underlying (C1 e1),MapKept.run_getObj_map J,Result.andThen]
   ·cases hx
  ·cases hx
 next it ho=>
  split at hx
  ·next m e1=>
   split at hx
   ·next sn mb hn=>
    split at hx
    ·next kv hb=>
     obtain⟨hc,hK1,hK2⟩:=hx;obtain⟨es,J,h2⟩:=OI hs.inv hb;obtain⟨t1,t2,t3⟩:=HN hs.inv hn;rw[hc]at t2;have hr:=run_next_at (P:=P) w o.type _ _ _ _ _ _ _ t2 J (λx hx=>(h2.mem hx).2) (akr _);rcases hr with⟨h0,hr⟩|⟨e',qD,w1,ye,hr⟩
     ·refine fx (by rw[ho];simp) hs cw (v:= .tuple #[.bool false]) ?_ (.aW _ _ rfl λi u c hu hc=> ?_) (hK2 λb gV=> ?_)
      ·unfold execOp;simp [ho,ptr e1,hr]
      ·match i with
       |0=>cases hu;cases hc;exact .d (.v _)
       |i+1=>simp at hu
      ·have aL:b<es.size:=by rw[<-h2.all];exact gV
       have FN:es[b]?=some es[b]:=akC aL;have B9:=h2.ok.born b _ FN;have LI:leftOf es sn.2.toArray= #[]:=Array.eq_empty_of_size_eq_zero h0;unfold leftOf at LI;rw[Array.filter_eq_empty_iff]at LI;have:=LI es[b] (Array.getElem_mem aL);rw[B9]at this
       simpa using this
     ·have hm:e'∈es.toList/\e'.born ∉ sn.2:=by
       unfold leftOf at qD;simp only[Array.toList_filter,List.mem_filter]at qD;exact⟨qD.1,by simpa using qD.2⟩
      obtain⟨q1,q2⟩:=h2.mem hm.1;obtain⟨p,p1,p2,p3⟩:=h2.ord _ _ q1;have hK:=hK1 e'.born p p1 hm.2;obtain⟨hX,wD⟩:bP G.N G w G w1/\bU G w1 s.h:=by
       rcases ye with rfl|rfl
       ·exact⟨bP.refl _ _ _,hs.inv⟩
       ·exact Sk hs.inv
      obtain⟨Zc,t2',_⟩:=HN wD hn;obtain⟨z1,z2,z3,z4,z5,z6,z7⟩:=wD.dn m _ hn;obtain⟨ja,EK⟩:=KG (B':= .it (sn.1,sn.2++[e'.born]) [.mp mb]) (wA:= .mapIter (some (G.aM mb)) kv.length (sn.2.toArray.push e'.born) kv.length) wD hn rfl Zc t2' (.inr rfl) λw' fM e9 hE=>by
       have YW:=(HN wD hn).2.2;refine⟨z1,z2,G.aM mb, #[.map (some (G.aM mb))],(),?_,⟨rfl,rfl⟩,λi u c hu hc=> ?_⟩
       ·rw[e9];simp [hc]
       ·match i with
        |0=>cases hu;cases hc;exact YW.keep hE (akr _)
        |i+1=>simp at hu
      refine lW (by rw[ho];simp) hs cw (v:= .tuple #[.bool true,e'.key,e'.val]) ?_ (hX.trans ja) (akr _) EK (.aW _ _ rfl λi u c hu hc=> ?_) hK
      ·unfold execOp;simp only[ho,ptr e1];simp [hr];rfl
      ·match i with
       |0=>cases hu;cases hc;exact .d (.v _)
       |1=>cases hu;cases hc;rw[p2];exact .d (.v _)
       |2=>cases hu;cases hc;exact .d (p3.keep (hX.trans ja).S (hX.trans ja).cell)
       |i+3=>simp at hu
    ·cases hx
   ·cases hx
  ·cases hx
 next it ho=>
  split at hx
  ·next m e1=>
   split at hx
   ·next sn mb hn=>
    split at hx
    ·next kv hb=>
     obtain⟨hc,l,b,p,hl,hp,hK⟩:=hx;obtain⟨es,J,h2⟩:=OI hs.inv hb;obtain⟨t1,t2,t3⟩:=HN hs.inv hn;have aL:b<es.size:=by rw[<-h2.all];exact(akg.1 hp).1
     have FN:es[b]?=some es[b]:=akC aL;have B9:=h2.ok.born b _ FN;obtain⟨p',p1,p2,p3⟩:=h2.ord _ _ FN;rw[hp]at p1;cases p1
     have jz:(es.toList.map (·.born)).Nodup:=by
      have e:es.toList.map (·.born)=List.range es.size:=by
       apply List.ext_getElem?;intro i;rw[akn,akD];by_cases hi:i<es.size
       ·rw[akC hi,Option.map_some,h2.ok.born i _ (akC hi),List.getElem?_range hi]
       ·rw[Array.getElem?_eq_none (by omega),akM (by simp;omega)];rfl
      rw[e];exact List.nodup_range
     have hr:=run_entry_at (P:=P) w (G.aM m) (G.aM mb) sn.1 l.toArray es kv.length es[b] (by rw[t2,hl,B9,hc];simp) J (by simp) jz;refine fx (by rw[ho];simp) hs cw (v:= .tuple #[es[b].key,es[b].val]) ?_ (.aW _ _ rfl λi u c hu hc=> ?_) hK
     ·unfold execOp;simp [ho,ptr e1,hr]
     ·match i with
      |0=>cases hu;cases hc;rw[p2];exact .d (.v _)
      |1=>cases hu;cases hc;exact .d p3
      |i+2=>simp at hu
    ·cases hx
   ·cases hx
  ·cases hx
 next e ho=>
  split at hx
  ·next z hz=>
   obtain⟨hc,hK⟩:=hx;obtain⟨i1,i2⟩:=UX hs.inv e;exact lW (by rw[ho];simp) hs cw (by unfold execOp;simp [ho,Instr.alloc,BD hz,newVar,newRow,hc]) (rB G w hs.inv.z hs.inv.S _) (Nat.le_succ _) i1 i2 hK
  ·cases hx
 next e x ho=>
  obtain⟨hx1,hK⟩:=hx;have hc:(a.eval x).cells= #[.pointer none, .slice none 0 0]:=by
   have hv:=du x;rw[hx1]at hv;generalize a.eval x=u at hv;cases hv with|agg vs _ hl hr=>
   obtain⟨l⟩:=vs
   match l,hl with
   |[p,q],_=>
    have h0:=(hr 0 p _ rfl rfl).val;have J:=(hr 1 q _ rfl rfl).val;subst h0;subst J;rfl
  obtain⟨i1,i2⟩:=UX hs.inv e;exact lW (by rw[ho];simp) hs cw (by unfold execOp;simp [ho,Instr.box,newVar,newRow,hc]) (rB G w hs.inv.z hs.inv.S _) (Nat.le_succ _) i1 i2 hK
 ·cases hx
end
def iB(ops:Array Oper)(o:Oper)(s:St)(yes no:Prop):Prop:=
 match o.guard with
 |none=>yes
 |some (j,want)=>match (ops[j]?).bind (·.dst)with
  |some d=>match bw s.t d with
   | .d (.v (.bool b))=>(b=want->yes)/\(b= !want->no)
   | .d (.v (.tuple _))=>no
   |_=>False
  |none=>False
structure bD(P:Program)(r:Option Nat)(N0:Nat)(c:Code)(Q:Exit->St->Prop)(s:St):Prop where
 run:∀(G:Gh)(w:World)(a:Act)(n:Nat),db G w a s->N0<=G.N->c.wpIn (WF r) n P (λe a' w'=>iv N0 G w (Q e) a' w') a w
def hO(K:St->Prop)(Q:Exit->St->Prop):Exit->St->Prop
 | .normal,s=>K s
 |e,s=>Q e s
def lx:Nat->ak4 AV->ak4 (Nat×AV)
 |_,[]=>[]
 |k,x::l=>(k,x)::lx (k+1) l
theorem OU:∀(l:ak4 AV)(k i:Nat),bw (lx k l) i=if k<=i then(l[i-k]?).getD .dead else .dead
 |[],k,i=>by simp [lx,bw]
 |x::l,k,i=>by
  rw[lx,kO,OU l (k+1) i];by_cases h:i=k
  ·subst h;simp
  ·rw[if_neg h];by_cases h2:k<=i
   ·rw[if_pos (by omega),if_pos h2,show i-k=i-(k+1)+1 by omega,akR]
   ·rw[if_neg (by omega),if_neg h2]
def YS(P:ak7)(k:Nat)(x:AV)(h:ak4 ao)(C:Bool->ak4 ao->Prop):Prop:=
 ∀(G:Gh)(w:ak9)(v:ak8)(r:ak6 Nat)(n:Nat),bU G w h->aD G w v x->k<G.N/\∃(p:Nat)(as bd:Code)(fn:FuncId)(tm:Array ak8)(D:Nat),
  w.heap[G.aM k]?=some (.loop {state:= .ready,pending:=none,fn:=fn,tmps:=tm,params:= #[p],assign:=as,body:=bd,defers:=D})/\
  RoundIn (WF r) n P (G.aM k) fn (tm.setIfInBounds p v) as bd w λe w'=>∃(b:Bool)(G':Gh)(h':ak4 ao),e= .returned (.bool b)/\bP G.N G w G' w'/\G.N<=G'.N/\bU G' w' h'/\C b h'
def ah4(C:Bool->ak4 ao->Prop)(k:Nat):Exit->St->Prop
 | .normal,s2=>∃p as bd kd,s2.h[k]?=some (.lp .busy p as bd kd)/\C true (s2.h.set k (.lp .ready p as bd kd))
 | .ret,s2=>∃p as bd kd,s2.h[k]?=some (.lp .busy p as bd kd)/\C false (s2.h.set k (.lp (.done .ret) p as bd kd))
 | .exit i,s2=>∃p as bd kd,s2.h[k]?=some (.lp .busy p as bd kd)/\C false (s2.h.set k (.lp (.done (.exit i)) p as bd kd))
 |_,_=>False
def Hu(P:ak7)(o:Oper)(K:St->Prop)(s:St):Prop:=
 match o.op with
 | .call c=>match c.callee with
   | .value f=>match ev s f,c.args.toList.map (ev s)with
     | .cp k,[x]=>YS P k x s.h λb h'=>K ((s.wh h').put o.dst (.d (.v (.bool b))))
     |_,_=>False
   |_=>False
 |_=>False
def agn(P:ak7)(o:Oper)(K:St->Prop)(s:St):Prop:=∃x h',zc P o.op (ev s) s.h=some (x,h')/\K ((s.wh h').put o.dst x)
def nP(P:ak7)(o:Oper)(K:St->Prop)(s:St):Prop:=FD P o K s\/B6 P o K s\/pZ P o K s\/Hu P o K s\/agn P o K s\/OE P o K s
def rG(P:ak7)(ops:Array Oper):ak4 Oper->(St->Prop)->St->Prop
 |[],K,s=>K s
 |o::rest,K,s=>iB ops o s (nP P o (rG P ops rest K) s) (rG P ops rest K (s.put o.dst (.d (.v undef))))
def po(id:Nat)(Q:Exit->St->Prop):Exit->St->Prop
 | .exit pL,s=>bif pL==id then Q .normal s else Q (.exit pL) s
 |e,s=>Q e s
section
variable {P:ak7} {r:ak6 Nat} {n N0:Nat} {G:Gh} {w:ak9} {a:Act} {s:St} {o:Oper} {Q:Exit->St->Prop}
theorem iv.mono{K K':St->Prop}(h:∀s,K s->K' s){a':Act}{w':ak9}(hn:iv N0 G w K a' w'):iv N0 G w K' a' w':=
 let ⟨G',s',J,h2,h3,h4⟩:=hn;⟨G',s',J,h2,h3,h _ h4⟩
theorem iv.trans{K:St->Prop}{G1:Gh}{w1:ak9}(hE:bP N0 G w G1 w1){a':Act}{w':ak9}(hn:iv N0 G1 w1 K a' w'):iv N0 G w K a' w':=
 let ⟨G',s',J,h2,h3,h4⟩:=hn;⟨G',s',hE.trans J,h2,h3,h4⟩
theorem bD.mono{c:Code}{Q':Exit->St->Prop}(h:bD P r N0 c Q s)(hq:∀e s,Q e s->Q' e s):bD P r N0 c Q' s:=
 ⟨λG w a n hs hN=>wpIn_mono (h.run G w a n hs hN) λe _ _ hn=>hn.mono (hq e)⟩
theorem MB{ops:Array Oper}{yes no:Prop}(hs:db G w a s)(h:iB ops o s yes no):if Region.wanted o (yielded ops a.tmps)then yes else no:=by
 unfold iB at h;split at h
 ·rename_i hg
  rw[if_pos (by simp [Region.wanted,hg])];exact h
 ·rename_i j want hg
  split at h
  ·rename_i d hd
   have hv:=hs.tmp d;split at h
   ·rename_i b hb
    rw[hb]at hv;have e:=hv.bool;have hy:yielded ops a.tmps j=some b:=by
      unfold yielded;rw[hd,akf];by_cases aL:d<a.tmps.size
      ·rw[akC aL];have:a.tmps.getD d undef=a.tmps[d]:=by simp [Array.getD,aL]
       rw[this]at e;rw[e]
      ·have:a.tmps.getD d undef=undef:=by simp [Array.getD,aL]
       rw[this]at e;cases e
    by_cases vF:b=want
    ·rw[if_pos (by simp [Region.wanted,hg,hy,vF])];exact h.1 vF
    ·rw[if_neg (by simp [Region.wanted,hg,hy,vF])];exact h.2 (by cases b<;>cases want<;>simp_all)
   ·rename_i vs hb
    rw[hb]at hv;have e:=hv.val;have hy:yielded ops a.tmps j=none:=by
      unfold yielded;rw[hd,akf];by_cases aL:d<a.tmps.size
      ·rw[akC aL];have:a.tmps.getD d undef=a.tmps[d]:=by simp [Array.getD,aL]
       rw[this]at e;rw[e]
      ·rw[Array.getElem?_eq_none (Nat.le_of_not_lt aL)]
    rw[if_neg (by simp [Region.wanted,hg,hy])];exact h
   ·exact h.elim
  ·exact h.elim
theorem YS.mono{k:Nat}{x:AV}{h:ak4 ao}{C C':Bool->ak4 ao->Prop}(hy:YS P k x h C)(hc:∀b h',C b h'->C' b h'):YS P k x h C':=λG w v r n hi hv=>
 let ⟨h0,p,as,bd,fn,tm,D,J,h2⟩:=hy G w v r n hi hv
 ⟨h0,p,as,bd,fn,tm,D,J,h2.mono λ_ _ ⟨b,G',h',a1,a2,a3,a4,a5⟩=>⟨b,G',h',a1,a2,a3,a4,hc _ _ a5⟩⟩
theorem aed{k:Nat}{x:AV}{h:ak4 ao}{C:Bool->ak4 ao->Prop}
 (hA:∃p as bd cs,h[k]?=some (.lp .ready p as bd cs)/\p<cs.length/\∀(l:Nat),bD P (some l) h.length as (hO (λs1=>∃p1 rC qR vc,s1.h[k]?=some (.lp .ready p1 rC qR vc)/\bD P (some l) h.length bd (ah4 C k) ⟨s1.n,s1.t,s1.h.set k (.lp .busy p1 rC qR vc)⟩) (λ_ _=>False)) ⟨cs.length,(p,x)::lx 0 cs,h⟩):YS P k x h C:=by
 intro G w v r n hi NT;obtain⟨p,as,bd,cs,hk,hp,hA⟩:=hA;have zJ:k<G.N:=hi.lt hk;obtain⟨hS,fn,tm,D,h3,h4,h5,akc⟩:=EF hi hk;refine⟨zJ,p,as,bd,fn,tm,D,h3,?_⟩;refine roundIn_of_wpIn (F:=WF r) trivial ?_;have nr:db G w {tmps:=tm.setIfInBounds p v,defers:=[]} ⟨cs.length,(p,x)::lx 0 cs,h⟩:=by
  refine⟨by simp [h4],λi=> ?_,hi,qn.nil _ _⟩;show aD _ _ _ (bw ((p,x)::lx 0 cs) i);rw[kO];split
  ·next e=>
   subst e;have:(tm.setIfInBounds i v).getD i undef=v:=by simp [Array.getD,h4,hp]
   rw[this];exact NT
  ·next e=>
   rw[OU];simp only[Nat.zero_le,if_true,Nat.sub_zero];cases fM:cs[i]? with
   |none=>exact .dead _
   |some y=>
    have aL:i<tm.size:=by rw[h4];exact(akg.1 fM).1
    have:(tm.setIfInBounds p v).getD i undef=tm[i]:=by
     simp [Array.getD,aL,Ne.symm e]
    rw[this];exact h5 i _ y (akC aL) fM
 have Fk:=hA (G.aM k);rw[hi.len]at Fk;refine wpIn_mono (Fk.run G w _ n nr (akr _)) λe1 a1 w1 vn=> ?_;obtain⟨G1,s1,hX,fK,eY,ux⟩:=vn;cases e1 with
 |normal=>
  obtain⟨p1,rC,qR,vc,kN,iR⟩:=ux;have DM:G1.aM k=G.aM k:=hX.aM k zJ;obtain⟨_,fn1,tm1,D1,g3,g4,g5,TI⟩:=EF eY.inv kN;obtain⟨gE,gI⟩:=TI .busy;rw[DM]at g3 gE gI;refine⟨_,run_beginRound g3 rfl,?_⟩;have zj:db G1 (w1.putObj (G.aM k) (.loop {state:= .busy,pending:=none,fn:=fn1,tmps:=tm1,params:= #[p1],assign:=rC,body:=qR,defers:=D1})) a1 ⟨s1.n,s1.t,s1.h.set k (.lp .busy p1 rC qR vc)⟩:=eY.move gE (akr _) gI;refine wpIn_mono (iR.run G1 _ a1 n zj fK) λe3 a3 w3 hn3=> ?_;obtain⟨G3,s3,VX,WS,ZQ,pF⟩:=hn3;have fin:∀(jump:ak6 Code)(ls:LS)(b:Bool)(p:Nat)(as bd:Code)(kd:ak4 AV),s3.h[k]?=some (.lp .busy p as bd kd)->ls.pd=jump->ls.st=(if jump.isNone then .ready else .done)->jump.isNone=b->C b (s3.h.set k (.lp ls p as bd kd))->
   ∃v w',(Instr.endRound (G.aM k) jump).run P w3= .ok v w'/\∃(b:Bool)(G':Gh)(h':ak4 ao),(Ending.returned v:Ending)= .returned (.bool b)/\bP G.N G w G' w'/\G.N<=G'.N/\bU G' w' h'/\C b h':=λjump ls b p as bd kd hk3 q1 q2 q3 hK=>by
   have hr3:G3.aM k=G.aM k:=(VX.aM k zJ).trans DM;obtain⟨_,fn3,tm3,D3,z3,z4,z5,adm⟩:=EF ZQ.inv hk3;obtain⟨zE,zI⟩:=adm ls;rw[hr3]at z3 zE zI;subst q1;have DC:=run_endRound (P:=P) ls.pd z3;rw[<-q2]at DC;refine⟨_,_,DC,b,G3,_,by rw[q3],?_,WS,zI,hK⟩;exact(hX.trans ((gE.less fK).trans VX)).trans (zE.less WS)
  cases e3 with
  |normal=>obtain⟨p2,Ao,A7,kd,y1,y2⟩:=pF;exact fin none .ready true p2 Ao A7 kd y1 rfl rfl rfl y2
  |ret=>obtain⟨p2,Ao,A7,kd,y1,y2⟩:=pF;exact fin (some .ret) (.done .ret) false p2 Ao A7 kd y1 rfl rfl rfl y2
  |exit i=>obtain⟨p2,Ao,A7,kd,y1,y2⟩:=pF;exact fin (some (.exit i)) (.done (.exit i)) false p2 Ao A7 kd y1 rfl rfl rfl y2
  |_=>exact pF.elim
 |_=>exact ux.elim
theorem ahy{K:St->Prop}{Q:Exit->Act->ak9->Prop}(hs:db G w a s)(hN:N0<=G.N)(h:Hu P o K s):o.wpIn (WF r) n P a w (iv N0 G w K) Q:=by
 unfold Hu at h;split at h
 ·next c ho=>
  split at h
  ·next f hc=>
   split at h
   ·next k x hf hx=>
    have hv:=hs.ev f;rw[hf]at hv;have ea:a.eval f= .func (.yield (G.aM k)) #[] #[]:=by
     generalize a.eval f=u at hv;cases hv;rfl
    obtain⟨p1,p2⟩:=uO hs c.args;obtain⟨v,qK⟩:∃v,c.args.map a.eval= #[v]:=by
     have:(c.args.map a.eval).size=1:=by rw[p1,hx];rfl
     exact⟨(c.args.map a.eval)[0],Array.ext (by simp [this]) λi J h2=>by
      have:i=0:=by simp at h2;exact h2
      subst this;rfl⟩
    have NT:aD G w v x:=p2 0 v x (by rw[qK];rfl) (by rw[hx];rfl);obtain⟨zJ,p,as,bd,fn,tm,D,h3,hA⟩:=h G w v r (n-1) hs.inv NT;have jz:∀c',o.op≠ .defer c':=λc' e=>by rw[ho]at e;cases e
    have hy:=run_yield (P:=P) (args:= #[v]) h3 rfl;have dO:(o.semAt (WF r).round a.eval).run P w= .ok (.round (G.aM k) fn (tm.setIfInBounds p v) as bd) w:=by
     rw[Oper.semAt_eq _ _ _ jz];unfold execOp;simp only[ho,resolve,hc,ea];simp [Deferred.ofValue,invoke,qK,hy]
    unfold Oper.wpIn;refine⟨λg hg=>trivial,?_⟩;rw[dO,Oper.uponIn_round];refine⟨λh=>(by simp [WF,Fence.wide]at h),hA.mono λe w' hp=> ?_⟩;obtain⟨b,G',h',rfl,hE,EM,dY,hK⟩:=hp;exact⟨G',_,hE.less hN,aky hN EM,(hs.move hE EM dY).put (.d (.v _)) o.dst,hK⟩
   ·exact h.elim
  ·exact h.elim
 ·exact h.elim
theorem Yv{K:St->Prop}{Q:Exit->Act->ak9->Prop}(hs:db G w a s)(hN:N0<=G.N)(h:nP P o K s):o.wpIn (WF r) n P a w (iv N0 G w K) Q:=by
 rcases h with h|h|h|h|⟨x,h',h,hK⟩|h
 ·exact Lm hs hN (.inl h)
 ·exact Lm hs hN (.inr (.inl h))
 ·exact Lm hs hN (.inr (.inr h))
 ·exact ahy hs hN h
 ·exact Ys hs hN h hK
 ·exact aei hs hN h
theorem Mz{ops:Array Oper}{K:St->Prop}{Q':Exit->Act->ak9->Prop}(hQ:∀a' w',iv N0 G w K a' w'->Q' .normal a' w'):∀(l:ak4 Oper)(k:Nat),(∀j,l[j]?=ops[k+j]?)->∀(G1:Gh)(w1:ak9)(a:Act)(s:St),
 bP N0 G w G1 w1->N0<=G1.N->db G1 w1 a s->rG P ops l K s->wpOpsIn (WF r) n P ops Q' (List.range' k l.length) a w1
 |[],k,_,G1,w1,a,s,hE,hN,hs,h=>hQ _ _ ⟨G1,s,hE,hN,hs,h⟩
 |o::l,k,hl,G1,w1,a,s,hE,hN,hs,h=>by
  have h0:ops[k]?=some o:=by simpa using (hl 0).symm
  have oD:∀j,l[j]?=ops[k+1+j]?:=λj=>by have:=hl (j+1);simpa [Nat.add_assoc,Nat.add_comm 1 j]using this
  have hg:=MB hs h;simp only[akj,List.range'_succ,wpOpsIn,h0];split
  ·rename_i hw
   rw[if_pos hw]at hg;exact Oper.wpIn_mono (λa' w' hn=>by
     obtain⟨G2,s2,e2,n2,Mj,k2⟩:=hn;exact Mz hQ l (k+1) oD G2 w' a' s2 (hE.trans e2) n2 Mj k2) (Yv hs hN hg)
  ·rename_i hw
   rw[if_neg hw]at hg;exact⟨λ_ _=>trivial,Mz hQ l (k+1) oD G1 w1 _ _ hE hN (hs.put (.d (.v undef)) o.dst) hg⟩
theorem e7{id:Nat}{ops:Array Oper}(h:rG P ops ops.toList (Q .normal) s):bD P r N0 (.region id ops false) Q s:=by
 constructor
 intro G w a n hs hN;refine wpIn_region ?_;rw[List.range_eq_range',<-akN];exact Mz (G:=G) (w:=w) (K:=Q .normal) (λ_ _ h=>h) ops.toList 0 (by simp) G w a s (bP.refl _ _ _) hN hs h
theorem cx(h:Q .normal s):bD P r N0 .skip Q s:=⟨λG _ _ _ hs hN=>wpIn_skip ⟨G,s,bP.refl _ _ _,hN,hs,h⟩⟩
theorem cV(h:Q .ret s):bD P r N0 .ret Q s:=⟨λG _ _ _ hs hN=>wpIn_ret ⟨G,s,bP.refl _ _ _,hN,hs,h⟩⟩
theorem kR{id:Nat}(h:Q (.exit id) s):bD P r N0 (.exit id) Q s:=⟨λG _ _ _ hs hN=>wpIn_exit ⟨G,s,bP.refl _ _ _,hN,hs,h⟩⟩
theorem ar{x y:Code}(h:bD P r N0 x (hO (λs'=>bD P r N0 y Q s') Q) s):bD P r N0 (.seq x y) Q s:=by
 constructor
 intro G w a n hs hN;refine wpIn_seq (wpIn_mono (h.run G w a n hs hN) λe a1 w1 hn=> ?_);obtain⟨G1,s1,hE,fK,eY,hq⟩:=hn;cases e with
 |normal=>exact wpIn_mono (hq.run G1 w1 a1 n eY fK) λ_ _ _ hn=>hn.trans hE
 |_=>exact⟨G1,s1,hE,fK,eY,hq⟩
theorem Ln{c:Operand}{x y:Code}{t:Bool}(hc:ev s c= .d (.v (.bool t)))(J:t=true->bD P r N0 x Q s)(h2:t=false->bD P r N0 y Q s):bD P r N0 (.cond c x y) Q s:=by
 constructor
 intro G w a n hs hN;have hb:=hs.ev c;rw[hc]at hb;exact wpIn_cond_split hb.bool (λe=>(J e).run G w a n hs hN) (λe=>(h2 e).run G w a n hs hN)
theorem dt{id:Nat}{c:Code}(h:bD P r N0 c (po id Q) s):bD P r N0 (.block id c) Q s:=by
 constructor
 intro G w a n hs hN;refine wpIn_block (wpIn_mono (h.run G w a n hs hN) λe a1 w1 hn=> ?_);obtain⟨G1,s1,hE,fK,eY,hq⟩:=hn;cases e with
 |exit pL=>
  by_cases he:pL=id
  ·simp only[po,he,BEq.rfl,cond_true]at hq;simp only[Exit.inBlock,if_pos he];exact⟨G1,s1,hE,fK,eY,hq⟩
  ·have hbe:(pL==id)=false:=by simpa using he
   simp only[po,hbe,cond_false]at hq;simp only[Exit.inBlock,if_neg he];exact⟨G1,s1,hE,fK,eY,hq⟩
 |_=>exact⟨G1,s1,hE,fK,eY,hq⟩
theorem Po{F:Fence}{c:Code}{Q:Exit->Act->ak9->Prop}{ι:Type}(I:ι->Act->ak9->Prop)(μ:ι->Nat)(i0:ι)(h₀:I i0 a w)
 (round:∀i a w,I i a w->c.wpIn F n P (Exit.then (λa' w'=>∃i',I i' a' w'/\μ i'<μ i) Q) a w):(Code.loop c).wpIn F n P Q a w:=by
 intro b k cs xY hb hr;have key:∀j i a w,μ i=j->I i a w->
  ∃e a' w',Q e a' w'/\ArrivesIn (Machine.fenced P F) P (lone (b.atR a (.code c:: .inLoop c::k)) cs w) b k cs e a' w':=by
  intro j
  induction j using Nat.strongRecOn with
  |_ j ih=>
   intro i a w hn hI;obtain⟨e,a₁,w₁,hq,tD⟩:=round i a w hI b (.inLoop c::k) cs xY hb hr;cases e with
   |normal=>
    obtain⟨i',hI₁,aL⟩:=hq;obtain⟨e₂,a₂,w₂,Zv,ajV⟩:=ih (μ i') (hn▸aL) i' a₁ w₁ rfl hI₁;exact⟨e₂,a₂,w₂,Zv, .of_steps (StepsIn.trans tD (.one (fenced_calm hb hr rfl) stepR_inLoop)) ajV⟩
   |exit id=>exact⟨_,a₁,w₁,hq, .pass (x:= .inLoop c) rfl (λ_ _=> .inl (by simp)) tD⟩
   |goto l=>exact⟨_,a₁,w₁,hq, .pass (x:= .inLoop c) rfl (λ_ _=> .inl (by simp)) tD⟩
   |ret=>exact⟨_,a₁,w₁,hq, .pass (x:= .inLoop c) rfl (λ_ _=> .inl (by simp)) tD⟩
   |panic ch=>exact⟨_,a₁,w₁,hq, .pass (x:= .inLoop c) rfl (λ_ _=> .inl (by simp)) tD⟩
   |outgrown=>exact⟨_,a₁,w₁,hq, .pass (x:= .inLoop c) rfl (λ_ _=> .inl (by simp)) tD⟩
 obtain⟨e,a',w',hq,tD⟩:=key _ i0 a w rfl h₀;exact⟨e,a',w',hq, .of_steps (.one (fenced_calm hb hr rfl) stepR_loop) tD⟩
end
mutual
def AV.bz(m:Nat):AV->AV
 | .own n xs=>bif ct m n then .d (.sl xs)else .own n xs
 | .agg cs=> .agg (AV.pg m cs)
 | .aW cs=> .aW (AV.pg m cs)
 | .fn f cs=> .fn f (AV.pg m cs)
 |x=>x
def AV.pg(m:Nat):ak4 AV->ak4 AV
 |[]=>[]
 |x::l=>x.bz m::AV.pg m l
end
mutual
def AV.aC(m:Nat):AV->Bool
 | .own n _| .ptr n _| .row n _ _ _ _| .mp n| .cp n| .vec n _ _ _ _| .dF n _ _ _ _=> !ct m n
 | .agg cs=>AV.jU m cs
 | .aW cs=>AV.jU m cs
 | .fn _ cs=>AV.jU m cs
 |_=>true
def AV.jU(m:Nat):ak4 AV->Bool
 |[]=>true
 |x::l=>x.aC m&&AV.jU m l
end
theorem BV(m:Nat):∀l,AV.pg m l=l.map (AV.bz m)
 |[]=>by simp [AV.pg]
 |x::l=>by simp [AV.pg,BV m l]
theorem mm(m:Nat):∀l,AV.jU m l=l.all (AV.aC m)
 |[]=>by simp [AV.jU]
 |x::l=>by simp [AV.jU,mm m l]
def ao.bz(m:Nat):ao->ao
 | .cells cs=> .cells (cs.map (AV.bz m))
 | .lp ls p as bd cs=> .lp ls p as bd (cs.map (AV.bz m))
 | .it sn cs=> .it sn (cs.map (AV.bz m))
 | .eO T cs=> .eO T (cs.map (AV.bz m))
 | .vec e k cs=> .vec e k (cs.map (·.map (AV.bz m)))
 |B=>B
def ao.aC(m:Nat):ao->Bool
 | .cells cs=>cs.all (AV.aC m)
 | .lp _ _ _ _ cs=>cs.all (AV.aC m)
 | .it _ cs=>cs.all (AV.aC m)
 | .eO _ cs=>cs.all (AV.aC m)
 | .vec _ _ cs=>cs.all (·.all (AV.aC m))
 |_=>true
theorem aD.bz{G:Gh}{w:ak9}(m:Nat){u:ak8}{x:AV}(h:aD G w u x):aD G w u (x.bz m):=by
 have fG:∀(vs:Array ak8)(cs:ak4 AV),(∀(i:Nat)(u:ak8)(c:AV),vs[i]?=some u->cs[i]?=some c->aD G w u (c.bz m))->∀(i:Nat)(u:ak8)(c:AV),vs[i]?=some u->(AV.pg m cs)[i]?=some c->aD G w u c:=by
  intro vs cs ih i u c hu hc;rw[BV,akn]at hc;cases hx:cs[i]? with
  |none=>rw[hx]at hc;cases hc
  |some x=>rw[hx]at hc;cases hc;exact ih i u x hu hx
 induction h with
 |agg vs cs hl _ ih=>rw[AV.bz];exact .agg vs _ (by rw[BV,akl];exact hl) (fG vs cs ih)
 |aW vs cs hl _ ih=>rw[AV.bz];exact .aW vs _ (by rw[BV,akl];exact hl) (fG vs cs ih)
 |fn f vs cs hl _ ih=>rw[AV.bz];exact .fn f vs _ (by rw[BV,akl];exact hl) (fG vs cs ih)
 |own n xs h hp hle hf=>
  rw[AV.bz,cond_eq_ite];split
  ·exact .d hp
  ·exact .own n xs h hp hle hf
 |d h=>simp only[AV.bz];exact .d h
 |ptr n off h=>simp only[AV.bz];exact .ptr n off h
 |bn xs i off b o u x hx hS hu=>simp only[AV.bz];exact .bn xs i off b o u x hx hS hu
 |full xs hp hf=>simp only[AV.bz];exact .full xs hp hf
 |row n off len cap k h hl hm=>simp only[AV.bz];exact .row n off len cap k h hl hm
 |mp n h=>simp only[AV.bz];exact .mp n h
 |cp n h=>simp only[AV.bz];exact .cp n h
 |vec n o len L k h hs hL hf=>simp only[AV.bz];exact .vec n o len L k h hs hL hf
 |dF n i j L k h hs hL hf=>simp only[AV.bz];exact .dF n i j L k h hs hL hf
 |hid h J=>simp only[AV.bz];exact .hid h J
 |dead u=>simp only[AV.bz];exact .dead u
def Gh.cut(G:Gh)(m:Nat):Gh:={G with N:=m}
theorem aD.cut{G:Gh}{w:ak9}{m:Nat}{u:ak8}{x:AV}(h:aD G w u x)(hb:x.aC m=true):aD (G.cut m) w u x:=by
 induction h with
 |agg vs cs hl _ ih=>
  rw[AV.aC,mm,akG]at hb;exact .agg vs cs hl λi u c hu hc=>ih i u c hu hc (hb c (akt hc))
 |aW vs cs hl _ ih=>
  rw[AV.aC,mm,akG]at hb;exact .aW vs cs hl λi u c hu hc=>ih i u c hu hc (hb c (akt hc))
 |fn f vs cs hl _ ih=>
  rw[AV.aC,mm,akG]at hb;exact .fn f vs cs hl λi u c hu hc=>ih i u c hu hc (hb c (akt hc))
 |own n xs h hp hle hf=>rw[AV.aC]at hb;exact .own n xs (show n<m by rw[Bool.not_eq_true',<-Bool.not_eq_true,dy]at hb;omega) hp hle hf
 |ptr n off h=>rw[AV.aC]at hb;exact .ptr (G:=G.cut m) n off (show n<m by rw[Bool.not_eq_true',<-Bool.not_eq_true,dy]at hb;omega)
 |row n off len cap k h hl hm=>rw[AV.aC]at hb;exact .row (G:=G.cut m) n off len cap k (show n<m by rw[Bool.not_eq_true',<-Bool.not_eq_true,dy]at hb;omega) hl hm
 |mp n h=>rw[AV.aC]at hb;exact .mp (G:=G.cut m) n (show n<m by rw[Bool.not_eq_true',<-Bool.not_eq_true,dy]at hb;omega)
 |cp n h=>rw[AV.aC]at hb;exact .cp (G:=G.cut m) n (show n<m by rw[Bool.not_eq_true',<-Bool.not_eq_true,dy]at hb;omega)
 |vec n o len L k h hs hL hf=>rw[AV.aC]at hb;exact .vec (G:=G.cut m) n o len L k (show n<m by rw[Bool.not_eq_true',<-Bool.not_eq_true,dy]at hb;omega) hs hL hf
 |dF n i j L k h hs hL hf=>rw[AV.aC]at hb;exact .dF (G:=G.cut m) n i j L k (show n<m by rw[Bool.not_eq_true',<-Bool.not_eq_true,dy]at hb;omega) hs hL hf
 |hid h J=>exact .hid (G:=G.cut m) h J
 |d h=>exact .d h
 |bn xs i off b o u x hx hS hu=>exact .bn xs i off b o u x hx hS hu
 |full xs hp hf=>exact .full xs hp hf
 |dead u=>exact .dead u
def St.mask(s:St)(live:ak4 Nat)(m:Nat):St:={s with t:=live.map λk=>(k,(bw s.t k).bz m),h:=(s.h.take m).map (ao.bz m)}
def St.zw(s:St)(live:ak4 Nat)(m:Nat):Prop:=m<=s.h.length/\(live.all λk=>((bw s.t k).bz m).aC m)=true/\(((s.h.take m).map (ao.bz m)).all (ao.aC m))=true
theorem qC(f:Nat->AV):∀(live:ak4 Nat)(i:Nat),bw (live.map λk=>(k,f k)) i=if i∈live then f i else .dead
 |[],i=>by simp [bw]
 |k::l,i=>by
  simp only[akF,kO,qC f l i,akK];by_cases h:i=k
  ·subst h;simp
  ·simp [h]
theorem MT{G:Gh}{w:ak9}{h:ak4 ao}(hi:bU G w h){m:Nat}(hm:m<=h.length)(hb:(((h.take m).map (ao.bz m)).all (ao.aC m))=true):bU (G.cut m) w ((h.take m).map (ao.bz m)):=by
 have fz:∀(n:Nat)(B:ao),((h.take m).map (ao.bz m))[n]?=some B->n<m/\∃B',h[n]?=some B'/\B=B'.bz m/\(B'.bz m).aC m=true:=λn B hB=>by
  have tv:=akG.1 hb B (akt hB);rw[akn,List.getElem?_take]at hB;split at hB
  ·rename_i hn
   cases hx:h[n]? with
   |none=>rw[hx]at hB;cases hB
   |some B'=>rw[hx]at hB;cases hB;exact⟨hn,B',rfl,rfl,tv⟩
  ·cases hB
 have eF:∀n b,bR ((h.take m).map (ao.bz m)) (G.cut m) n=some b->bR h G n=some b:=λn b hb=>by
  obtain⟨B,hB,hb⟩:=l9 hb;obtain⟨_,B',J,rfl,_⟩:=fz n B hB;rw[dM J,<-hb];cases B'<;>rfl
 refine⟨by simp [Gh.cut];omega,hi.z,hi.S,λn B hB=> ?_,λi j b J h2=>hi.inj i j b (eF i b J) (eF j b h2),hi.gl⟩;obtain⟨hn,B',J,rfl,tv⟩:=fz n B hB;have dR:=hi.dn n B' J;cases B' with
 |gone=>trivial
 |front e k len=>exact dR
 |byt e b=>exact dR
 |map kv=>exact dR
 |ie kv=>exact dR
 |vec e k cs=>
  obtain⟨c1,c2,c3,c4⟩:=dR;refine⟨by rw[akl];exact c1,by rw[akl];exact c2,λc hc=> ?_,?_⟩
  ·obtain⟨x,hx,rfl⟩:=List.mem_map.1 hc;rw[akl];exact c3 x hx
  ·rcases c4 with⟨d1,d2,A,d3⟩|⟨g,cap,cur,d1,d2,d3,d4,d5,d6,d7,d8,d9⟩
   ·exact .inl ⟨d1,by rw[d2];rfl,A,d3⟩
   ·refine .inr ⟨g,cap,cur,d1,by rw[akl];exact d2,d3,d4,by rw[akl];exact d5,d6,d7,d8,λi j c x u hc hx hu=> ?_⟩;simp only[ao.bz,ao.aC,akG]at tv;rw[akn]at hc;cases hy:cs[i]? with
    |none=>rw[hy]at hc;cases hc
    |some y=>
     rw[hy]at hc;cases hc
     have hz:=hx;rw[akn]at hx;cases hw:y[j]? with
     |none=>rw[hw]at hx;cases hx
     |some z=>
      rw[hw]at hx;cases hx
      exact((d9 i j y z u hy hw hu).bz m).cut (tv _ (List.mem_map.2 ⟨y,akt hy,rfl⟩) _ (akt hz))
 |cells cs=>
  obtain⟨c1,c2,vs,T,c3,c4,c5⟩:=dR;refine⟨c1,c2,vs,T,c3,by rw[akl];exact c4,λi u c hu hc=> ?_⟩;have jO:=akt hc;rw[akn]at hc;cases hx:cs[i]? with
  |none=>rw[hx]at hc;cases hc
  |some x=>
   rw[hx]at hc;cases hc
   exact((c5 i u x hu hx).bz m).cut (akG.1 tv _ jO)
 |lp ls p as bd cs=>
  obtain⟨c1,c2,fn,vs,T,c3,c4,c5⟩:=dR;refine⟨c1,c2,fn,vs,T,c3,by rw[akl];exact c4,λi u c hu hc=> ?_⟩;have jO:=akt hc;rw[akn]at hc;cases hx:cs[i]? with
  |none=>rw[hx]at hc;cases hc
  |some x=>
   rw[hx]at hc;cases hc
   exact((c5 i u x hu hx).bz m).cut (akG.1 tv _ jO)
 |it sn cs=>
  obtain⟨c1,c2,fn,vs,T,c3,c4,c5⟩:=dR;refine⟨c1,c2,fn,vs,T,c3,by rw[akl];exact c4,λi u c hu hc=> ?_⟩;have jO:=akt hc;rw[akn]at hc;cases hx:cs[i]? with
  |none=>rw[hx]at hc;cases hc
  |some x=>
   rw[hx]at hc;cases hc
   exact((c5 i u x hu hx).bz m).cut (akG.1 tv _ jO)
 |eO T0 cs=>
  obtain⟨c1,c2,fn,vs,T,c3,c4,c5⟩:=dR;refine⟨c1,c2,fn,vs,T,c3,by rw[akl];exact c4,λi u c hu hc=> ?_⟩;have jO:=akt hc;rw[akn]at hc;cases hx:cs[i]? with
  |none=>rw[hx]at hc;cases hc
  |some x=>
   rw[hx]at hc;cases hc
   exact((c5 i u x hu hx).bz m).cut (akG.1 tv _ jO)
theorem ov(N:Nat)(G:Gh)(w:ak9)(m:Nat):bP N G w (G.cut m) w:=
 ⟨akr _,λ_ _ h=>h,λ_ _ _=>rfl,λ_ _=>rfl,λ_ _=> .inl ⟨rfl,rfl⟩,gQ rfl,λ_ _=>rfl,rfl,rfl,rfl,λ_ _ h=> .inl h⟩
section
variable {P:ak7} {r:ak6 Nat} {n N0:Nat} {G:Gh} {w:ak9} {a:Act} {s:St} {o:Oper} {Q:Exit->St->Prop}
theorem db.mask(hs:db G w a s){live:ak4 Nat}{m:Nat}(h:s.zw live m):db (G.cut m) w a (s.mask live m):=by
 obtain⟨J,h2,h3⟩:=h;refine⟨hs.size,λi=> ?_,MT hs.inv J h3,hs.df⟩;show aD _ _ _ (bw (live.map λk=>(k,(bw s.t k).bz m)) i);rw[qC (λk=>(bw s.t k).bz m)];split
 ·rename_i hi
  exact((hs.tmp i).bz m).cut (akG.1 h2 i hi)
 ·exact .dead _
theorem Gp{c:Code}{ι:Type}(live:ak4 Nat)(m:Nat)(st:ι->St)(I:ι->Prop)(μ:ι->Nat)(i0:ι)(hm:N0<=m)(ca:s.zw live m)(h0:s.mask live m=st i0)(hI:I i0)
 (round:∀i,I i->bD P r N0 c (hO (λs'=>s'.zw live m/\∃i',s'.mask live m=st i'/\I i'/\μ i'<μ i) Q) (st i)):bD P r N0 (.loop c) Q s:=by
 constructor
 intro G w a n hs _;refine Po (λ(i:ι) a' w'=>∃G',I i/\bP N0 G w G' w'/\N0<=G'.N/\db G' w' a' (st i)) μ i0 ⟨G.cut m,hI,ov _ _ _ _,hm,h0▸hs.mask ca⟩ ?_;rintro i a' w' ⟨G',hi,hE,hN,cM⟩;refine wpIn_mono ((round i hi).run G' w' a' n cM hN) λe a1 w1 hn=> ?_;obtain⟨G1,s1,hX,fK,eY,hq⟩:=hn;cases e with
 |normal=>
  obtain⟨aer,i',J,h2,h3⟩:=hq;exact⟨i',⟨G1.cut m,h2,(hE.trans hX).trans (ov _ _ _ _),hm,J▸eY.mask aer⟩,h3⟩
 |_=>exact⟨G1,s1,hE.trans hX,fK,eY,hq⟩
def mj(P:ak7)(s:St):ak4 ResultVar->(ak4 AV->Prop)->Prop
 |[],C=>C []
 | .tmp t::l,C=>mj P s l λxs=>C (bw s.t t::xs)
 | .cell p t::l,C=>nx P t s.h (bw s.t p) λx=>mj P s l λxs=>C (x::xs)
def jG:ak4 AV->AV
 |[x]=>x
 |l=> .aW l
def qg(P:ak7)(fn:Func)(m:Nat)(K:AV->ak4 ao->Prop)(s:St):Prop:=
 mj P s fn.results.toList λl=>m<=s.h.length/\((jG l).bz m).aC m=true/\(((s.h.take m).map (ao.bz m)).all (ao.aC m))=true/\K ((jG l).bz m) ((s.h.take m).map (ao.bz m))
def EX(P:ak7)(fn:Func)(m:Nat)(K:AV->ak4 ao->Prop):Exit->St->Prop
 | .normal,s=>qg P fn m K s
 | .ret,s=>qg P fn m K s
 |_,_=>False
theorem aiK{C:ak4 AV->Prop}(hs:db G w a s)(g:ResultVar->Sem ak8)(hg1:∀t,g (.tmp t)=pure (a.tmps.getD t undef))(Bu:∀p t,g (.cell p t)=(do loadVar t (<-asAddr (a.tmps.getD p undef)))):
 ∀(l:ak4 ResultVar),mj P s l C->∃(vs:ak4 ak8)(xs:ak4 AV),(l.mapM g).run P w= .ok vs w/\vs.length=xs.length/\(∀(i:Nat)(u:ak8)(c:AV),vs[i]?=some u->xs[i]?=some c->aD G w u c)/\C xs:=by
 intro l
 induction l generalizing C with
 |nil=>exact λh=>⟨[],[],by simp,rfl,λi u c hu=>by simp at hu,h⟩
 |cons x l ih=>
  intro h;cases x with
  |tmp t=>
   obtain⟨vs,xs,J,h2,h3,h4⟩:=ih h;refine⟨a.tmps.getD t undef::vs,bw s.t t::xs,by simp only[List.mapM_cons,hg1,Sem.run_bind,Sem.run_pure,Result.andThen_ok,J],by simp [h2],λi u c hu hc=> ?_,h4⟩
   match i with
   |0=>simp only[List.getElem?_cons_zero,Option.some.injEq]at hu hc;subst hu;subst hc;exact hs.tmp t
   |i+1=>exact h3 i u c (by simpa using hu) (by simpa using hc)
  |cell p t=>
   obtain⟨u0,x0,r1,r2,r3⟩:=Xt (P:=P) hs.inv (hs.tmp p) h;obtain⟨vs,xs,J,h2,h3,h4⟩:=ih r3;have hv:=hs.tmp p;have e:∃ad,a.tmps.getD p undef= .pointer (some ad):=by
    have h':nx P t s.h (bw s.t p) λx=>mj P s l λxs=>C (x::xs):=h;generalize a.tmps.getD p undef=v at hv r1;generalize bw s.t p=y at hv h';cases hv with
    |ptr=>exact⟨_,rfl⟩
    |bn=>exact⟨_,rfl⟩
    |_=>exact(show False from h').elim
   obtain⟨ad,e⟩:=e;rw[e]at r1;have r1':(loadVar t ad).run P w= .ok u0 w:=by simpa [Instr.loadAt,Instr.sureAddr]using r1
   have ha:(asAddr (a.tmps.getD p undef)).run P w= .ok ad w:=by rw[e];rfl
   refine⟨u0::vs,x0::xs,by simp only[List.mapM_cons,Bu,Sem.run_bind,Sem.run_pure,Result.andThen_ok,J,ha,r1'],by simp [h2],λi u c hu hc=> ?_,h4⟩
   match i with
   |0=>simp only[List.getElem?_cons_zero,Option.some.injEq]at hu hc;subst hu;subst hc;exact r2
   |i+1=>exact h3 i u c (by simpa using hu) (by simpa using hc)
theorem aal:∀(vs:ak4 ak8)(xs:ak4 AV),vs.length=xs.length->(∀(i:Nat)(u:ak8)(c:AV),vs[i]?=some u->xs[i]?=some c->aD G w u c)->aD G w (if h:vs.toArray.size=1 then vs.toArray[0]else .tuple vs.toArray) (jG xs)
 |[v],[x],_,h=>h 0 v x rfl rfl
 |[],[],_,_=> .aW _ _ rfl λi u c hu=>by simp at hu
 |v::u::vs,x::y::xs,hl,h=>by
  have:¬(v::u::vs).toArray.size=1:=by simp
  rw[dif_neg this];exact .aW _ _ (by simpa using hl) λi p q hp hq=>h i p q (by simpa using hp) hq
 |[],_::_,hl,_=>by simp at hl
 |_::_,[],hl,_=>by simp at hl
 |[_],_::_::_,hl,_=>by simp at hl
 |_::_::_,[_],hl,_=>by simp at hl
theorem adC{fn:Func}{m:Nat}{K:AV->ak4 ao->Prop}(hs:db G w a s)(h:qg P fn m K s):∃v G' r h',(results fn a.tmps).run P w= .ok v w/\bP N0 G w G' w/\m<=G'.N/\bU G' w h'/\aD G' w v r/\K r h':=by
 obtain⟨g,hg⟩:∃g:ResultVar->Sem ak8,results fn a.tmps=(do let vs <-fn.results.mapM g;pure (if h:vs.size=1 then vs[0]else .tuple vs))/\(∀t,g (.tmp t)=pure (a.tmps.getD t undef))/\(∀p t,g (.cell p t)=(do loadVar t (<-asAddr (a.tmps.getD p undef)))):=
  ⟨_,rfl,λ_=>rfl,λ_ _=>rfl⟩
 obtain⟨vs,xs,J,h2,h3,h4,h5,h6,h7⟩:=aiK hs g hg.2.1 hg.2.2 fn.results.toList h;have hr:(results fn a.tmps).run P w= .ok (if h:vs.toArray.size=1 then vs.toArray[0]else .tuple vs.toArray) w:=by
  rw[hg.1,Sem.run_bind,Array.mapM_eq_mapM_toList];have e:∀X:Sem (ak4 ak8),(Functor.map List.toArray X:Sem _)=X>>=λl=>pure l.toArray:=λ_=>rfl;rw[e,Sem.run_bind,J];rfl
 have hv:=aal vs xs h2 h3;exact⟨_,G.cut m,_,_,hr,ov _ _ _ _,akr _,MT hs.inv h4 h6,(hv.bz m).cut h5,h7⟩
theorem tq{f:FuncId}{fn:Func}{c:Code}{args:ak4 AV}{h:ak4 ao}{K:AV->ak4 ao->Prop}(m:Nat)(hf:P.funcs[f]?=some fn)(hb:fn.body=some c)(hn:(fn.name== "runtime.NumGoroutine")=false)(hm:h.length<=m)
 (hw:bD P none h.length c (EX P fn m K) {n:=args.length+(fn.ntmps-args.length),t:=lx 0 args,h:=h}):cZ P f args h K:=by
 refine⟨by unfold GD;rw[hf];simp [hb];simpa using hn,λG w vs hi hl hr=> ?_⟩;refine callsIn_wide (n:=8).1 (callsIn_of_wp_marks (F:=Fence.wide) hf hb trivial ?_);have hs:db {G with M:=w.heap.size} w {tmps:=vs++Array.replicate (fn.ntmps-vs.size) undef,defers:=[]} {n:=args.length+(fn.ntmps-args.length),t:=lx 0 args,h:=h}:=by
  refine⟨by simp [hl],λi=> ?_,hi.zm G.Z _ (λ_ h=>h) (akr _),qn.nil _ _⟩;show aD _ _ _ (bw (lx 0 args) i);rw[OU];simp only[Nat.zero_le,if_true,Nat.sub_zero];cases hx:args[i]? with
  |none=>exact .dead _
  |some x=>
   have aL:i<vs.size:=by rw[hl];exact(akg.1 hx).1
   have:(vs++Array.replicate (fn.ntmps-vs.size) undef).getD i undef=vs[i]:=by
    simp [Array.getElem?_append_left aL,akC aL]
   simp only[this,Option.getD_some];exact(hr i _ x (akC aL) hx).zm G.Z _
 refine wpIn_mono (hw.run _ w _ 8 hs (by rw[hi.len];exact akr _)) λe a' w' hn=> ?_;obtain⟨G1,s1,hE,fK,eY,hq⟩:=hn;have key:qg P fn m K s1->LeavesInM Fence.wide 8 P fn a'.tmps (λe w'=>∃v G' r h',e= .returned v/\bP G.N G w G' w'/\G.N<=G'.N/\bU G' w' h'/\aD G' w' v r/\K r h') a'.defers .returning w':=λhq=>by
  obtain⟨w2,G2,k1,k2,k3,k4⟩:=agN hE fK hi.z hi.gl.2 eY;obtain⟨v,G',r,h',r1,r2,r3,r4,r5,r6⟩:=adC (N0:=h.length) k4 hq;exact k1 _ _ _ _ _ ⟨v,r1,v,G',r,h',rfl,by rw[<-hi.len];exact k2.trans r2,by rw[<-hi.len];exact aky hm r3,r4,r5,r6⟩
 cases e with
 |normal=>exact key hq
 |ret=>exact key hq
 |_=>exact hq.elim
end
end Go.Proofs.YtnnapanbbbcalaaGreatDoor
namespace Go.Proofs.YtnnapanbbbcalaaGreatDoor
open Go.RowKit
section
variable {P:ak7} {r:ak6 Nat} {N0:Nat} {s:St} {Q:Exit->St->Prop}
end
theorem cZ.frame{P:ak7}{f:FuncId}{args:ak4 AV}{K:AV->Prop}(hc:cZ P f args [] λr h=>h=[]/\K r)(ha:args.all (AV.aC 0)=true)(hK:∀r,K r->r.aC 0=true)(h:ak4 ao):
 cZ P f args h λr h'=>h'=h/\K r:=by
 refine⟨hc.1,λG w vs hi hl hr=> ?_⟩;have rF:bU {G with N:=0,Z:=λb=>b<w.heap.size} w []:=⟨rfl,λb hb=>hb,hi.S,λn B hB=>by simp at hB,λm n b J=>by simp [bR]at J,hi.gl⟩;refine(hc.2 {G with N:=0,Z:=λb=>b<w.heap.size} w vs rF hl λi u c hu hx=> ?_).mono λe w' hp=> ?_
 ·have:=(hr i u c hu hx).cut (akG.1 ha c (akt hx));clear hc;generalize hG:({G with N:=0,Z:=λb=>b<w.heap.size}:Gh)=G0;have e:∀{v y},aD (G.cut 0) w v y->aD G0 w v y:=by
   intro v y hv;subst hG
   induction hv with
   |agg vs cs hl _ ih=>exact .agg vs cs hl ih
   |aW vs cs hl _ ih=>exact .aW vs cs hl ih
   |fn f vs cs hl _ ih=>exact .fn f vs cs hl ih
   |own n xs h hp hle hf=>exact absurd h (akI _)
   |ptr n off h=>exact absurd h (akI _)
   |row n off len cap k h hl hm=>exact absurd h (akI _)
   |mp n h=>exact absurd h (akI _)
   |cp n h=>exact absurd h (akI _)
   |vec n o len L k h=>exact absurd h (akI _)
   |dF n i j L k h=>exact absurd h (akI _)
   |hid h J=>exact .hid h J
   |d h=>exact .d h
   |bn xs i off b o u x hx hS hu=>exact .bn xs i off b o u x hx hS hu
   |full xs hp hf=>exact .full xs hp hf
   |dead u=>exact .dead u
  exact e this
 ·obtain⟨v,G',r,h',rfl,hE,hN,dY,hv,rfl,hk⟩:=hp;have aj6:G'.N=0:=dY.len.symm;have fk:∀b o,G'.S b o->G.S b o\/w.heap.size<=b:=λb o hs=>(hE.new b o hs).imp id Nat.le_of_not_lt;have ja:bP G.N G w {G with S:=G'.S} w':=
   ⟨hE.size,hE.S,hE.cell,λ_ _=>rfl,λ_ _=> .inl ⟨rfl,rfl⟩,gQ rfl,λb hb=>hE.old b (hi.z b hb),hE.os,hE.tape,hE.output,λb o hs=>(fk b o hs).imp id λkt hz=>by have:=hi.z b hz;omega⟩
  refine⟨v,{G with S:=G'.S},r,h,rfl,ja,akr _,⟨hi.len,λb hb=>akE (hi.z b hb) hE.size,dY.S,λn B hB=> ?_,λm n b J h2=>hi.inj m n b J h2,hi.gl.keep ja⟩,?_,rfl,hk⟩
  ·refine er.keep (hi.lt hB) ja (akr _) ⟨rfl,rfl,rfl⟩ (λb hb=> ?_) (hi.dn n B hB);have aL:=hi.gW (n:=n) (b:=b) ((dM hB).trans hb);refine⟨hE.old _ aL,λo jy hs=> ?_⟩;rcases fk _ o hs with hs|hs
   ·exact jy hs
   ·omega
  ·have hr:=hK r hk;clear hk ja
   induction hv with
   |agg vs cs hl _ ih=>
    rw[AV.aC,mm,akG]at hr;exact .agg vs cs hl λi u c hu hc=>ih i u c hu hc (hr c (akt hc))
   |aW vs cs hl _ ih=>
    rw[AV.aC,mm,akG]at hr;exact .aW vs cs hl λi u c hu hc=>ih i u c hu hc (hr c (akt hc))
   |fn f vs cs hl _ ih=>
    rw[AV.aC,mm,akG]at hr;exact .fn f vs cs hl λi u c hu hc=>ih i u c hu hc (hr c (akt hc))
   |own n xs h hp hle hf=>simp [AV.aC,ct]at hr
   |ptr n off h=>simp [AV.aC,ct]at hr
   |row n off len cap k h hl hm=>simp [AV.aC,ct]at hr
   |mp n h=>simp [AV.aC,ct]at hr
   |cp n h=>simp [AV.aC,ct]at hr
   |vec n o len L k h=>simp [AV.aC,ct]at hr
   |dF n i j L k h=>simp [AV.aC,ct]at hr
   |hid h J=>exact .hid h J
   |d h=>exact .d h
   |bn xs i off b o u x hx hS hu=>exact .bn xs i off b o u x hx hS hu
   |full xs hp hf=>exact .full xs hp hf
   |dead u=>exact .dead u
def fX(P:ak7)(f:FuncId)(args:ak4 AV)(K:AV->Prop):Prop:=cZ P f args [] λr h=>h=[]/\K r
theorem fX.use{P:ak7}{f:FuncId}{args:ak4 AV}{r:AV}{h:ak4 ao}{C:AV->ak4 ao->Prop}(hc:fX P f args (·=r))(ha:args.all (AV.aC 0)=true)(hr:r.aC 0=true)(hC:C r h):cZ P f args h C:=
 (hc.frame ha (λ_ e=>e▸hr) h).mono λ_ _ ⟨e1,e2⟩=>by subst e1;subst e2;exact hC
def ajt:ak4 FuncId:=[64,86,222]
def agR:ak4 FuncId:=[53,54,63,64,67,92,94,95,136,156,159,237]
def oU:Operand->Bool
 | .func g=>ajt.any (·==g)
 |_=>false
def cy(o:Oper):Nat:=
 match o.op with
 | .move _| .assign _| .pick .. | .nilCheck _| .fieldAddr .. | .field .. | .indexAddr .. | .index .. | .build .. | .buildSlice .. | .slice .. | .extract .. | .makeFunc .. | .binOp .. | .unOp .. | .convert .. =>0
 | .load .. | .lookup .. =>1
 | .alloc _| .box .. =>2
 | .store .. | .makeMap .. | .mapUpdate .. =>3
 | .call c=>match c.callee with
   | .builtin .len| .builtin .max| .builtin .min=>0
   | .builtin .append=>5
   | .value f=>bif oU f then 6 else 4
   |_=>9
 |_=>9
def UL(P:ak7)(g:FuncId)(args:ak4 AV)(h:ak4 ao)(C:AV->Prop):Prop:=∃r,C r/\∀e,cZ P g args (h++e) λr' h'=>r'=r/\h'=h++e
def yQ(P:ak7)(o:Oper)(K:St->Prop)(s:St):Prop:=
 match o.op with
 | .call c=>match c.callee with
   | .value f=>match ev s f with
     | .fn g di=>UL P g (c.args.toList.map (ev s)++di) s.h λr=>K (s.put o.dst r)
     | .hid q=>∃g as,q.app (c.args.toList.map (ev s))=some (g,as)/\UL P g as s.h λr=>K (s.put o.dst r)
     |_=>False
   |_=>pZ P o K s
 |_=>pZ P o K s
def ju(o:Oper):Bool:=
 match o.op with
 | .indexAddr .. | .fieldAddr .. | .nilCheck .. | .load .. | .store .. =>true
 | .call c=>match c.callee with
   | .builtin .len=>true
   |_=>false
 |_=>false
def Iz(o:Oper):Bool:=match o.op with
 | .call c=>match c.callee with
   | .value (.tmp _)=>true
   | .value (.func g)=>agR.any (·==g)
   |_=>false
 |_=>false
def rQ(o:Oper):Bool:=match o.op with
 | .call c=>match c.callee with
   | .builtin .append=>true
   |_=>false
 |_=>false
def mB(m:Bool)(o:Oper):Bool:=m&&(Iz o||rQ o)
def uY(m:Bool)(P:ak7)(o:Oper)(K:St->Prop)(s:St):Prop:=
 yQ P o K s\/(mB m o=true/\∃x J,K ((s.wh J).put o.dst x)/\∀C:AV->ak4 ao->Prop,C x J->cT P o (ev s) s.h C)\/((ju o=true/\(m&&cy o==0)=false\/(m&&rQ o)=true)/\FD P o K s)\/(cy o=6/\∃x e0,K ((s.wh (s.h++e0)).put o.dst x)/\∀C:AV->ak4 ao->Prop,C x (s.h++e0)->cT P o (ev s) s.h C)
def jj(P:ak7)(o:Oper)(ρ:Operand->AV)(h:ak4 ao)(C:AV->ak4 ao->Prop):Prop:=
 cT P o ρ h C\/((ju o=true\/rQ o=true)/\∃a x h' p,ia P o.op ρ h a=some (x,h',p)/\p/\C x h')
def ta(m:Bool)(P:ak7)(ops:Array Oper):ak4 Oper->(St->Prop)->St->Prop
 |[],K,s=>K s
 |o::rest,K,s=>iB ops o s (uY m P o (ta m P ops rest K) s) (ta m P ops rest K (s.put o.dst (.d (.v undef))))
abbrev Q2(P:ak7)(o:Oper)(K:St->Prop)(s:St):Prop:=uY false P o K s
abbrev Aw(P:ak7)(ops:Array Oper)(l:ak4 Oper)(K:St->Prop)(s:St):Prop:=ta false P ops l K s
section
variable {P:ak7} {o:Oper} {ρ ρ':Operand->AV} {h:ak4 ao} {C:AV->ak4 ao->Prop}
theorem Om(x:ak6 Operand)(hx:∀y∈x.toArray,ρ y=ρ' y)(d:Nat)(F:Nat->Prop):jF ρ x d F=jF ρ' x d F:=by
 cases x with
 |none=>rfl
 |some y=>simp only[jF,hx y (by simp)]
theorem ahb(hρ:∀x∈o.op.operands,ρ x=ρ' x):cT P o ρ h C=cT P o ρ' h C:=by
 obtain⟨dst,op,type,pos,after,guard⟩:=o;have XE:∀ps:Array (Nat×Operand),(∀x∈ps.map (·.2),ρ x=ρ' x)->(ps.toList.map λp=>(p.1,ρ p.2))=(ps.toList.map λp=>(p.1,ρ' p.2)):=λps hp=>
  akL λp hm=>by rw[hp p.2 (Array.mem_map.2 ⟨p,Array.mem_toList_iff.1 hm,rfl⟩)]
 have fG:∀l:Array Operand,(∀x∈l,ρ x=ρ' x)->l.toList.map ρ=l.toList.map ρ':=λl hl=>akL λx hm=>hl x (Array.mem_toList_iff.1 hm);cases op with
 |build t ps=>simp only[cT,XE ps λx hx=>hρ x (by simpa [Op.operands]using hx)]
 |buildSlice t n ps=>simp only[cT,XE ps λx hx=>hρ x (by simpa [Op.operands]using hx)]
 |makeFunc fn first captured=>
  cases fn with
  |func f=>simp only[cT,fG captured λx hx=>hρ x (by simp [Op.operands,hx]),fG first λx hx=>hρ x (by simp [Op.operands,hx])]
  |_=>rfl
 |slice t x lo hi mx=>
  have e1:ρ x=ρ' x:=hρ x (by simp [Op.operands]);have e2:=λd F=>Om (ρ:=ρ) (ρ':=ρ') lo (λy hy=>hρ y (by simp at hy;simp [Op.operands,hy])) d F;have e3:=λd F=>Om (ρ:=ρ) (ρ':=ρ') hi (λy hy=>hρ y (by simp at hy;simp [Op.operands,hy])) d F;have e4:=λd F=>Om (ρ:=ρ) (ρ':=ρ') mx (λy hy=>hρ y (by simp at hy;simp [Op.operands,hy])) d F;cases lo<;>cases hi<;>cases mx<;>simp only[cT,tA,e1,e2,e3,e4]
 |call c=>
  have ha:c.args.toList.map ρ=c.args.toList.map ρ':=fG c.args λx hx=>hρ x (by simp [Op.operands,Call.operands,hx]);have hm:∀x,x∈c.args.toList->ρ x=ρ' x:=λx hx=>hρ x (by simp [Op.operands,Call.operands];right;exact Array.mem_toList_iff.1 hx);cases hc:c.callee with
  |value f=>
   have hf:ρ f=ρ' f:=hρ f (by simp [Op.operands,Call.operands,hc]);simp only[cT,hc,hf,ha]
  |invoke=>simp only[cT,hc]
  |builtin b=>
   cases b with
   |len=>
    simp only[cT,hc];split
    ·rename_i x _ heq _
     rw[hm x (by rw[heq];simp)]
    ·rfl
   |append=>
    simp only[cT,hc];split
    ·rename_i x y _ _ heq _
     rw[hm x (by rw[heq];simp),hm y (by rw[heq];simp)]
    ·rfl
   |max=>simp only[cT,hc,ha]
   |min=>simp only[cT,hc,ha]
   |_=>simp only[cT,hc]
 |makeMap t r=>cases r<;>rfl
 |lookup t a b ok=>simp only[cT,oc,hρ a (by simp [Op.operands]),hρ b (by simp [Op.operands])]
 |mapUpdate t a b c=>simp only[cT,oc,hρ a (by simp [Op.operands]),hρ b (by simp [Op.operands]),hρ c (by simp [Op.operands])]
 |pick c a b=>simp only[cT,hρ c (by simp [Op.operands]),hρ a (by simp [Op.operands]),hρ b (by simp [Op.operands])]
 |store t a b=>simp only[cT,hρ a (by simp [Op.operands]),hρ b (by simp [Op.operands])]
 |binOp op t a b u=>simp only[cT,hρ a (by simp [Op.operands]),hρ b (by simp [Op.operands])]
 |indexAddr t a b=>simp only[cT,hρ a (by simp [Op.operands]),hρ b (by simp [Op.operands])]
 |index t a b=>simp only[cT,hρ a (by simp [Op.operands]),hρ b (by simp [Op.operands])]
 |move a|assign a|box t a|load t a|nilCheck a|fieldAddr t a f|field t a f|extract a i|unOp op t a|convert t u a=>simp only[cT,hρ a (by simp [Op.operands])]
 |_=>rfl
theorem aaT(hv:ju o=true\/rQ o=true)(hρ:∀x∈o.op.operands,ρ x=ρ' x)(a:VA):ia P o.op ρ h a=ia P o.op ρ' h a:=by
 obtain⟨dst,op,type,pos,after,guard⟩:=o;cases op with
 |store t a b=>simp only[ia,hρ a (by simp [Op.operands]),hρ b (by simp [Op.operands])]
 |indexAddr t a b=>simp only[ia,hρ a (by simp [Op.operands]),hρ b (by simp [Op.operands])]
 |load t a|nilCheck a|fieldAddr t a f=>simp only[ia,hρ a (by simp [Op.operands])]
 |call c=>
  have hm:∀x,x∈c.args.toList->ρ x=ρ' x:=λx hx=>hρ x (by simp [Op.operands,Call.operands];right;exact Array.mem_toList_iff.1 hx);cases hc:c.callee with
  |builtin b=>
   cases b with
   |len=>
    simp only[ia,hc];split
    ·rename_i x _ heq _
     rw[hm x (by rw[heq];simp)]
    ·rfl
   |append=>
    simp only[ia,hc];split
    ·rename_i x y _ _ heq _
     rw[hm x (by rw[heq];simp),hm y (by rw[heq];simp)]
    ·rfl
   |_=>simp [ju,rQ,hc]at hv
  |_=>simp [ju,rQ,hc]at hv
 |_=>simp [ju,rQ]at hv
theorem K1(hρ:∀x∈o.op.operands,ρ x=ρ' x):jj P o ρ h C=jj P o ρ' h C:=by
 unfold jj;rw[ahb hρ];by_cases hv:ju o=true\/rQ o=true
 ·simp only[aaT hv hρ]
 ·simp only[hv,false_and]
end
def aif:ao->Bool
 | .cells _| .map _| .vec .. =>true
 |_=>false
def m9:ak6 ao->ak6 (Nat×Nat)
 |some (.vec _ k cs)=>some (k,cs.length)
 |_=>none
def iJ(h h':ak4 ao):Prop:=∀(m:Nat)(q:Nat×Nat),m9 h[m]?=some q->m9 h'[m]?=some q
def ij(h h':ak4 ao):Prop:=∀m:Nat,m9 h[m]?=m9 h'[m]?
theorem ij.i{h h':ak4 ao}(e:ij h h'):iJ h h':=λm q hq=>by rw[<-e m];exact hq
theorem ij.j{h h':ak4 ao}(e:ij h h'):iJ h' h:=λm q hq=>by rw[e m];exact hq
theorem iJ.refl(h:ak4 ao):iJ h h:=λ_ _ e=>e
theorem iJ.trans{a b c:ak4 ao}(x:iJ a b)(y:iJ b c):iJ a c:=λm q e=>y m q (x m q e)
theorem iJ.app(h e:ak4 ao):iJ h (h++e):=λm q hq=>by
 by_cases hl:m<h.length
 ·rw[akq hl];exact hq
 ·rw[akM (by omega)]at hq;cases hq
theorem ij.app{h:ak4 ao}{B:ao}(hB:m9 (some B)=none):ij h (h++[B]):=λm=>by
 by_cases hl:m<h.length
 ·rw[akq hl]
 ·rw[akw (by omega),akM (by omega:h.length<=m)];by_cases h0:m-h.length=0
  ·rw[h0];exact hB.symm
  ·rw[akM (by simp;omega)]
theorem ij.set{h:ak4 ao}{n:Nat}{B B':ao}(hn:h[n]?=some B)(hB:m9 (some B)=m9 (some B')):ij h (h.set n B'):=λm=>by
 by_cases e:n=m
 ·subst e;rw[akJ (akg.1 hn).1,hn];exact hB
 ·rw[akO e]
def iE(h h':ak4 ao):Prop:=∀(n:Nat)(B:ao),h[n]?=some B->aif B=true->h'[n]?=some B
theorem iE.app(h e:ak4 ao):iE h (h++e):=λn cs hn _=>by
 rw[akq (akg.1 hn).1];exact hn
theorem iE.refl(h:ak4 ao):iE h h:=λ_ _ hn _=>hn
theorem ail{P:ak7}{ρ:Operand->AV}{h J:ak4 ao}{T:TypeId}{m i:Operand}{ok:Bool}{x:AV}{p:Sd}(hx:oc P (.lookup T m i ok) ρ h=some (x,J,p)):J=h/\∀h',iE h h'->oc P (.lookup T m i ok) ρ h'=some (x,h',p):=by
 simp only[oc]at hx ⊢;split at hx
 ·next k e hT=>
  split at hx
  ·next z hz=>
   split at hx
   ·next b s' hm hi=>
    split at hx
    ·next kv hn=>
     cases hc:gZ P k with
     |false=>rw[hc]at hx;cases hx
     |true=>
      rw[hc]at hx;cases hx
      refine⟨rfl,λh' hh=> ?_⟩;rw[hh b _ hn rfl];simp only[cond_true]
    ·cases hx
   ·cases hx
  ·cases hx
 ·cases hx
theorem Wl{h:ak4 ao}{n e k:Nat}{cs:ak4 (ak4 AV)}(hn:h[n]?=some (.vec e k cs)):m9 h[n]?=some (k,cs.length):=by rw[hn];rfl
theorem Qc{h:ak4 ao}{n k l:Nat}(hq:m9 h[n]?=some (k,l)):∃e cs,h[n]?=some (.vec e k cs)/\cs.length=l:=by
 unfold m9 at hq;split at hq
 ·next e k' cs e1=>cases hq;exact⟨e,cs,e1,rfl⟩
 ·cases hq
theorem agd{P:ak7}{o:Oper}{ρ:Operand->AV}{h J:ak4 ao}{a:VA}{x:AV}{p:Prop}(hv:ju o=true)(hk:cy o=0)(hx:ia P o.op ρ h a=some (x,J,p))(hp:p):J=h/\∀h',iJ h h'->∃p',ia P o.op ρ h' a=some (x,h',p')/\p':=by
 obtain⟨dst,op,type,pos,after,guard⟩:=o;cases op with
 |indexAddr T y i=>
  simp only[ia]at hx ⊢;split at hx
  ·next n o len L k z e k' i' e1 e2 e3=>
   split at hx
   ·next e4 k2 cs hn=>
    obtain⟨hb,he⟩:=lH hx;cases he
    rw[aki,beq_iff_eq,beq_iff_eq]at hb;obtain⟨rfl,rfl⟩:=hb;refine⟨rfl,λh' hh=> ?_⟩;obtain⟨e5,cs5,q1,q2⟩:=Qc (hh n _ (Wl hn));simp only[q1,akZ,Bool.and_self,cond_true];exact⟨_,rfl,by rw[q2];exact hp.1,hp.2⟩
   ·cases hx
  ·cases hx
 |fieldAddr T y f=>
  simp only[ia]at hx ⊢;split at hx
  ·next e1 e2=>cases hx;exact⟨rfl,λh' _=>⟨_,rfl,trivial⟩⟩
  ·cases hx
 |nilCheck y=>
  simp only[ia]at hx ⊢;split at hx
  ·next e1=>cases hx;exact⟨rfl,λh' _=>⟨_,rfl,trivial⟩⟩
  ·cases hx
 |call c=>
  cases hc:c.callee with
  |builtin b=>
   cases b with
   |len=>
    simp only[ia,hc]at hx ⊢;split at hx
    ·split at hx
     ·next n o len L k e1=>
      split at hx
      ·next e2 k2 cs hn=>
       obtain⟨hb,he⟩:=lH hx;cases he
       rw[aki,beq_iff_eq]at hb;obtain⟨iR,rfl⟩:=hb;refine⟨rfl,λh' hh=> ?_⟩;obtain⟨e5,cs5,q1,q2⟩:=Qc (hh n _ (Wl hn));simp only[q1,iR,akZ,Bool.and_self,cond_true];exact⟨_,rfl,by rw[q2];exact hp⟩
      ·cases hx
     ·cases hx
    ·cases hx
   |_=>simp [ju,hc]at hv
  |_=>simp [ju,hc]at hv
 |load t y=>simp [cy]at hk
 |store t y z=>simp [cy]at hk
 |_=>simp [ju]at hv
theorem Z7{P:ak7}{o:Oper}{ρ:Operand->AV}{h J:ak4 ao}{a:VA}{x:AV}{p:Prop}(hv:ju o=true)(hk:cy o=1)(hx:ia P o.op ρ h a=some (x,J,p))(hp:p):J=h/\∀h',iE h h'->∃p',ia P o.op ρ h' a=some (x,h',p')/\p':=by
 obtain⟨dst,op,type,pos,after,guard⟩:=o;cases op with
 |load t y=>
  simp only[ia]at hx ⊢;split at hx
  ·next n i j L k c e1=>
   split at hx
   ·next e2 k' cs z hn hz=>
    obtain⟨hb,he⟩:=lH hx;cases he
    refine⟨rfl,λh' hh=> ?_⟩;simp only[hh n _ hn rfl,hz,hb,cond_true];exact⟨_,rfl,hp⟩
   ·cases hx
  ·cases hx
 |indexAddr T y i=>simp [cy]at hk
 |fieldAddr T y f=>simp [cy]at hk
 |nilCheck y=>simp [cy]at hk
 |call c=>
  cases hc:c.callee with
  |builtin b=>cases b<;>simp [cy,hc]at hk
  |value f=>cases lZ:oU f<;>simp [cy,hc,lZ]at hk
  |invoke=>simp [cy,hc]at hk
 |store t y z=>simp [cy]at hk
 |_=>simp [ju]at hv
theorem aaj{P:ak7}{o:Oper}{ρ:Operand->AV}{h J:ak4 ao}{a:VA}{x:AV}{p:Prop}(hv:ju o=true)(hk:cy o=3)(hx:ia P o.op ρ h a=some (x,J,p))(hp:p):ij h J:=by
 obtain⟨dst,op,type,pos,after,guard⟩:=o;cases op with
 |store t y z=>
  simp only[ia]at hx;split at hx
  ·next n i j L k c cD e1=>
   split at hx
   ·next e k' cs q hn hz=>
    obtain⟨hb,he⟩:=lH hx;cases he
    simp only[aki,beq_iff_eq]at hb;refine ij.set hn ?_;simp only[m9,List.length_set,hp.2.2,hb.1.1.1.1]
   ·cases hx
  ·cases hx
 |load t y=>simp [cy]at hk
 |indexAddr T y i=>simp [cy]at hk
 |fieldAddr T y f=>simp [cy]at hk
 |nilCheck y=>simp [cy]at hk
 |call c=>
  cases hc:c.callee with
  |builtin b=>cases b<;>simp [cy,hc]at hk
  |value f=>cases lZ:oU f<;>simp [cy,hc,lZ]at hk
  |invoke=>simp [cy,hc]at hk
 |_=>simp [ju]at hv
def jw(m:Bool)(o:Oper):Nat:=bif mB m o then 7 else cy o
def eE(m:Bool)(P:ak7)(o:Oper)(ρ:Operand->AV)(h:ak4 ao)(x:AV)(J:ak4 ao):Prop:=
 match jw m o with
 |0=>J=h/\∀h',(m=true\/iJ h h')->∀C:AV->ak4 ao->Prop,C x h'->jj P o ρ h' C
 |1=>J=h/\∀h',iE h h'->∀C:AV->ak4 ao->Prop,C x h'->jj P o ρ h' C
 |2=>∃B,m9 (some B)=none/\x= .ptr h.length 0/\J=h++[B]/\∀h'(C:AV->ak4 ao->Prop),C (.ptr h'.length 0) (h'++[B])->jj P o ρ h' C
 |3=>ij h J/\∀C:AV->ak4 ao->Prop,C x J->jj P o ρ h C
 |4=>J=h/\∀e(C:AV->ak4 ao->Prop),C x (h++e)->jj P o ρ (h++e) C
 |5=>(iE h J/\iE J h/\ij h J)/\∀C:AV->ak4 ao->Prop,C x J->jj P o ρ h C
 |6=>∃e0,J=h++e0/\∀C:AV->ak4 ao->Prop,C x J->jj P o ρ h C
 |7=>∀C:AV->ak4 ao->Prop,C x J->jj P o ρ h C
 |_=>False
section
variable {P:ak7} {o:Oper} {ρ ρ':Operand->AV} {h:ak4 ao} {C:AV->ak4 ao->Prop}
theorem afn{p:AV}{K:ak4 AV->Nat->Prop}(hp:rN h p K):∃cs off,K cs off/\∀h',iE h h'->∀K':ak4 AV->Nat->Prop,K' cs off->rN h' p K':=by
 unfold rN at hp ⊢;split at hp
 ·rename_i n off
  split at hp
  ·rename_i cs gw
   refine⟨cs,off,hp,λh' hh K' hk=> ?_⟩;rw[hh n _ gw rfl];exact hk
  ·exact hp.elim
 ·rename_i xs i off
  split at hp
  ·rename_i cs gw
   refine⟨_,off,hp,λh' _ K' hk=> ?_⟩;exact hk
  ·exact hp.elim
 ·exact hp.elim
theorem afy{t:Nat}{p:AV}{K:AV->Prop}(hp:nx P t h p K):∃x,K x/\∀h',iE h h'->∀K':AV->Prop,K' x->nx P t h' p K':=by
 unfold nx at hp ⊢;obtain⟨cs,off,J,h2⟩:=afn hp;split at J
 ·rw[bV]at J;refine⟨_,J.2,λh' hh K' iP=>h2 h' hh _ ?_⟩;exact bV.2 ⟨J.1,iP⟩
 ·split at J
  ·rename_i c hc
   refine⟨c,J,λh' hh K' iP=>h2 h' hh _ ?_⟩;simp only[hc];exact iP
  ·exact J.elim
 ·exact J.elim
theorem sQ{x:ak6 Operand}{d:Nat}{F:Nat->Prop}(hx:jF ρ x d F):∃m,F m/\∀F':Nat->Prop,F' m->jF ρ x d F':=by
 cases x with
 |none=>exact⟨d,hx,λ_ h=>h⟩
 |some y=>
  simp only[jF]at hx;split at hx
  ·rename_i z hz
   exact⟨_,hx.2,λF' hF=>by simp only[jF,hz];exact⟨hx.1,hF⟩⟩
  ·exact hx.elim
theorem afI(hk:cy o=0)(hc:cT P o ρ h C):∃x,C x h/\∀h'(C':AV->ak4 ao->Prop),C' x h'->cT P o ρ h' C':=by
 have sw:∀(F:(AV->Prop)->Prop),(∀K,F K->∃x,K x/\∀K',K' x->F K')->F (λx=>C x h)->(∀h' C',cT P o ρ h' C'=F (λx=>C' x h'))->∃x,C x h/\∀h'(C':AV->ak4 ao->Prop),C' x h'->cT P o ρ h' C':=λF hF h0 he=>by
  obtain⟨x,J,h2⟩:=hF _ h0;exact⟨x,J,λh' C' dI=>by rw[he];exact h2 _ dI⟩
 obtain⟨dst,op,type,pos,after,guard⟩:=o;cases op with
 |move a=>exact⟨ρ a,hc,λ_ _ h=>h⟩
 |assign a=>exact⟨ρ a,hc,λ_ _ h=>h⟩
 |pick c a b=>
  simp only[cT]at hc;split at hc
  ·rename_i t ht
   cases t with
   |true=>exact⟨ρ a,hc.1 rfl,λh' C' dI=>by simp only[cT,ht];exact⟨λ_=>dI,λe=>by cases e⟩⟩
   |false=>exact⟨ρ b,hc.2 rfl,λh' C' dI=>by simp only[cT,ht];exact⟨λe=>(by cases e),λ_=>dI⟩⟩
  ·exact hc.elim
 |nilCheck a=>
  simp only[cT]at hc;split at hc
  ·rename_i m off e;exact⟨_,hc,λh' C' dI=>by simp only[cT,e];exact dI⟩
  ·rename_i xs i off e;exact⟨_,hc,λh' C' dI=>by simp only[cT,e];exact dI⟩
  ·rename_i f cs e;exact⟨_,hc,λh' C' dI=>by simp only[cT,e];exact dI⟩
  ·exact hc.elim
 |fieldAddr t a f=>
  simp only[cT]at hc;split at hc
  ·rename_i fo k g hf
   split at hc
   ·rename_i m off e;exact⟨_,hc,λh' C' dI=>by simp only[cT,hf,e];exact dI⟩
   ·rename_i xs i off e;exact⟨_,hc,λh' C' dI=>by simp only[cT,hf,e];exact dI⟩
   ·exact hc.elim
  ·exact hc.elim
 |field t a f=>
  refine sw (uu P t (ρ a) f) (λK hK=> ?_) hc (λ_ _=>rfl);unfold uu at hK ⊢;split at hK
  ·rw[bV]at hK;exact⟨_,hK.2,λK' eH=>bV.2 ⟨hK.1,eH⟩⟩
  ·split at hK
   ·rename_i c fM;exact⟨c,hK,λK' eH=>eH⟩
   ·exact hK.elim
  ·exact hK.elim
 |indexAddr t a b=>
  refine sw (rJ P t (ρ a) (ρ b)) (λK hK=> ?_) hc (λ_ _=>rfl);unfold rJ at hK ⊢;split at hK
  ·rename_i e k hT
   split at hK
   ·rename_i n off len cap k'
    split at hK
    ·rename_i z hz
     rw[bV]at hK;obtain⟨J,h2,h3,h4⟩:=hK;exact⟨_,h4,λK' eH=>bV.2 ⟨J,h2,h3,eH⟩⟩
    ·exact hK.elim
   ·split at hK
    ·rename_i xs z ld hz
     obtain⟨h0,hK⟩:=hK;split at hK
     ·rename_i c fM
      exact⟨_,hK.2,λK' eH=>⟨h0,hK.1,eH⟩⟩
     ·exact hK.elim
    ·exact hK.elim
  ·split at hK
   ·rename_i n e k b' off z hT hz
    obtain⟨J,h2,h3⟩:=hK;exact⟨_,h3,λK' eH=>⟨J,h2,eH⟩⟩
   ·rename_i n e k xs i' off z hT hz
    rw[bV]at hK;obtain⟨h0,J,h2,h3⟩:=hK;split at h3
    ·rename_i c fM
     split at h3
     ·rename_i d hd
      exact⟨_,h3,λK' eH=>bV.2 ⟨h0,J,h2,eH⟩⟩
     ·exact h3.elim
    ·exact h3.elim
   ·exact hK.elim
 |index t a b=>
  simp only[cT]at hc;split at hc
  ·rename_i bb z e1 e2
   rw[bV]at hc;obtain⟨J,h2,h3⟩:=hc;split at h3
   ·rename_i c fM
    exact⟨_,h3,λh' C' dI=>by simp only[cT,e1,e2];exact bV.2 ⟨J,h2,by simp only[fM];exact dI⟩⟩
   ·exact h3.elim
  ·exact hc.elim
 |build t ps=>
  refine sw (vf P t (ps.toList.map λp:Nat×Operand=>(p.1,ρ p.2))) (λK hK=> ?_) hc (λ_ _=>rfl);unfold vf at hK ⊢;split at hK
  ·split at hK
   ·rename_i cs gw
    rw[bV]at hK;exact⟨_,hK.2,λK' eH=>bV.2 ⟨hK.1,eH⟩⟩
   ·exact hK.elim
  ·exact hK.elim
 |buildSlice t n ps=>
  refine sw (uL P t n (ps.toList.map λp:Nat×Operand=>(p.1,ρ p.2))) (λK hK=> ?_) hc (λ_ _=>rfl);unfold uL at hK ⊢;split at hK
  ·split at hK
   ·split at hK
    ·rename_i cs gw
     split at hK
     ·rename_i ds qj
      rw[bV]at hK;exact⟨_,hK.2,λK' eH=>bV.2 ⟨hK.1,eH⟩⟩
     ·exact hK.elim
    ·exact hK.elim
   ·exact hK.elim
  ·exact hK.elim
 |slice t a lo hi mx=>
  refine sw (tA P t ρ (ρ a) lo hi mx) (λK hK=> ?_) hc (λ_ _=>rfl);unfold tA at hK ⊢;split at hK
  ·split at hK
   ·rw[bV]at hK;obtain⟨h0,hK⟩:=hK;obtain⟨m1,hK,j1⟩:=sQ hK;obtain⟨J,hK⟩:=hK;obtain⟨m2,hK,j2⟩:=sQ hK;obtain⟨h2,hK⟩:=hK;exact⟨_,hK,λK' eH=>bV.2 ⟨h0,j1 _ ⟨J,j2 _ ⟨h2,eH⟩⟩⟩⟩
   ·split at hK
    ·rw[bV]at hK;obtain⟨h0,hK⟩:=hK;obtain⟨m1,hK,j1⟩:=sQ hK;rw[bV]at hK;obtain⟨J,hK⟩:=hK;obtain⟨m2,hK,j2⟩:=sQ hK;rw[bV]at hK;obtain⟨h2,hK⟩:=hK;exact⟨_,hK,λK' eH=>by rw[bV];exact⟨h0,j1 _ (by rw[bV];exact⟨J,j2 _ (by rw[bV];exact⟨h2,eH⟩)⟩)⟩⟩
    ·exact hK.elim
   ·split at hK
    ·obtain⟨h0,hK⟩:=hK;obtain⟨m1,hK,j1⟩:=sQ hK;obtain⟨J,hK⟩:=hK;obtain⟨m2,hK,j2⟩:=sQ hK;obtain⟨h2,hK⟩:=hK;exact⟨_,hK,λK' eH=>⟨h0,j1 _ ⟨J,j2 _ ⟨h2,eH⟩⟩⟩⟩
    ·exact hK.elim
  ·split at hK
   ·split at hK
    ·obtain⟨h0,hK⟩:=hK;obtain⟨m1,hK,j1⟩:=sQ hK;obtain⟨J,hK⟩:=hK;obtain⟨m2,hK,j2⟩:=sQ hK;obtain⟨h2,hK⟩:=hK;exact⟨_,hK,λK' eH=>⟨h0,j1 _ ⟨J,j2 _ ⟨h2,eH⟩⟩⟩⟩
    ·exact hK.elim
   ·exact hK.elim
 |extract a i=>
  simp only[cT]at hc;split at hc
  ·rename_i cs e
   split at hc
   ·rename_i c fM;exact⟨c,hc,λh' C' dI=>by simp only[cT,e,fM];exact dI⟩
   ·exact hc.elim
  ·exact hc.elim
 |makeFunc fn first di=>
  cases fn with
  |func f=>
   simp only[cT]at hc;split at hc
   ·rename_i e;exact⟨_,hc,λh' C' dI=>by simp only[cT,e];exact dI⟩
   ·exact hc.elim
  |_=>exact hc.elim
 |binOp op t a b u=>
  refine sw (vN P t op (ρ a) (ρ b)) (λK hK=> ?_) hc (λ_ _=>rfl);unfold vN at hK ⊢;split at hK
  ·split at hK
   ·rw[bV]at hK;exact⟨_,hK.2.2,λK' eH=>bV.2 ⟨hK.1,hK.2.1,eH⟩⟩
   ·split at hK
    ·exact⟨_,hK.2,λK' eH=>⟨hK.1,eH⟩⟩
    ·split at hK
     ·rw[bV]at hK;exact⟨_,hK.2,λK' eH=>bV.2 ⟨hK.1,eH⟩⟩
     ·exact hK.elim
  ·split at hK
   ·exact⟨_,hK,λK' eH=>eH⟩
   ·split at hK
    ·exact⟨_,hK.2,λK' eH=>⟨hK.1,eH⟩⟩
    ·exact hK.elim
  ·split at hK
   ·rw[bV]at hK;exact⟨_,hK.2,λK' eH=>bV.2 ⟨hK.1,eH⟩⟩
   ·exact hK.elim
  ·split at hK
   ·split at hK
    ·exact⟨_,hK,λK' eH=>eH⟩
    ·exact hK.elim
   ·exact hK.elim
  ·exact hK.elim
 |unOp op t a=>
  refine sw (vD op (ρ a)) (λK hK=> ?_) hc (λ_ _=>rfl);unfold vD at hK ⊢;split at hK
  ·split at hK
   ·exact⟨_,hK,λK' eH=>eH⟩
   ·exact hK.elim
  ·exact hK.elim
 |convert t u a=>
  refine sw (vJ P t u (ρ a)) (λK hK=> ?_) hc (λ_ _=>rfl);unfold vJ at hK ⊢;split at hK
  ·split at hK
   ·exact⟨_,hK,λK' eH=>eH⟩
   ·exact hK.elim
  ·rw[bV]at hK;exact⟨_,hK.2,λK' eH=>bV.2 ⟨hK.1,eH⟩⟩
  ·split at hK
   ·rw[bV]at hK;obtain⟨J,ns,h2,h3⟩:=hK;exact⟨_,h3,λK' eH=>bV.2 ⟨J,ns,h2,eH⟩⟩
   ·exact hK.elim
 |call c=>
  simp only[cy]at hk;cases fj:c.callee with
  |value f=>cases lZ:oU f<;>simp [fj,lZ]at hk
  |invoke=>simp [fj]at hk
  |builtin b=>
   cases b with
   |len=>
    simp only[cT,fj]at hc;split at hc
    ·rename_i x T e1 e2
     have key:∀F:Nat->Prop,qw P T (ρ x) F->∃m,F m/\∀F':Nat->Prop,F' m->qw P T (ρ x) F':=λF hF=>by
      unfold qw at hF ⊢;split at hF
      ·rw[bV]at hF;exact⟨_,hF.2,λF' kP=>bV.2 ⟨hF.1,kP⟩⟩
      ·rw[bV]at hF;exact⟨_,hF.2,λF' kP=>bV.2 ⟨hF.1,kP⟩⟩
      ·split at hF
       ·rw[bV]at hF;exact⟨_,hF.2,λF' kP=>bV.2 ⟨hF.1,kP⟩⟩
       ·exact hF.elim
     obtain⟨m,J,h2⟩:=key _ hc;exact⟨_,J,λh' C' dI=>by simp only[cT,fj,e1,e2];exact h2 _ dI⟩
    ·exact hc.elim
   |max=>
    simp only[cT,fj]at hc;split at hc
    ·rename_i e1
     exact⟨_,hc,λh' C' dI=>by simp only[cT,fj,e1];exact dI⟩
    ·exact hc.elim
   |min=>
    simp only[cT,fj]at hc;split at hc
    ·rename_i e1
     exact⟨_,hc,λh' C' dI=>by simp only[cT,fj,e1];exact dI⟩
    ·exact hc.elim
   |_=>simp [fj]at hk
 |_=>simp [cy]at hk
theorem aix(hk:cy o=2)(hc:cT P o ρ h C):∃B,m9 (some B)=none/\C (.ptr h.length 0) (h++[B])/\∀h'(C':AV->ak4 ao->Prop),C' (.ptr h'.length 0) (h'++[B])->cT P o ρ h' C':=by
 obtain⟨dst,op,type,pos,after,guard⟩:=o;cases op with
 |alloc e=>
  simp only[cT]at hc;split at hc
  ·rename_i z hz;exact⟨_,rfl,hc,λh' C' dI=>by simp only[cT,hz];exact dI⟩
  ·exact hc.elim
 |box e x=>
  simp only[cT]at hc;rw[bV]at hc;exact⟨_,rfl,hc.2,λh' C' dI=>by simp only[cT];rw[bV];exact⟨hc.1,dI⟩⟩
 |call c=>
  simp only[cy]at hk;cases fj:c.callee with
  |value f=>cases lZ:oU f<;>simp [fj,lZ]at hk
  |invoke=>simp [fj]at hk
  |builtin b=>cases b<;>simp [fj]at hk
 |_=>simp [cy]at hk
theorem ZD(hk:cy o=3)(hc:cT P o ρ h C):∃x J,C x J/\ij h J/\∀C':AV->ak4 ao->Prop,C' x J->cT P o ρ h C':=by
 obtain⟨dst,op,type,pos,after,guard⟩:=o;cases op with
 |store t a b=>
  simp only[cT]at hc;have key:∀F:ak4 ao->Prop,wG P t h (ρ a) (ρ b) F->∃J,F J/\ij h J/\∀F':ak4 ao->Prop,F' J->wG P t h (ρ a) (ρ b) F':=λF hF=>by
   unfold wG at hF ⊢;split at hF
   ·split at hF
    ·next hn=>
     split at hF
     ·rw[bV]at hF;exact⟨_,hF.2,ij.set hn rfl,λF' kP=>bV.2 ⟨hF.1,kP⟩⟩
     ·exact hF.elim
    ·exact hF.elim
   ·exact hF.elim
  obtain⟨J,k1,kv,k2⟩:=key _ hc;exact⟨_,J,k1,kv,λC' dI=>by simp only[cT];exact k2 _ dI⟩
 |makeMap t r=>
  simp only[cT]at hc;split at hc
  ·rename_i x h' p hx
   refine⟨x,h',hc.2,?_,λC' dI=>by simp only[cT,hx];exact⟨hc.1,dI⟩⟩;unfold oc at hx;cases r with
   |none=>
    simp only at hx;split at hx
    ·cases hx;exact ij.app rfl
    ·cases hx
   |some r=>cases hx
  ·exact hc.elim
 |mapUpdate t a b c=>
  simp only[cT]at hc;split at hc
  ·rename_i x h' p hx
   refine⟨x,h',hc.2,?_,λC' dI=>by simp only[cT,hx];exact⟨hc.1,dI⟩⟩;unfold oc at hx;simp only at hx;split at hx
   ·split at hx
    ·split at hx
     ·next hn=>
      obtain⟨hb,he⟩:=lH hx;cases he
      exact ij.set hn rfl
     ·cases hx
    ·cases hx
   ·cases hx
  ·exact hc.elim
 |call c=>
  simp only[cy]at hk;cases fj:c.callee with
  |value f=>cases lZ:oU f<;>simp [fj,lZ]at hk
  |invoke=>simp [fj]at hk
  |builtin b=>cases b<;>simp [fj]at hk
 |_=>simp [cy]at hk
theorem X1{n:Nat}{e:TypeId}{k l e' k' l':Nat}(hn:h[n]?=some (.front e' k' l')):iE h (h.set n (.front e k l))/\iE (h.set n (.front e k l)) h:=by
 refine⟨λm cs hm hc=> ?_,λm cs hm hc=> ?_⟩
 ·have:n≠m:=λe=>by subst e;rw[hn]at hm;cases hm;cases hc
  rw[akO this];exact hm
 ·by_cases e:n=m
  ·subst e;rw[akJ (akg.1 hn).1]at hm;cases hm;cases hc
  ·rw[akO e]at hm;exact hm
theorem Iw{e:TypeId}{k l:Nat}:iE h (h++[.front e k l])/\iE (h++[.front e k l]) h:=by
 refine⟨iE.app _ _,λm cs hm hc=> ?_⟩;by_cases hl:m<h.length
 ·rw[akq hl]at hm;exact hm
 ·rw[akw (by omega)]at hm;by_cases h0:m-h.length=0
  ·rw[h0]at hm;cases hm;cases hc
  ·rw[akM (by simp;omega)]at hm;cases hm
theorem af5(hk:cy o=5)(hc:cT P o ρ h C):∃x J,C x J/\(iE h J/\iE J h/\ij h J)/\∀C':AV->ak4 ao->Prop,C' x J->cT P o ρ h C':=by
 obtain⟨dst,op,type,pos,after,guard⟩:=o;cases op with
 |call c=>
  simp only[cy]at hk;cases fj:c.callee with
  |value f=>cases lZ:oU f<;>simp [fj,lZ]at hk
  |invoke=>simp [fj]at hk
  |builtin b=>
   cases b with
   |append=>
    simp only[cT,fj]at hc;split at hc
    ·rename_i x y T U e1 e2
     rw[bV]at hc;have ah3:∀(k:Nat)(y:AV)(F:ak4 (ak4 D)->Prop),sr h k y F->∃ys,F ys/\∀F':ak4 (ak4 D)->Prop,F' ys->sr h k y F':=λk y F hF=>by
       unfold sr at hF ⊢;split at hF
       ·split at hF
        ·split at hF
         ·rw[bV]at hF;exact⟨_,hF.2,λF' kP=>bV.2 ⟨hF.1,kP⟩⟩
         ·exact hF.elim
        ·exact hF.elim
       ·split at hF
        ·exact⟨_,hF.2,λF' kP=>⟨hF.1,kP⟩⟩
        ·exact hF.elim
     have key:∀F:AV->ak4 ao->Prop,sD P T h (ρ x) (ρ y) F->∃v J,F v J/\(iE h J/\iE J h/\ij h J)/\∀F':AV->ak4 ao->Prop,F' v J->sD P T h (ρ x) (ρ y) F':=λF hF=>by
      unfold sD at hF ⊢;split at hF
      ·split at hF
       ·rw[bV]at hF;obtain⟨h0,hF⟩:=hF;obtain⟨ys,hF,hs⟩:=ah3 _ _ _ hF;split at hF
        ·split at hF
         ·rename_i hn
          rw[bV]at hF;obtain⟨g1,g2,g3,g4,g5,g6⟩:=hF;exact⟨_,_,g6,⟨(X1 hn).1,(X1 hn).2,ij.set hn rfl⟩,λF' kP=>bV.2 ⟨h0,hs _ (bV.2 ⟨g1,g2,g3,g4,g5,kP⟩)⟩⟩
         ·exact hF.elim
        ·obtain⟨g4,g5,g6⟩:=hF;exact⟨_,_,g6,⟨Iw.1,Iw.2,ij.app rfl⟩,λF' kP=>bV.2 ⟨h0,hs _ ⟨g4,g5,kP⟩⟩⟩
        ·obtain⟨g3,g4,g5,g6⟩:=hF;exact⟨_,_,g6,⟨Iw.1,Iw.2,ij.app rfl⟩,λF' kP=>bV.2 ⟨h0,hs _ ⟨g3,g4,g5,kP⟩⟩⟩
        ·exact hF.elim
       ·exact hF.elim
      ·exact hF.elim
     obtain⟨v,J,k1,c1,k2⟩:=key _ hc.2;exact⟨v,J,k1,c1,λC' dI=>by simp only[cT,fj,e1,e2];rw[bV];exact⟨hc.1,k2 _ dI⟩⟩
    ·exact hc.elim
   |_=>simp [fj]at hk
 |_=>simp [cy]at hk
theorem RG{m:Bool}(j0:mB m o=false){s:St}{K:St->Prop}(hd:yQ P o K s):∃x J,eE m P o (ev s) s.h x J/\K ((s.wh J).put o.dst x):=by
 have km:jw m o=cy o:=by unfold jw;rw[j0];rfl
 have plain:pZ P o K s->cy o≠4->cy o≠6->∃x J,eE m P o (ev s) s.h x J/\K ((s.wh J).put o.dst x):=λha S1 A2=>by
  unfold pZ at ha;by_cases h0:cy o=0
  ·obtain⟨x,J,h2⟩:=afI h0 ha;exact⟨x,s.h,by unfold eE;rw[km,h0];exact⟨rfl,λh' _ C' dI=> .inl (h2 h' C' dI)⟩,J⟩
  ·by_cases J:cy o=1
   ·obtain⟨dst,op,type,pos,after,guard⟩:=o;cases op with
    |load t a=>
     simp only[cT]at ha;obtain⟨x,k1,k2⟩:=afy ha;exact⟨x,s.h,by unfold eE;rw[km,J];exact⟨rfl,λh' hh C' dI=> .inl (by simp only[cT];exact k2 h' hh _ dI)⟩,k1⟩
    |lookup t a b ok=>
     simp only[cT]at ha;split at ha
     ·rename_i x h' p hx
      obtain⟨rfl,k2⟩:=ail hx;exact⟨x,s.h,by unfold eE;rw[km,J];exact⟨rfl,λh' hh C' dI=> .inl (by simp only[cT,k2 h' hh];exact⟨ha.1,dI⟩)⟩,ha.2⟩
     ·exact ha.elim
    |call c=>
     simp only[cy]at J;cases fj:c.callee with
     |value f=>cases lZ:oU f<;>simp [fj,lZ]at J
     |invoke=>simp [fj]at J
     |builtin b=>cases b<;>simp [fj]at J
    |_=>simp [cy]at J
   ·by_cases h2:cy o=2
    ·obtain⟨B,kB,k1,k2⟩:=aix h2 ha;exact⟨_,_,by unfold eE;rw[km,h2];exact⟨B,kB,rfl,rfl,λh' C' dI=> .inl (k2 h' C' dI)⟩,k1⟩
    ·by_cases h3:cy o=3
     ·obtain⟨x,oW,k1,kv,k2⟩:=ZD h3 ha;exact⟨x,oW,by unfold eE;rw[km,h3];exact⟨kv,λC' dI=> .inl (k2 C' dI)⟩,k1⟩
     ·by_cases h5:cy o=5
      ·obtain⟨x,oW,k1,c1,k2⟩:=af5 h5 ha;exact⟨x,oW,by unfold eE;rw[km,h5];exact⟨c1,λC' dI=> .inl (k2 C' dI)⟩,k1⟩
      exfalso;obtain⟨dst,op,type,pos,after,guard⟩:=o;cases op with
      |call c=>
       simp only[cy]at h0 h3 S1 A2 h5;simp only[cT]at ha;cases fj:c.callee with
       |value f=>cases lZ:oU f<;>simp [fj,lZ]at S1 A2
       |invoke=>simp only[fj]at ha
       |builtin b=>cases b<;>simp only[fj]at ha h0 h3 h5<;>first|exact ha|exact absurd rfl h0|exact absurd rfl h3|exact absurd rfl h5|exact h3 trivial|exact h0 trivial|exact h5 trivial
      |_=>first|exact absurd rfl h0|exact absurd rfl J|exact absurd rfl h2|exact absurd rfl h3|exact ha
 unfold yQ at hd;split at hd
 ·rename_i c gX
  split at hd
  ·rename_i f fj
   have fin:∀x:AV,(∀e,∀C':AV->ak4 ao->Prop,C' x (s.h++e)->cT P o (ev s) (s.h++e) C')->eE m P o (ev s) s.h x s.h:=λx hx=>by
    have hk:cy o=4\/cy o=6:=by
     unfold cy;simp only[gX,fj];cases oU f<;>simp
    unfold eE;rw[km];rcases hk with hk|hk
    ·rw[hk];exact⟨rfl,λe C' dI=> .inl (hx e C' dI)⟩
    ·rw[hk];refine⟨[],(akB _).symm,λC' dI=> .inl ?_⟩;have:=hx [] C' (by rw[akB];exact dI)
     rwa [akB]at this
   split at hd
   ·rename_i g di hg
    obtain⟨x,hK,ji⟩:=hd;refine⟨x,s.h,fin x λe C' dI=> ?_,hK⟩;unfold cT;simp only[gX,fj,hg];exact(ji e).mono λr' h' ⟨e1,e2⟩=>by subst e1;subst e2;exact dI
   ·rename_i q hg
    obtain⟨g,as,eq,x,hK,ji⟩:=hd;refine⟨x,s.h,fin x λe C' dI=> ?_,hK⟩;unfold cT;simp only[gX,fj,hg];exact⟨g,as,eq,(ji e).mono λr' h' ⟨e1,e2⟩=>by subst e1;subst e2;exact dI⟩
   ·exact hd.elim
  ·rename_i fj
   exact plain hd (by
    unfold cy;simp only[gX];cases hc:c.callee with
    |value f=>exact absurd hc (fj f)
    |invoke=>simp
    |builtin b=>cases b<;>simp) (by
    unfold cy;simp only[gX];cases hc:c.callee with
    |value f=>exact absurd hc (fj f)
    |invoke=>simp
    |builtin b=>cases b<;>simp)
 ·rename_i gX
  exact plain hd (by
   unfold cy;split<;>first|(rename_i c hc;exact(gX c hc).elim)|simp) (by
   unfold cy;split<;>first|(rename_i c hc;exact(gX c hc).elim)|simp)
theorem RB{m:Bool}{J:ak4 ao}{x:AV}(h0:eE m P o ρ h x J):∀C:AV->ak4 ao->Prop,C x J->jj P o ρ h C:=λC hC=>by
 unfold eE at h0;split at h0
 ·obtain⟨e,h0⟩:=h0;subst e;exact h0 _ (.inr (iJ.refl _)) _ hC
 ·obtain⟨e,h0⟩:=h0;subst e;exact h0 _ (iE.refl _) _ hC
 ·obtain⟨B,_,rfl,rfl,h0⟩:=h0;exact h0 _ _ hC
 ·exact h0.2 _ hC
 ·obtain⟨e,h0⟩:=h0;subst e;have:=h0 [] C (by rw[akB];exact hC)
  rwa [akB]at this
 ·exact h0.2 _ hC
 ·obtain⟨e0,_,h0⟩:=h0;exact h0 _ hC
 ·exact h0 _ hC
 ·exact h0.elim
theorem HZ{m:Bool}{s:St}{K:St->Prop}(hd:uY m P o K s):∃x J,eE m P o (ev s) s.h x J/\K ((s.wh J).put o.dst x):=by
 cases j0:mB m o with
 |true=>
  have k7:jw m o=7:=by unfold jw;rw[j0];rfl
  rcases hd with hd|⟨_,x,J,hK,hc⟩|⟨hv,a,x,h',p,hx,hp,hK⟩|⟨_,x,e0,hK,hc⟩
  ·obtain⟨x,J,h2,hK⟩:=RG (m:=false) rfl hd;refine⟨x,J,?_,hK⟩;have:=RB h2;unfold eE;rw[k7];exact this
  ·exact⟨x,J,by unfold eE;rw[k7];exact λC hC=> .inl (hc C hC),hK⟩
  ·exact⟨x,h',by unfold eE;rw[k7];exact λC hC=> .inr ⟨hv.imp (·.1) (λe=>(aki _ _▸e).2),a,x,h',p,hx,hp,hC⟩,hK⟩
  ·exact⟨x,_,by unfold eE;rw[k7];exact λC hC=> .inl (hc C hC),hK⟩
 |false=>
 have km:jw m o=cy o:=by unfold jw;rw[j0];rfl
 rcases hd with hd|⟨hb,_⟩|⟨hv,a,x,h',p,hx,hp,hK⟩|⟨hk,x,e0,hK,hc⟩
 ·exact RG j0 hd
 ·rw[j0]at hb;cases hb
 ·obtain⟨hv,Tq⟩:ju o=true/\(m&&cy o==0)=false:=hv.resolve_right λe=>by
   rw[aki]at e;unfold mB at j0;rw[e.1,e.2]at j0;simp at j0
  have hk:cy o=0\/cy o=1\/cy o=3:=by
   unfold ju at hv;unfold cy;split at hv
   all_goals first|(next e=>simp only[e];simp)|skip
   ·next c e=>
    split at hv
    ·next e2=>simp only[e,e2];simp
    ·cases hv
   ·cases hv
  rcases hk with hk|hk|hk
  ·obtain⟨rfl,h2⟩:=agd hv hk hx hp;refine⟨x,_,?_,hK⟩;unfold eE;rw[km,hk];exact⟨rfl,λh' hh C hC=> .inr ⟨.inl hv,a,x,h',by obtain⟨p',q1,q2⟩:=h2 h' (hh.resolve_left λe=>by rw[e,hk]at Tq;cases Tq);exact⟨p',q1,q2,hC⟩⟩⟩
  ·obtain⟨rfl,h2⟩:=Z7 hv hk hx hp;refine⟨x,_,?_,hK⟩;unfold eE;rw[km,hk];exact⟨rfl,λh' hh C hC=> .inr ⟨.inl hv,a,x,h',by obtain⟨p',q1,q2⟩:=h2 h' hh;exact⟨p',q1,q2,hC⟩⟩⟩
  ·refine⟨x,h',?_,hK⟩;unfold eE;rw[km,hk];exact⟨aaj hv hk hx hp,λC hC=> .inr ⟨.inl hv,a,x,h',p,hx,hp,hC⟩⟩
 ·refine⟨x,_,?_,hK⟩;unfold eE;rw[km,hk];exact⟨e0,rfl,λC hC=> .inl (hc C hC)⟩
end
structure iV(s s':St):Prop where
 n:s.n=s'.n
 h:s.h=s'.h
 t:∀i,bw s.t i=bw s'.t i
theorem iV.refl(s:St):iV s s:=⟨rfl,rfl,λ_=>rfl⟩
theorem iV.symm{s s':St}(h:iV s s'):iV s' s:=⟨h.n.symm,h.h.symm,λi=>(h.t i).symm⟩
theorem iV.trans{a b c:St}(h:iV a b)(k:iV b c):iV a c:=⟨h.n.trans k.n,h.h.trans k.h,λi=>(h.t i).trans (k.t i)⟩
theorem qT(s:St)(d:ak6 Nat)(x:AV)(i:Nat):bw (s.put d x).t i=if d=some i/\i<s.n then x else bw s.t i:=by
 cases d with
 |none=>simp [St.put]
 |some k=>
  by_cases hk:k<s.n
  ·rw[qd hk,kO];by_cases hi:i=k
   ·subst hi;simp [hk]
   ·rw[if_neg hi,if_neg (by simp;intro e;exact absurd e.symm hi)]
  ·rw[Ca hk];rw[if_neg (by rintro⟨e,aL⟩;cases e;exact hk aL)]
theorem pY(s:St)(d:ak6 Nat)(x:AV):(s.put d x).n=s.n:=by
 cases d with
 |none=>rfl
 |some k=>
  by_cases hk:k<s.n
  ·rw[qd hk]
  ·rw[Ca hk]
theorem Ce(s:St)(d:ak6 Nat)(x:AV):(s.put d x).h=s.h:=by
 cases d with
 |none=>rfl
 |some k=>
  by_cases hk:k<s.n
  ·rw[qd hk]
  ·rw[Ca hk]
theorem iV.put{s s':St}(h:iV s s')(J:ak4 ao)(d:ak6 Nat)(x:AV):iV ((s.wh J).put d x) ((s'.wh J).put d x):=
 ⟨by rw[pY,pY];exact h.n,by rw[Ce,Ce];rfl,λi=>by
  rw[qT,qT];show(if d=some i/\i<s.n then x else bw s.t i)=(if d=some i/\i<s'.n then x else bw s'.t i);rw[h.n,h.t]⟩
theorem abo(s:St)(J oW h2:ak4 ao){d d':ak6 Nat}(x x':AV)(cN:∀k,d=some k->d'≠some k):iV ((((s.wh J).put d x).wh h2).put d' x') ((((s.wh oW).put d' x').wh h2).put d x):=by
 refine⟨by simp only[pY];show((s.wh J).put d x).n=((s.wh oW).put d' x').n;simp only[pY];rfl,by simp only[Ce];rfl,λi=> ?_⟩;rw[qT,qT];show(if d'=some i/\i<((s.wh J).put d x).n then x' else bw ((s.wh J).put d x).t i)=(if d=some i/\i<((s.wh oW).put d' x').n then x else bw ((s.wh oW).put d' x').t i);rw[pY,pY,qT,qT];show(if d'=some i/\i<s.n then x' else(if d=some i/\i<s.n then x else bw s.t i))=(if d=some i/\i<s.n then x else(if d'=some i/\i<s.n then x' else bw s.t i));by_cases a:d=some i
 ·have:=cN i a;simp [a,this]
 ·simp [a]
section
variable {P:ak7} {ops:Array Oper}
def lR(m:Bool)(P:ak7)(ops:Array Oper)(o:Oper)(s:St)(x:AV)(J:ak4 ao):Prop:=
 (iB ops o s True False/\eE m P o (ev s) s.h x J)\/(iB ops o s False True/\x= .d (.v undef)/\J=s.h)
theorem Hw{o:Oper}{s:St}{yes no:Prop}(h:iB ops o s yes no):(iB ops o s True False/\yes)\/(iB ops o s False True/\no):=by
 unfold iB at h ⊢;split at h
 ·exact .inl ⟨trivial,h⟩
 ·rename_i j want hg
  split at h
  ·rename_i d hd
   split at h
   ·rename_i b hb
    by_cases vF:b=want
    ·exact .inl ⟨⟨λ_=>trivial,λe=>by subst vF;cases b<;>cases e⟩,h.1 vF⟩
    ·have B9:b= !want:=by cases b<;>cases want<;>simp_all
     exact .inr ⟨⟨λe=>(vF e).elim,λ_=>trivial⟩,h.2 B9⟩
   ·exact .inr ⟨trivial,h⟩
   ·exact h.elim
  ·exact h.elim
theorem tN{o:Oper}{s s':St}{yes no:Prop}(ht:∀d,d∈o.looksAt ops->bw s'.t d=bw s.t d)(h:iB ops o s yes no):iB ops o s' yes no:=by
 unfold iB at h ⊢;split at h
 ·exact h
 ·rename_i j want hg
  split at h
  ·rename_i d hd
   have:bw s'.t d=bw s.t d:=ht d (by unfold Oper.looksAt;rw[hg];simp [hd]);rw[this];exact h
  ·exact h.elim
theorem M4{m:Bool}{o:Oper}{s s':St}{x:AV}{J:ak4 ao}(ht:∀d,d∈o.looksAt ops->bw s'.t d=bw s.t d)(hh:s'.h=s.h)(h:lR m P ops o s x J):lR m P ops o s' x J:=by
 have du:∀y∈o.op.operands,ev s y=ev s' y:=λy hy=>by
  cases y with
  |tmp t=>exact(ht t (by unfold Oper.looksAt;refine akS.2 (.inl (List.mem_filterMap.2 ⟨.tmp t,Array.mem_toList_iff.2 hy,rfl⟩)))).symm
  |_=>rfl
 rcases h with⟨g,hc⟩|⟨g,e1,e2⟩
 ·refine .inl ⟨tN ht g,?_⟩;rw[hh];have sM:∀h C,jj P o (ev s) h C=jj P o (ev s') h C:=λh C=>K1 du;unfold eE at hc ⊢;split at hc
  ·exact⟨hc.1,λh' hh C hC=>sM h' C▸hc.2 h' hh C hC⟩
  ·exact⟨hc.1,λh' hh C hC=>sM _ C▸hc.2 h' hh C hC⟩
  ·obtain⟨B,kB,a,b,c⟩:=hc;exact⟨B,kB,a,b,λh' C hC=>sM h' C▸c h' C hC⟩
  ·exact⟨hc.1,λC hC=>sM _ C▸hc.2 C hC⟩
  ·exact⟨hc.1,λe C hC=>sM _ C▸hc.2 e C hC⟩
  ·exact⟨hc.1,λC hC=>sM _ C▸hc.2 C hC⟩
  ·obtain⟨e0,a,b⟩:=hc;exact⟨e0,a,λC hC=>sM _ C▸b C hC⟩
  ·exact λC hC=>sM _ C▸hc C hC
  ·exact hc.elim
 ·exact .inr ⟨tN ht g,e1,e2.trans hh.symm⟩
theorem X5{o:Oper}(h:cy o=7):False:=by
 unfold cy at h
 repeat' (first|(split at h)|cases h)
 all_goals (cases hg:oU _<;>rw[hg]at h<;>cases h)
theorem ajJ{m:Bool}{o:Oper}{ρ:Operand->AV}{h J:ak4 ao}{x:AV}(h7:mB m o=false)(h0:eE m P o ρ h x J):iJ h J:=by
 unfold eE at h0;unfold jw at h0;rw[h7]at h0;simp only[cond_false]at h0;split at h0
 ·rw[h0.1];exact iJ.refl _
 ·rw[h0.1];exact iJ.refl _
 ·obtain⟨B,kB,_,e,_⟩:=h0;rw[e];exact(ij.app kB).i
 ·exact h0.1.i
 ·rw[h0.1];exact iJ.refl _
 ·exact h0.1.2.2.i
 ·obtain⟨e0,e,_⟩:=h0;rw[e];exact iJ.app _ _
 ·next e=>exact(X5 e).elim
 ·exact h0.elim
theorem afO{m:Bool}{o:Oper}{ρ:Operand->AV}{h J:ak4 ao}{x:AV}(h7:mB m o=false)(hk:cy o≠6)(h0:eE m P o ρ h x J):iJ J h:=by
 unfold eE at h0;unfold jw at h0;rw[h7]at h0;simp only[cond_false]at h0;split at h0
 ·rw[h0.1];exact iJ.refl _
 ·rw[h0.1];exact iJ.refl _
 ·obtain⟨B,kB,_,e,_⟩:=h0;rw[e];exact(ij.app kB).j
 ·exact h0.1.j
 ·rw[h0.1];exact iJ.refl _
 ·exact h0.1.2.2.j
 ·next e=>exact(hk e).elim
 ·next e=>exact(X5 e).elim
 ·exact h0.elim
def yU(m:Bool)(a b:Oper):Bool:=(m&&((mB m a&&(!mB m b&&cy b==0))||(mB m b&&(!mB m a&&cy a==0))))|| !mB m a&& !mB m b&&(cy a==0||(cy b==0&& !(cy a==6))||((cy a==1||cy a==4)&&(cy b==1||cy b==4||cy b==2||cy b==6))||(cy a==1&&cy b==5)||(cy a==5&&cy b==1))
theorem ajY{m:Bool}{oi oj:Oper}{s:St}{xi xj:AV}{hi hj:ak4 ao}(GR:oi.apart ops oj=true)(im:yU m oi oj=true)(J:lR m P ops oi s xi hi)(h2:lR m P ops oj ((s.wh hi).put oi.dst xi) xj hj):
 ∃iC,lR m P ops oj s xj iC/\lR m P ops oi ((s.wh iC).put oj.dst xj) xi hj:=by
 obtain⟨a1,a2,a3⟩:=Oper.apart_spec GR;have tj:∀d,d∈oj.looksAt ops->bw s.t d=bw ((s.wh hi).put oi.dst xi).t d:=λd hd=>by
  rw[qT,if_neg (λe=>a1 d e.1 hd)];rfl
 have ti:∀(h':ak4 ao) d,d∈oi.looksAt ops->bw ((s.wh h').put oj.dst xj).t d=bw s.t d:=λh' d hd=>by
  rw[qT,if_neg (λe=>a3 d e.1 hd)];rfl
 have eY:((s.wh hi).put oi.dst xi).h=hi:=by rw[Ce];rfl
 have oG:∀h',((s.wh h').put oj.dst xj).h=h':=λh'=>by rw[Ce];rfl
 have same:hi=s.h->lR m P ops oj s xj hj:=λe=>M4 tj (by rw[eY,e]) h2;have evi:∀h',∀y∈oi.op.operands,ev ((s.wh h').put oj.dst xj) y=ev s y:=λh' y hy=>by
  cases y with
  |tmp t=>exact ti h' t (by unfold Oper.looksAt;refine akS.2 (.inl (List.mem_filterMap.2 ⟨.tmp t,Array.mem_toList_iff.2 hy,rfl⟩)))
  |_=>rfl
 have evj:∀y∈oj.op.operands,ev ((s.wh hi).put oi.dst xi) y=ev s y:=λy hy=>by
  cases y with
  |tmp t=>exact(tj t (by unfold Oper.looksAt;refine akS.2 (.inl (List.mem_filterMap.2 ⟨.tmp t,Array.mem_toList_iff.2 hy,rfl⟩)))).symm
  |_=>rfl
 have ci:∀h' h C,jj P oi (ev ((s.wh h').put oj.dst xj)) h C=jj P oi (ev s) h C:=λh' h C=>K1 (evi h');have cj:∀h C,jj P oj (ev ((s.wh hi).put oi.dst xi)) h C=jj P oj (ev s) h C:=λh C=>K1 evj;unfold yU at im;rw[Bool.or_eq_true]at im;rcases J with⟨g1,o1⟩|⟨g1,e1,e2⟩
 ·rcases h2 with⟨g2,o2⟩|⟨g2,f1,f2⟩
  ·rcases im with im|im
   ·
    rw[aki,Bool.or_eq_true,aki,aki,aki,aki,Bool.not_eq_true',Bool.not_eq_true',beq_iff_eq,beq_iff_eq]at im;obtain⟨hm,im⟩:=im;have tn:∀h',iB ops oi ((s.wh h').put oj.dst xj) True False:=λh'=>tN (ti h') g1;have HX:iB ops oj s True False:=tN tj g2;rcases im with⟨ZL,lj,kj⟩|⟨haj,li,ki⟩
    ·have mN:jw m oj=0:=by unfold jw;rw[lj];exact kj
     have kJ:jw m oi=7:=by unfold jw;rw[ZL];rfl
     unfold eE at o1 o2;rw[kJ]at o1;rw[mN]at o2;simp only at o1 o2;obtain⟨e,o2⟩:=o2;rw[eY]at e;refine⟨s.h, .inl ⟨HX,?_⟩, .inl ⟨tn s.h,?_⟩⟩
     ·unfold eE;rw[mN];exact⟨rfl,λh' _ C hC=>by rw[<-cj];exact o2 h' (.inl hm) C hC⟩
     ·unfold eE;rw[kJ,oG];exact λC hC=>by rw[ci];exact o1 C (e▸hC)
    ·have kJ:jw m oi=0:=by unfold jw;rw[li];exact ki
     have mN:jw m oj=7:=by unfold jw;rw[haj];rfl
     unfold eE at o1;rw[kJ]at o1;simp only at o1;obtain⟨e,o1⟩:=o1;refine⟨hj,same e, .inl ⟨tn hj,?_⟩⟩;unfold eE;rw[kJ];exact⟨(oG hj).symm,λh' _ C hC=>by rw[ci];exact o1 h' (.inl hm) C hC⟩
   rw[aki,aki,Bool.not_eq_true',Bool.not_eq_true']at im;obtain⟨⟨li,lj⟩,im⟩:=im;have kJ:jw m oi=cy oi:=by unfold jw;rw[li];rfl
   have mN:jw m oj=cy oj:=by unfold jw;rw[lj];rfl
   have tn:∀h',iB ops oi ((s.wh h').put oj.dst xj) True False:=λh'=>tN (ti h') g1;have HX:iB ops oj s True False:=tN tj g2;by_cases k0:cy oi=0
   ·unfold eE at o1;rw[kJ,k0]at o1;simp only at o1;obtain⟨e,o1⟩:=o1;refine⟨hj,same e, .inl ⟨tn hj,?_⟩⟩;unfold eE;rw[kJ,k0];have hv:iJ s.h hj:=by
     have:=ajJ lj o2;rw[eY,e]at this;exact this
    exact⟨(oG hj).symm,λh' hh C hC=>by rw[oG]at hh;rw[ci];exact o1 h' (hh.imp id λhh=>hv.trans hh) C hC⟩
   ·by_cases k1:cy oj=0
    ·unfold eE at o2;rw[mN,k1]at o2;simp only at o2;obtain⟨e,o2⟩:=o2;rw[eY]at e o2;have k6:cy oi≠6:=λk6=>by
      simp [k6,k1]at im
     have hv:=afO li k6 o1;refine⟨s.h, .inl ⟨HX,?_⟩, .inl ⟨tn s.h,?_⟩⟩
     ·unfold eE;rw[mN,k1];exact⟨rfl,λh' hh C hC=>by rw[<-cj];exact o2 h' (hh.imp id λhh=>hv.trans hh) C hC⟩
     ·rw[e];unfold eE at o1 ⊢;rw[oG];simp only[ci];exact o1
    ·by_cases T3:cy oi=1/\cy oj=5
     ·obtain⟨ka,kb⟩:=T3;unfold eE at o1 o2;rw[kJ,ka]at o1;rw[mN,kb]at o2;simp only at o1 o2;obtain⟨e,o1⟩:=o1;obtain⟨⟨c1,c2,_⟩,o2⟩:=o2;rw[eY,e]at c1 c2;refine⟨hj,same e, .inl ⟨tn hj,?_⟩⟩;unfold eE;rw[kJ,ka];simp only;refine⟨(oG hj).symm,λh' hh C hC=> ?_⟩;rw[oG]at hh;rw[ci];exact o1 h' (λn cs hn hq=>hh n cs (c1 n cs hn hq) hq) C hC
     by_cases Tb:cy oi=5/\cy oj=1
     ·obtain⟨ka,kb⟩:=Tb;unfold eE at o1 o2;rw[kJ,ka]at o1;rw[mN,kb]at o2;simp only at o1 o2;obtain⟨⟨c1,c2,c3⟩,o1⟩:=o1;obtain⟨e,o2⟩:=o2;rw[eY]at e o2;refine⟨s.h, .inl ⟨HX,?_⟩, .inl ⟨tn s.h,?_⟩⟩
      ·unfold eE;rw[mN,kb];simp only;exact⟨trivial,λh' hh C hC=>by rw[<-cj];exact o2 h' (λn cs hn hq=>hh n cs (c2 n cs hn hq) hq) C hC⟩
      ·rw[e];unfold eE;rw[kJ,ka];simp only;rw[oG];exact⟨⟨c1,c2,c3⟩,λC hC=>by rw[ci];exact o1 C hC⟩
     have hc:(cy oi=1\/cy oi=4)/\(cy oj=1\/cy oj=4\/cy oj=2\/cy oj=6):=by
      simp only[Bool.or_eq_true,aki,beq_iff_eq,k0,k1,false_or,false_and]at im;rcases im with(im|im)|im
      ·refine⟨im.1,?_⟩;rcases im.2 with((h|h)|h)|h
       ·exact .inl h
       ·exact .inr (.inl h)
       ·exact .inr (.inr (.inl h))
       ·exact .inr (.inr (.inr h))
      ·exact absurd im T3
      ·exact absurd im Tb
     have q1:hi=s.h/\∀e(C:AV->ak4 ao->Prop),C xi (s.h++e)->jj P oi (ev s) (s.h++e) C:=by
      unfold eE at o1;rcases hc.1 with k|k
      ·rw[kJ,k]at o1;exact⟨o1.1,λe C hC=>o1.2 _ (iE.app _ _) C hC⟩
      ·rw[kJ,k]at o1;exact o1
     have q2:∃e0,hj=s.h++e0:=by
      have rH:=o2;unfold eE at rH;rcases hc.2 with k|k|k|k
      ·rw[mN,k]at rH;exact⟨[],by rw[rH.1,eY,q1.1,akB]⟩
      ·rw[mN,k]at rH;exact⟨[],by rw[rH.1,eY,q1.1,akB]⟩
      ·rw[mN,k]at rH;obtain⟨B,_,_,b,_⟩:=rH;exact⟨[B],by rw[b,eY,q1.1]⟩
      ·rw[mN,k]at rH;obtain⟨e0,b,_⟩:=rH;exact⟨e0,by rw[b,eY,q1.1]⟩
     obtain⟨e0,DI⟩:=q2;refine⟨hj,same q1.1, .inl ⟨tn hj,?_⟩⟩;have:∀e(C:AV->ak4 ao->Prop),C xi (hj++e)->jj P oi (ev ((s.wh hj).put oj.dst xj)) (hj++e) C:=λe C hC=>by
      rw[ci,DI,akx];rw[DI,akx]at hC;exact q1.2 _ C hC
     unfold eE;rw[oG];rcases hc.1 with k|k
     ·rw[kJ,k];simp only;refine⟨trivial,λh' hh C hC=> ?_⟩;rw[ci];unfold eE at o1;rw[kJ,k]at o1;exact o1.2 h' (λn cs hn hq=>hh n cs (by rw[DI];exact iE.app _ _ n cs hn hq) hq) C hC
     ·rw[kJ,k];exact⟨rfl,this⟩
  ·
   subst f1;rw[eY]at f2;refine⟨s.h, .inr ⟨tN tj g2,rfl,rfl⟩,?_⟩;rw[f2];exact M4 (ti s.h) (by rw[oG]) (.inl ⟨g1,o1⟩)
 ·
  subst e1;refine⟨hj,same e2, .inr ⟨tN (ti hj) g1,rfl,(oG hj).symm⟩⟩
def qh(K:St->Prop):Prop:=∀s s',iV s s'->K s->K s'
def ku(m:Bool)(P:ak7)(ops:Array Oper)(K:St->Prop):Nat->Array Bool->St->Prop
 |0,listed,s=>Region.ready .any ops listed=[]/\K s
 |fuel+1,listed,s=>
  (Region.ready .any ops listed=[]->K s)/\
  ∀i∈Region.ready .any ops listed,∀o,ops[i]?=some o->∃x J,lR m P ops o s x J/\ku m P ops K fuel (listed.setIfInBounds i true) ((s.wh J).put o.dst x)
theorem P3{m:Bool}{K:St->Prop}(hK:qh K):∀(fuel:Nat)(listed:Array Bool)(s s':St),iV s s'->ku m P ops K fuel listed s->ku m P ops K fuel listed s'
 |0,_,s,s',hs,h=>⟨h.1,hK s s' hs h.2⟩
 |fuel+1,_,s,s',hs,h=>⟨λh0=>hK s s' hs (h.1 h0),λi hi o ho=>by
  obtain⟨x,J,h2,h3⟩:=h.2 i hi o ho;exact⟨x,J,M4 (λd _=>(hs.t d).symm) hs.h.symm h2,P3 hK fuel _ _ _ (hs.put J o.dst x) h3⟩⟩
def ny(M:Array Nat)(ops:Array Oper):Bool:=
 (List.range ops.size).all λj=>(List.range ops.size).all λi=> !(M.getD j 0).testBit i||match ops[j]? with
  |some o=>o.after.any λe=>Region.binds .any e&&decide (e.on<j)&&(e.on==i||(M.getD e.on 0).testBit i)
  |none=>false
def Dn(ops:Array Oper)(listed:Array Bool):Prop:=∀(j:Nat)(o:Oper),ops[j]?=some o->listed.getD j false=true->∀e∈o.after,Region.binds .any e=true->listed.getD e.on false=true
theorem Y0{M:Array Nat}(hM:ny M ops=true){listed:Array Bool}(hD:Dn ops listed):∀(j i:Nat)(o:Oper),i<ops.size->ops[j]?=some o->(∀e∈o.after,Region.binds .any e=true->listed.getD e.on false=true)->(M.getD j 0).testBit i=true->listed.getD i false=true:=by
 intro j
 induction j using Nat.strongRecOn with
 |_ j ih=>
  intro i o hi ho hp hb;unfold ny at hM;simp only[akG,List.mem_range]at hM;have J:=hM j (akv.1 ho).1 i hi;rw[hb,ho]at J;simp only[Bool.not_true,Bool.false_or]at J;rw[Array.any_eq_true']at J;obtain⟨e,he,h2⟩:=J;simp only[aki,decide_eq_true_eq,Bool.or_eq_true,beq_iff_eq]at h2;obtain⟨⟨JH,aL⟩,h3⟩:=h2;have hl:=hp e he JH;rcases h3 with h3|h3
  ·rw[<-h3];exact hl
  ·have Iy:e.on<ops.size:=Nat.lt_trans aL (akv.1 ho).1;exact ih e.on aL i ops[e.on] hi (akC Iy) (hD e.on _ (akC Iy) hl) h3
theorem Dn.set{listed:Array Bool}(hD:Dn ops listed){i:Nat}(hr:i∈Region.ready .any ops listed):Dn ops (listed.setIfInBounds i true):=by
 intro j o ho hj e he hb;refine getD_set_true ?_;by_cases pk:i=j
 ·subst pk;obtain⟨_,o',mR,fD⟩:=mem_ready.1 hr;rw[ho]at mR;cases mR;exact fD e he hb
 ·rw[getD_set_ne false pk]at hj;exact hD j o ho hj e he hb
theorem EW{m:Bool}{K:St->Prop}(hK:qh K){M:Array Nat}(hM:ny M ops=true){i:Nat}{oi:Oper}{x:AV}{J:ak4 ao}(hi:ops[i]?=some oi):
 ∀(fuel:Nat)(listed:Array Bool)(s:St),Dn ops listed->
  (∀j oj,ops[j]?=some oj->j≠i->listed.getD j true=false->(M.getD j 0).testBit i=false->oi.apart ops oj=true/\yU m oi oj=true)->
  i∈Region.ready .any ops listed->lR m P ops oi s x J->ku m P ops K fuel (listed.setIfInBounds i true) ((s.wh J).put oi.dst x)->ku m P ops K (fuel+1) listed s:=by
 intro fuel
 induction fuel generalizing x J with
 |zero=>
  intro listed s _ _ hr hy H;refine⟨λh=>(by rw[h]at hr;cases hr),λj hj o ho=> ?_⟩;by_cases rW:j=i
  ·subst rW;rw[hi]at ho;cases ho;exact⟨x,J,hy,H⟩
  ·have:=ready_mono hj rW;rw[H.1]at this;cases this
 |succ fuel ih=>
  intro listed s hD XN hr hy H;refine⟨λh=>(by rw[h]at hr;cases hr),λj hj oj xM=> ?_⟩;by_cases rW:j=i
  ·subst rW;rw[hi]at xM;cases xM;exact⟨x,J,hy,H⟩
  ·obtain⟨xj,hj1,Ng,H2⟩:=H.2 j (ready_mono hj rW) oj xM;obtain⟨Xk,oj',QR,fD⟩:=mem_ready.1 hj;rw[xM]at QR;cases QR;have aaV:=(akv.1 hi).1;have oB:listed.getD i false=false:=by
    have h0:=(mem_ready.1 hr).1;rcases Nat.lt_or_ge i listed.size with h'|h'
    ·simpa [h']using h0
    ·simp [Array.getElem?_eq_none h']at h0
   have jz:(M.getD j 0).testBit i=false:=by
    cases hb:(M.getD j 0).testBit i with
    |false=>rfl
    |true=>rw[Y0 hM hD j i oj aaV xM fD hb]at oB;cases oB
   obtain⟨GR,im⟩:=XN j oj xM rW Xk jz;obtain⟨iC,s1,s2⟩:=ajY GR im hy Ng;obtain⟨_,a2,_⟩:=Oper.apart_spec GR;refine⟨xj,iC,s1,ih (listed.setIfInBounds j true) _ (hD.set hj) (λk ok hk MR UO qI=> ?_) (ready_mono hr (Ne.symm rW)) s2 ?_⟩
   ·refine XN k ok hk MR ?_ qI;by_cases HP:j=k
    ·subst HP;exact Xk
    ·rw[getD_set_ne true HP]at UO;exact UO
   ·rw[Array.setIfInBounds_comm _ _ rW];exact P3 hK _ _ _ _ (abo s J iC hj1 x xj (λk hk=>a2 k hk)) H2
def UP(M:Array Nat)(ops:Array Oper)(k:Nat):Bool:=
 match ops[k]? with
 |none=>false
 |some oi=>(List.range ops.size).all λj=>decide (j<=k)||(M.getD j 0).testBit k||match ops[j]? with
  |some oj=>oi.apart ops oj&&yU false oi oj
  |none=>true
def BL(M:Array Nat)(ops:Array Oper):Nat->Nat->Array Bool->Bool
 |0,_,listed=>(Region.ready .any ops listed).isEmpty
 |fuel+1,k,listed=>(Region.ready .any ops listed).contains k&&UP M ops k&&BL M ops fuel (k+1) (listed.setIfInBounds k true)
def qk(ops:Array Oper):Bool:=ny (Region.before ops) ops&&BL (Region.before ops) ops ops.size 0 (Array.replicate ops.size false)
theorem VJ{K K':St->Prop}(hK:qh K')(Dv:∀s,K s->K' s){M:Array Nat}(hM:ny M ops=true):∀(l:ak4 Oper)(k:Nat)(listed:Array Bool)(s:St),(∀j,l[j]?=ops[k+j]?)->(∀j,j<k->listed.getD j true=true)->Dn ops listed->
 BL M ops l.length k listed=true->Aw P ops l K s->ku false P ops K' l.length listed s
 |[],_,_,_,_,_,_,hB,h=>⟨by simpa [BL]using hB,Dv _ h⟩
 |o::l,k,listed,s,hl,jL,hD,hB,h=>by
  have h0:ops[k]?=some o:=by simpa using (hl 0).symm
  simp only[akj,BL,aki]at hB;obtain⟨⟨hr,hf⟩,dR⟩:=hB;have oa:k∈Region.ready .any ops listed:=by simpa using hr
  have oD:∀j,l[j]?=ops[k+1+j]?:=λj=>by have:=hl (j+1);simpa [Nat.add_assoc,Nat.add_comm 1 j]using this
  have ai7:∀j,j<k+1->(listed.setIfInBounds k true).getD j true=true:=λj hj=>by
   by_cases e:k=j
   ·subst e;rcases Nat.lt_or_ge k listed.size with h'|h'
    ·simp [h']
    ·have:(listed.setIfInBounds k true)[k]?=none:=Array.getElem?_eq_none (by simpa using h');rw[Array.getD_eq_getD_getElem?,this];rfl
   ·rw[getD_set_ne true e];exact jL j (by omega)
  obtain⟨x,J,hy,yf⟩:∃x J,lR false P ops o s x J/\Aw P ops l K ((s.wh J).put o.dst x):=by
   rcases Hw h with⟨g,hd⟩|⟨g,hd⟩
   ·obtain⟨x,J,h2,h3⟩:=HZ hd;exact⟨x,J, .inl ⟨g,h2⟩,h3⟩
   ·exact⟨_,s.h, .inr ⟨g,rfl,rfl⟩,hd⟩
  refine EW hK hM h0 l.length listed s hD (λj oj hj cN oB qI=> ?_) oa hy (VJ hK Dv hM l (k+1) _ _ oD ai7 (hD.set oa) dR yf);unfold UP at hf;rw[h0]at hf;simp only[akG,List.mem_range]at hf;have:=hf j (akv.1 hj).1;rw[qI,hj]at this;simp only[Bool.or_false,Bool.or_eq_true,aki,decide_eq_true_eq]at this;rcases this with this|this
  ·exfalso;have:=jL j (by omega);rw[this]at oB;cases oB
  ·exact this
def RW(ops:Array Oper):Nat->Array Bool->ak4 Nat
 |0,_=>[]
 |f+1,listed=>match (Region.ready .any ops listed).find? (λk=>match ops[k]? with|some o=> !(cy o==6)&& !Iz o|none=>false)with
  |some k=>k::RW ops f (listed.setIfInBounds k true)
  |none=>match Region.ready .any ops listed with
   |k::_=>k::RW ops f (listed.setIfInBounds k true)
   |[]=>[]
def Af(m:Bool)(M:Array Nat)(ops:Array Oper):ak4 Nat->Array Bool->Bool
 |[],listed=>(Region.ready .any ops listed).isEmpty
 |k::l,listed=>(Region.ready .any ops listed).contains k&&(match ops[k]? with
  |none=>false
  |some oi=>(List.range ops.size).all λj=>j==k||listed.getD j true||(M.getD j 0).testBit k||match ops[j]? with
   |some oj=>oi.apart ops oj&&yU m oi oj
   |none=>true)&&Af m M ops l (listed.setIfInBounds k true)
def A9(m:Bool)(ops:Array Oper)(p:ak4 Nat):Bool:=ny (Region.before ops) ops&&Af m (Region.before ops) ops p (Array.replicate ops.size false)
def qM(ops:Array Oper):ak4 Nat->ak4 Oper
 |[]=>[]
 |k::l=>match ops[k]? with
  |some o=>o::qM ops l
  |none=>qM ops l
theorem S6{m:Bool}{K K':St->Prop}(hK:qh K')(Dv:∀s,K s->K' s){M:Array Nat}(hM:ny M ops=true):∀(l:ak4 Nat)(listed:Array Bool)(s:St),Dn ops listed->
 Af m M ops l listed=true->ta m P ops (qM ops l) K s->ku m P ops K' l.length listed s
 |[],_,_,_,hB,h=>⟨by simpa [Af]using hB,Dv _ h⟩
 |k::l,listed,s,hD,hB,h=>by
  simp only[Af,aki]at hB;obtain⟨⟨hr,hf⟩,dR⟩:=hB;have oa:k∈Region.ready .any ops listed:=by simpa using hr
  obtain⟨_,o,h0,_⟩:=mem_ready.1 oa;rw[h0]at hf;simp only[akG,List.mem_range]at hf;simp only[qM,h0]at h;obtain⟨x,J,hy,yf⟩:∃x J,lR m P ops o s x J/\ta m P ops (qM ops l) K ((s.wh J).put o.dst x):=by
   rcases Hw h with⟨g,hd⟩|⟨g,hd⟩
   ·obtain⟨x,J,h2,h3⟩:=HZ hd;exact⟨x,J, .inl ⟨g,h2⟩,h3⟩
   ·exact⟨_,s.h, .inr ⟨g,rfl,rfl⟩,hd⟩
  refine EW hK hM h0 l.length listed s hD (λj oj hj cN oB qI=> ?_) oa hy (S6 hK Dv hM l _ _ (hD.set oa) dR yf);have:=hf j (akv.1 hj).1;rw[qI,oB,hj]at this;simp only[Bool.or_false,Bool.or_eq_true,aki,beq_iff_eq]at this;rcases this with this|this
  ·exact absurd this cN
  ·exact this
end
section
variable {P:ak7} {r:ak6 Nat} {n N0:Nat} {G:Gh} {w:ak9} {a:Act} {s:St} {o:Oper} {Q:Exit->St->Prop}
theorem db.drew(hs:db G w a s):bP G.N G w G {w with drawn:=w.drawn+1}/\db G {w with drawn:=w.drawn+1} a s:=by
 have hE:bP G.N G w G {w with drawn:=w.drawn+1}:=⟨akr _,λ_ _ h=>h,λ_ _ _=>rfl,λ_ _=>rfl,λ_ _=> .inl ⟨rfl,rfl⟩,gQ rfl,λ_ _=>rfl,rfl,rfl,rfl,λ_ _ h=> .inl h⟩;have hi:bU G {w with drawn:=w.drawn+1} s.h:=⟨hs.inv.len,hs.inv.z,hs.inv.S,λn B hB=>er.keep (hs.inv.lt hB) hE (akr _) ⟨rfl,rfl,rfl⟩ (λ_ _=>⟨rfl,λ_ h=>h⟩) (hs.inv.dn n B hB),hs.inv.inj,hs.inv.gl.keep hE⟩;exact⟨hE,hs.move hE (akr _) hi⟩
theorem abQ{m:Bool}{x:AV}{J:ak4 ao}(h:eE m P o (ev s) s.h x J):jj P o (ev s) s.h (λx' h'=>(s.wh h').put o.dst x'=(s.wh J).put o.dst x):=RB h _ rfl
theorem Cb{m:Bool}{ops:Array Oper}{K:St->Prop}{Q':Exit->Act->ak9->Prop}(hQ:∀a' w',iv N0 G w K a' w'->Q' .normal a' w'):∀(fuel:Nat)(listed:Array Bool)(G1:Gh)(w1:ak9)(a:Act)(s:St),
 bP N0 G w G1 w1->N0<=G1.N->db G1 w1 a s->ku m P ops K fuel listed s->wpAnyIn (WF r) n P .any ops Q' fuel listed a w1
 |0,_,G1,w1,a,s,hE,hN,hs,h=>⟨h.1,hQ _ _ ⟨G1,s,hE,hN,hs,h.2⟩⟩
 |fuel+1,listed,G1,w1,a,s,hE,hN,hs,h=>by
  refine⟨λh0=>hQ _ _ ⟨G1,s,hE,hN,hs,h.1 h0⟩,λi hi=> ?_⟩;obtain⟨_,o,ho,_⟩:=mem_ready.1 hi;obtain⟨x,J,hy,yf⟩:=h.2 i hi o ho;unfold wpOpIn;rw[ho];simp only;rcases hy with⟨g,hc⟩|⟨g,rfl,rfl⟩
  ·have hg:=MB hs g;split at hg
   ·rename_i hw
    rw[if_pos hw];refine Oper.wpIn_mono (λa' w' hn=> ?_) ((abQ hc).elim (λk=>PB (K:=λs'=>s'=(s.wh J).put o.dst x) (r:=r) (n:=n) (N0:=N0) (Q:=Q') hs hN k) fun⟨_,va,x',h',p,k1,k2,k3⟩=>UC (K:=λs'=>s'=(s.wh J).put o.dst x) (r:=r) (n:=n) (N0:=N0) (Q:=Q') hs hN ⟨va,x',h',p,k1,k2,k3⟩);obtain⟨G2,s2,e2,n2,Mj,rfl⟩:=hn;exact Cb hQ fuel _ G2 w' a' _ (hE.trans e2) n2 Mj yf
   ·exact hg.elim
  ·have hg:=MB hs g;split at hg
   ·exact hg.elim
   ·rename_i hw
    rw[if_neg hw];exact⟨λ_ _=>trivial,Cb hQ fuel _ G1 w1 _ _ hE hN (hs.put (.d (.v undef)) o.dst) yf⟩
theorem HS{id:Nat}{l:ak4 Oper}(hm:P.follows .mixedOrders=true)(hl:qk l.toArray=true)(h:Aw P l.toArray l (Q .normal) s):bD P r N0 (.region id l.toArray true) Q s:=by
 constructor
 intro G w a n hs hN;unfold qk at hl;rw[aki]at hl;obtain⟨d1,d2⟩:=hs.drew;refine wpIn_region_any hm ?_;have hC:qh (λs=>∃s',iV s' s/\Q .normal s'):=λs s' e ⟨s0,e0,h0⟩=>⟨s0,e0.trans e,h0⟩;have:=VJ (K:=Q .normal) hC (λs h=>⟨s,iV.refl s,h⟩) hl.1 l 0 (Array.replicate l.toArray.size false) s (by simp) (λj hj=>absurd hj (akI _)) (λj o ho hj=>by
  exfalso;rw[Array.getD_eq_getD_getElem?]at hj;rw[Array.getElem?_replicate]at hj;split at hj<;>simp at hj) (by simpa using hl.2) h
 refine Cb (G:=G) (w:=w) (N0:=N0) (K:=λs=>∃s',iV s' s/\Q .normal s') (λa' w' hn=> ?_) l.toArray.size _ G _ a s (d1.less hN) hN d2 (by simpa using this);obtain⟨G',s',x1,x2,x3,s0,e0,x4⟩:=hn;refine⟨G',s0,x1,x2,⟨x3.size.trans e0.n.symm,λi=>by rw[e0.t i];exact x3.tmp i,by rw[e0.h];exact x3.inv,x3.df⟩,x4⟩
theorem SZ{m:Bool}{id:Nat}{ops:Array Oper}(p:ak4 Nat)(hm:P.follows .mixedOrders=true)(hz:p.length=ops.size)(hl:A9 m ops p=true)(h:ta m P ops (qM ops p) (Q .normal) s):bD P r N0 (.region id ops true) Q s:=by
 constructor
 intro G w a n hs hN;unfold A9 at hl;rw[aki]at hl;obtain⟨d1,d2⟩:=hs.drew;refine wpIn_region_any hm ?_;have hC:qh (λs=>∃s',iV s' s/\Q .normal s'):=λs s' e ⟨s0,e0,h0⟩=>⟨s0,e0.trans e,h0⟩;have:=S6 (K:=Q .normal) hC (λs h=>⟨s,iV.refl s,h⟩) hl.1 p (Array.replicate ops.size false) s (λj o ho hj=>by
  exfalso;rw[Array.getD_eq_getD_getElem?]at hj;rw[Array.getElem?_replicate]at hj;split at hj<;>simp at hj) hl.2 h
 rw[hz]at this;refine Cb (G:=G) (w:=w) (N0:=N0) (K:=λs=>∃s',iV s' s/\Q .normal s') (λa' w' hn=> ?_) ops.size _ G _ a s (d1.less hN) hN d2 this;obtain⟨G',s',x1,x2,x3,s0,e0,x4⟩:=hn;refine⟨G',s0,x1,x2,⟨x3.size.trans e0.n.symm,λi=>by rw[e0.t i];exact x3.tmp i,by rw[e0.h];exact x3.inv,x3.df⟩,x4⟩
end
def aj5(want:Bool):AV->Bool
 | .d (.v (.bool b))=>b==want
 |_=>false
def gNo(want:Bool):AV->Bool
 | .d (.v (.bool b))=>b== !want
 | .d (.v (.tuple _))=>true
 |_=>false
def aaF(t:ak4 (Nat×AV)):ak6 Nat->AV
 |some d=>bw t d
 |none=> .dead
def tJ(ops:Array Oper)(j:Nat)(t:ak4 (Nat×AV)):AV:=aaF t ((ops[j]?).bind (·.dst))
section
variable {P:ak7} {ops:Array Oper} {dst:ak6 Nat} {op:Op} {ty:TypeId} {pos:String} {after:Array Edge} {j:Nat} {w:Bool} {s:St} {rest:ak4 Oper} {K:St->Prop} {y n:Prop}
theorem Gi:iB ops ⟨dst,op,ty,pos,after,some (j,w)⟩ s y n=(match tJ ops j s.t with
 | .d (.v (.bool b))=>(b=w->y)/\(b= !w->n)
 | .d (.v (.tuple _))=>n
 |_=>False):=by
 show(match (ops[j]?).bind (·.dst)with
  |some d=>match bw s.t d with
   | .d (.v (.bool b))=>(b=w->y)/\(b= !w->n)
   | .d (.v (.tuple _))=>n
   |_=>False
  |none=>False)=_
 unfold tJ;cases (ops[j]?).bind (·.dst)<;>rfl
end
section
variable {P:ak7} {r:ak6 Nat} {n N0:Nat} {G:Gh} {w:ak9} {a:Act} {s:St} {o:Oper} {Q:Exit->St->Prop}
theorem aI{K:St->Prop}(h:K s):hO K Q .normal s:=h
theorem gO{K:St->Prop}{i:Nat}(h:Q (.exit i) s):hO K Q (.exit i) s:=h
theorem cU{K:St->Prop}(h:Q .ret s):hO K Q .ret s:=h
theorem dX{id:Nat}(h:Q .normal s):po id Q .normal s:=h
theorem dW{id:Nat}(h:Q .ret s):po id Q .ret s:=h
theorem lS{id i:Nat}(e:(i==id)=true)(h:Q .normal s):po id Q (.exit i) s:=by simpa only[po,e,cond_true]using h
theorem agi{id i:Nat}(e:(i==id)=false)(h:Q (.exit i) s):po id Q (.exit i) s:=by simpa only[po,e,cond_false]using h
theorem lq{c:Operand}{x y:Code}(hc:ev s c= .d (.v (.bool true)))(h:bD P r N0 x Q s):bD P r N0 (.cond c x y) Q s:=Ln hc (λ_=>h) λh=>Bool.noConfusion h
theorem kW{c:Operand}{x y:Code}(hc:ev s c= .d (.v (.bool false)))(h:bD P r N0 y Q s):bD P r N0 (.cond c x y) Q s:=Ln hc (λh=>Bool.noConfusion h) λ_=>h
theorem cQ{c:Operand}{x y:Code}{t:Bool}(hc:ev s c= .d (.v (.bool t)))(e:t=true)(h:bD P r N0 x Q s):bD P r N0 (.cond c x y) Q s:=lq (by rw[hc,e]) h
theorem dw{c:Operand}{x y:Code}{t:Bool}(hc:ev s c= .d (.v (.bool t)))(e:t=false)(h:bD P r N0 y Q s):bD P r N0 (.cond c x y) Q s:=kW (by rw[hc,e]) h
theorem Gn{c:Code}(k:Nat)(e:TypeId)(sz:Nat)(xs:ak4 (ak4 D))(hx:bw s.t k= .full xs\/(bw s.t k= .d (.v (.slice none 0 0))/\xs=[]))
 (h:bD P r N0 c Q ⟨s.n,(k, .own s.h.length xs)::s.t,s.h++[.front e sz xs.length]⟩):bD P r N0 c Q s:=by
 constructor
 intro G w a n hs hN;have hp:dz G.S w (a.tmps.getD k undef) (.sl xs)/\∃A,a.tmps.getD k undef= .slice A xs.length xs.length:=by
  have hv:=hs.tmp k;revert hv;generalize a.tmps.getD k undef=u;intro hv;rcases hx with hx|⟨hx,rfl⟩
  ·rw[hx]at hv;cases hv with|full _ hp hf=>exact⟨hp,hf⟩
  ·rw[hx]at hv;rw[hv.val];exact⟨DS,none,rfl⟩
 obtain⟨a1,a2,a3,a4⟩:=Pl hs.inv hp.1 hp.2 e sz;have cM:db (G.addF (a.tmps.getD k undef) xs.length) w a ⟨s.n,(k, .own s.h.length xs)::s.t,s.h++[.front e sz xs.length]⟩:=by
  refine⟨hs.size,λi=> ?_,a3,hs.df.keep a1⟩;show aD _ _ _ (bw ((k, .own s.h.length xs)::s.t) i);rw[kO];split
  ·next e=>exact e▸a4
  ·exact(hs.tmp i).keep a1 a2
 exact wpIn_mono (h.run _ w a n cM (aky hN a2)) λ_ _ _ hn=>hn.trans (a1.less hN)
end
theorem Vc{G:Gh}{w:ak9}{h:ak4 ao}{b:Nat}{cs cD:ak4 AV}(hi:bU G w h)(hb:h[b]?=some (.cells cs))(hl:cD.length=cs.length)
 (hc:∀(vs:Array ak8)(T:TypeId),w.heap[G.aM b]?=some (.cells vs T (0,0))->∀(i:Nat)(u:ak8)(c:AV),vs[i]?=some u->cD[i]?=some c->aD G w u c):bU G w (h.set b (ao.cells cD)):=by
 have ho:∀n,bR (h.set b (ao.cells cD)) G n=bR h G n:=λn=>by
  have aL:=(akg.1 hb).1;unfold bR;by_cases e:b=n
  ·subst e;rw[akJ aL,hb];rfl
  ·rw[akO e]
 refine⟨by rw[List.length_set];exact hi.len,hi.z,hi.S,λn B hB=> ?_,λm n x hm hn=>hi.inj m n x (by rw[<-ho];exact hm) (by rw[<-ho];exact hn),hi.gl⟩;have aL:=(akg.1 hb).1;by_cases e:b=n
 ·subst e;rw[akJ aL]at hB;cases hB
  obtain⟨J,h2,vs,T,h3,h4,_⟩:=hi.dn _ _ hb;exact⟨J,h2,vs,T,h3,h4.trans hl.symm,hc vs T h3⟩
 ·rw[akO e]at hB;exact hi.dn n B hB
theorem Z8{P:ak7}{r:ak6 Nat}{N0:Nat}{s:St}{Q:Exit->St->Prop}{c:Code}(b i:Nat)(e:TypeId)(sz:Nat)(xs:ak4 (ak4 D)){cs:ak4 AV}(hb:s.h[b]?=some (.cells cs))(hx:cs[i]?=some (.full xs)\/(cs[i]?=some (.d (.v (.slice none 0 0)))/\xs=[]))
 (h:bD P r N0 c Q ⟨s.n,s.t,(s.h++[ao.front e sz xs.length]).set b (ao.cells (cs.set i (AV.own s.h.length xs)))⟩):bD P r N0 c Q s:=by
 constructor
 intro G w a n hs hN;obtain⟨J,h2,vs,T,h3,h4,h5⟩:=hs.inv.dn _ _ hb;have hi:i<cs.length:=by rcases hx with hx|⟨hx,_⟩<;>exact(akg.1 hx).1
 have hv:vs[i]?=some vs[i]:=akC (by omega);have hp:dz G.S w vs[i] (.sl xs)/\∃A,vs[i]= .slice A xs.length xs.length:=by
  rcases hx with hx|⟨hx,rfl⟩
  ·have:=h5 i _ _ hv hx;generalize vs[i]=u at this;cases this with|full _ hp hf=>exact⟨hp,hf⟩
  ·have:=h5 i _ _ hv hx;rw[this.val];exact⟨DS,none,rfl⟩
 obtain⟨a1,a2,a3,a4⟩:=Pl hs.inv hp.1 hp.2 e sz;have aL:=(akg.1 hb).1;have cM:db (G.addF vs[i] xs.length) w a ⟨s.n,s.t,(s.h++[ao.front e sz xs.length]).set b (ao.cells (cs.set i (AV.own s.h.length xs)))⟩:=by
  refine⟨hs.size,λj=>(hs.tmp j).keep a1 a2,Vc a3 (by rw[akq aL];exact hb) (by rw[List.length_set]) λfJ T' AH j u c hu hc=> ?_,hs.df.keep a1⟩;have e1:(G.addF vs[i] xs.length).aM b=G.aM b:=by
   have:b≠G.N:=by have:=hs.inv.len;omega
   simp [Gh.addF]
  rw[e1,h3]at AH;cases AH
  by_cases e2:i=j
  ·subst e2;rw[akJ hi]at hc;cases hc
   rw[hv]at hu;cases hu
   exact a4
  ·rw[akO e2]at hc;exact(h5 j u c hu hc).keep a1 a2
 exact wpIn_mono (h.run _ w a n cM (aky hN a2)) λ_ _ _ hn=>hn.trans (a1.less hN)
def AV.Le(x y:AV):Prop:=∀(G:Gh)(w:ak9)(u:ak8),aD G w u x->aD G w u y
theorem AV.Le.refl(x:AV):AV.Le x x:=λ_ _ _ h=>h
theorem AV.Le.full(xs:ak4 (ak4 D)):AV.Le (.full xs) (.d (.sl xs)):=λ_ _ _ h=>by
 cases h with|full _ hp _=>exact .d hp
theorem AV.Le.nil:AV.Le (.d (.v (.slice none 0 0))) (.d (.sl [])):=λ_ _ _ h=>by
 rw[h.val];exact .d DS
theorem AV.Le.agg{cs ds:ak4 AV}(hl:cs.length=ds.length)(h:∀(i:Nat)(c d:AV),cs[i]?=some c->ds[i]?=some d->AV.Le c d):AV.Le (.agg cs) (.agg ds):=λG w u hu=>by
 cases hu with
 |agg vs _ oD hv=>
  refine .agg vs ds (oD.trans hl) λi u d YC hd=> ?_;have aL:i<cs.length:=by rw[hl];exact(akg.1 hd).1
  exact h i _ d (akk aL) hd G w u (hv i u _ YC (akk aL))
set_option linter.unusedSimpArgs false
set_option linter.unusedVariables false
def rn:ak4 Nat->Nat->Nat->Nat
 |[],base,i=>base+i
 |j::_,_,0=>j
 |_::l,base,i+1=>rn l base i
theorem wP:∀(l:ak4 Nat)(base i:Nat)(j:Nat),l[i]?=some j->rn l base i=j
 |[],_,i,j,h=>by simp at h
 |a::l,base,0,j,h=>by simpa [rn]using h
 |a::l,base,i+1,j,h=>by rw[rn];exact wP l base i j (by simpa using h)
theorem I0:∀(l:ak4 Nat)(base i:Nat),l.length<=i->rn l base i=base+(i-l.length)
 |[],base,i,_=>by simp [rn]
 |a::l,base,0,h=>by simp at h
 |a::l,base,i+1,h=>by rw[rn,I0 l base i (by simpa using h)];simp
mutual
def AV.aH(σ:Nat->Nat):AV->AV
 | .ptr n off=> .ptr (σ n) off
 | .own n xs=> .own (σ n) xs
 | .row n off len cap k=> .row (σ n) off len cap k
 | .mp n=> .mp (σ n)
 | .cp n=> .cp (σ n)
 | .vec n o len L k=> .vec (σ n) o len L k
 | .dF n i j L k=> .dF (σ n) i j L k
 | .agg cs=> .agg (AV.gh σ cs)
 | .aW cs=> .aW (AV.gh σ cs)
 | .fn f cs=> .fn f (AV.gh σ cs)
 | .d x=> .d x
 | .bn xs i off=> .bn xs i off
 | .full xs=> .full xs
 | .hid c=> .hid c
 | .dead=> .dead
def AV.gh(σ:Nat->Nat):ak4 AV->ak4 AV
 |[]=>[]
 |x::l=>x.aH σ::AV.gh σ l
end
theorem gu(σ:Nat->Nat):∀l,AV.gh σ l=l.map (AV.aH σ)
 |[]=>by simp [AV.gh]
 |x::l=>by simp [AV.gh,gu σ l]
def ao.aH(σ:Nat->Nat):ao->ao
 | .cells cs=> .cells (AV.gh σ cs)
 | .lp ls p as bd cs=> .lp ls p as bd (AV.gh σ cs)
 | .it sn cs=> .it sn (AV.gh σ cs)
 | .eO T cs=> .eO T (AV.gh σ cs)
 | .vec e k cs=> .vec e k (cs.map (AV.gh σ))
 | .front e k len=> .front e k len
 | .byt e b=> .byt e b
 | .map kv=> .map kv
 | .ie kv=> .ie kv
 | .gone=> .gone
def gU:ak4 Nat->ak4 ao->ak4 ao->ak4 ao
 |[],Bs,h=>h++Bs
 |_::_,[],h=>h
 |i::l,B::Bs,h=>gU l Bs (h.set i B)
structure pG(σ:Nat->Nat)(G G2:Gh):Prop where
 lt:∀n,n<G.N->σ n<G2.N
 aM:∀n,n<G.N->G2.aM (σ n)=G.aM n
 sg:∀n,n<G.N->G2.sg (σ n)=G.sg n
 fl:∀n,n<G.N->G2.fl (σ n)=G.fl n
 ow:∀n,n<G.N->G2.ow (σ n)=G.ow n
 S:∀b o,G2.S b o↔G.S b o
theorem dz.rS{S S':Nat->Nat->Prop}{w:ak9}(hS:∀b o,S b o->S' b o){u:ak8}{x:D}(h:dz S w u x):dz S' w u x:=h.keep hS (λ_ _ _=>rfl)
theorem aD.aH{σ:Nat->Nat}{G G2:Gh}{w:ak9}(hR:pG σ G G2){u:ak8}{x:AV}(h:aD G w u x):aD G2 w u (x.aH σ):=by
 have hS:∀b o,G.S b o->G2.S b o:=λb o h=>(hR.S b o).2 h;have fG:∀(vs:Array ak8)(cs:ak4 AV),(∀(i:Nat)(u:ak8)(c:AV),vs[i]?=some u->cs[i]?=some c->aD G2 w u (c.aH σ))->∀(i:Nat)(u:ak8)(c:AV),vs[i]?=some u->(AV.gh σ cs)[i]?=some c->aD G2 w u c:=by
  intro vs cs ih i u c hu hc;rw[gu,akn]at hc;cases hx:cs[i]? with
  |none=>rw[hx]at hc;cases hc
  |some x=>rw[hx]at hc;cases hc;exact ih i u x hu hx
 induction h with
 |agg vs cs hl _ ih=>rw[AV.aH];exact .agg vs _ (by rw[gu,akl];exact hl) (fG vs cs ih)
 |aW vs cs hl _ ih=>rw[AV.aH];exact .aW vs _ (by rw[gu,akl];exact hl) (fG vs cs ih)
 |fn f vs cs hl _ ih=>rw[AV.aH];exact .fn f vs _ (by rw[gu,akl];exact hl) (fG vs cs ih)
 |d h=>rw[AV.aH];exact .d (h.rS hS)
 |full xs hp hf=>rw[AV.aH];exact .full xs (hp.rS hS) hf
 |ptr n off h=>rw[AV.aH,<-hR.aM n h];exact .ptr _ off (hR.lt n h)
 |row n off len cap k h hl hm=>rw[AV.aH,<-hR.aM n h];exact .row _ off len cap k (hR.lt n h) hl hm
 |mp n h=>rw[AV.aH,<-hR.aM n h];exact .mp _ (hR.lt n h)
 |cp n h=>rw[AV.aH,<-hR.aM n h];exact .cp _ (hR.lt n h)
 |own n xs h hp hle hf=>rw[AV.aH];exact .own _ xs (hR.lt n h) (hp.rS hS) (by rw[hR.fl n h];exact hle) (by rw[hR.fl n h,hR.sg n h];exact hf)
 |vec n o len L k h hs hL hf=>rw[AV.aH];exact .vec _ o len L k (hR.lt n h) hs (by rw[hR.fl n h];exact hL) (by rw[hR.fl n h,hR.sg n h];exact hf)
 |dF n i j L k h hs hL hf=>rw[AV.aH];exact .dF _ i j L k (hR.lt n h) hs (by rw[hR.fl n h];exact hL) (by rw[hR.fl n h,hR.sg n h];exact hf)
 |bn xs i off b o u x hx pC hu=>rw[AV.aH];exact .bn xs i off b o u x hx (λj hj=>⟨hS _ _ (pC j hj).1,(pC j hj).2⟩) (λj d hd=>(hu j d hd).rS hS)
 |hid h J=>rw[AV.aH];exact .hid (h.keep hS (λ_ _ _=>rfl)) J
 |dead u=>rw[AV.aH];exact .dead u
theorem aD.rp{σ:Nat->Nat}{G G2:Gh}{w:ak9}(hR:pG σ G G2){u:ak8}{y:AV}(h:aD G2 w u y):∀x:AV,x.aH σ=y->x.aC G.N=true->aD G w u x:=by
 have hS:∀b o,G2.S b o->G.S b o:=λb o h=>(hR.S b o).1 h;have lt:∀n,(!ct G.N n)=true->n<G.N:=λn h=>by rw[Bool.not_eq_true',<-Bool.not_eq_true,dy]at h;omega
 have fG:∀(vs:Array ak8)(cs xs:ak4 AV),(∀(i:Nat)(u:ak8)(c:AV),vs[i]?=some u->cs[i]?=some c->∀x:AV,x.aH σ=c->x.aC G.N=true->aD G w u x)->AV.gh σ xs=cs->AV.jU G.N xs=true->∀(i:Nat)(u:ak8)(c:AV),vs[i]?=some u->xs[i]?=some c->aD G w u c:=by
  intro vs cs xs ih e hb i u c hu hc;subst e;rw[mm,akG]at hb;exact ih i u (c.aH σ) hu (by rw[gu,akn,hc];rfl) c rfl (hb c (akt hc))
 induction h with
 |agg vs cs hl _ ih=>
  intro x e hb;cases x<;>simp only[AV.aH,AV.agg.injEq,reduceCtorEq]at e
  next xs=>
   rw[AV.aC]at hb;exact .agg vs xs (by rw[hl,<-e,gu,akl]) (fG vs cs xs ih e hb)
 |aW vs cs hl _ ih=>
  intro x e hb;cases x<;>simp only[AV.aH,AV.aW.injEq,reduceCtorEq]at e
  next xs=>
   rw[AV.aC]at hb;exact .aW vs xs (by rw[hl,<-e,gu,akl]) (fG vs cs xs ih e hb)
 |fn f vs cs hl _ ih=>
  intro x e hb;cases x<;>simp only[AV.aH,AV.fn.injEq,reduceCtorEq]at e
  next g xs=>
   obtain⟨rfl,e⟩:=e;rw[AV.aC]at hb;exact .fn _ vs xs (by rw[hl,<-e,gu,akl]) (fG vs cs xs ih e hb)
 |d h=>
  intro x e hb;cases x<;>simp only[AV.aH,AV.d.injEq,reduceCtorEq]at e
  next y=>subst e;exact .d (h.rS hS)
 |full xs hp hf=>
  intro x e hb;cases x<;>simp only[AV.aH,AV.full.injEq,reduceCtorEq]at e
  next y=>subst e;exact .full y (hp.rS hS) hf
 |ptr n off h=>
  intro x e hb;cases x<;>simp only[AV.aH,AV.ptr.injEq,reduceCtorEq]at e
  next m o=>
   obtain⟨e1,rfl⟩:=e;rw[AV.aC]at hb;have hm:=lt _ hb;rw[<-e1,hR.aM _ hm];exact .ptr _ _ hm
 |row n off len cap k h hl h1=>
  intro x e hb;cases x<;>simp only[AV.aH,AV.row.injEq,reduceCtorEq]at e
  next m o l c q=>
   obtain⟨e1,rfl,rfl,rfl,rfl⟩:=e;rw[AV.aC]at hb;have hm:=lt _ hb;rw[<-e1,hR.aM _ hm];exact .row _ _ _ _ _ hm hl h1
 |mp n h=>
  intro x e hb;cases x<;>simp only[AV.aH,AV.mp.injEq,reduceCtorEq]at e
  next m=>
   rw[AV.aC]at hb;have hm:=lt _ hb;rw[<-e,hR.aM _ hm];exact .mp _ hm
 |cp n h=>
  intro x e hb;cases x<;>simp only[AV.aH,AV.cp.injEq,reduceCtorEq]at e
  next m=>
   rw[AV.aC]at hb;have hm:=lt _ hb;rw[<-e,hR.aM _ hm];exact .cp _ hm
 |own n xs h hp hle hf=>
  intro x e hb;cases x<;>simp only[AV.aH,AV.own.injEq,reduceCtorEq]at e
  next m l=>
   obtain⟨e1,rfl⟩:=e;rw[AV.aC]at hb;have hm:=lt _ hb;rw[<-e1]at hle hf;exact .own _ _ hm (hp.rS hS) (by rw[<-hR.fl _ hm];exact hle) (by rw[<-hR.fl _ hm,<-hR.sg _ hm];exact hf)
 |vec n o len L k h hs hL hf=>
  intro x e hb;cases x<;>simp only[AV.aH,AV.vec.injEq,reduceCtorEq]at e
  next m a1 a2 a3 a4=>
   obtain⟨e1,rfl,rfl,rfl,rfl⟩:=e;rw[AV.aC]at hb;have hm:=lt _ hb;rw[<-e1]at hL hf;exact .vec _ _ _ _ _ hm hs (by rw[<-hR.fl _ hm];exact hL) (by rw[<-hR.fl _ hm,<-hR.sg _ hm];exact hf)
 |dF n i j L k h hs hL hf=>
  intro x e hb;cases x<;>simp only[AV.aH,AV.dF.injEq,reduceCtorEq]at e
  next m a1 a2 a3 a4=>
   obtain⟨e1,rfl,rfl,rfl,rfl⟩:=e;rw[AV.aC]at hb;have hm:=lt _ hb;rw[<-e1]at hL hf;exact .dF _ _ _ _ _ hm hs (by rw[<-hR.fl _ hm];exact hL) (by rw[<-hR.fl _ hm,<-hR.sg _ hm];exact hf)
 |bn xs i off b o u y hx pC hu=>
  intro x e hb;cases x<;>simp only[AV.aH,AV.bn.injEq,reduceCtorEq]at e
  next a1 a2 a3=>
   obtain⟨rfl,rfl,rfl⟩:=e;exact .bn _ _ _ b o u y hx (λj hj=>⟨hS _ _ (pC j hj).1,(pC j hj).2⟩) (λj d hd=>(hu j d hd).rS hS)
 |hid h J=>
  intro x e hb;cases x<;>simp only[AV.aH,AV.hid.injEq,reduceCtorEq]at e
  next c=>subst e;exact .hid (h.keep hS (λ_ _ _=>rfl)) J
 |dead u=>
  intro x e hb;cases x<;>simp only[AV.aH,reduceCtorEq]at e
  exact .dead u
theorem K9{σ:Nat->Nat}{G G2:Gh}(hR:pG σ G G2){n:Nat}(hn:n<G.N)(B:ao):(B.aH σ).dZ G2 (σ n)=B.dZ G n:=by
 cases B<;>simp only[ao.aH,ao.dZ,hR.aM n hn,hR.ow n hn]
theorem er.aH{σ:Nat->Nat}{G G2:Gh}{w:ak9}(hR:pG σ G G2){n:Nat}(hn:n<G.N){B:ao}(hz:∀b,B.dZ G n=some b->¬G2.Z b)(h:er G w n B):er G2 w (σ n) (B.aH σ):=by
 have hS:∀b o,¬G.S b o->¬G2.S b o:=λb o h h2=>h ((hR.S b o).1 h2);cases B with
 |gone=>trivial
 |cells cs=>
  obtain⟨J,h2,vs,T,h3,h4,h5⟩:=h;rw[ao.aH];refine⟨by rw[hR.aM n hn];exact hz _ rfl,by rw[hR.aM n hn];exact λo=>hS _ _ (h2 o),vs,T,by rw[hR.aM n hn];exact h3,by rw[gu,akl];exact h4,λi u c hu hc=> ?_⟩;rw[gu,akn]at hc;cases hx:cs[i]? with
  |none=>rw[hx]at hc;cases hc
  |some x=>rw[hx]at hc;cases hc;exact(h5 i u x hu hx).aH hR
 |lp ls p as bd cs=>
  obtain⟨J,h2,fn,vs,T,h3,h4,h5⟩:=h;rw[ao.aH];refine⟨by rw[hR.aM n hn];exact hz _ rfl,by rw[hR.aM n hn];exact λo=>hS _ _ (h2 o),fn,vs,T,by rw[hR.aM n hn];exact h3,by rw[gu,akl];exact h4,λi u c hu hc=> ?_⟩;rw[gu,akn]at hc;cases hx:cs[i]? with
  |none=>rw[hx]at hc;cases hc
  |some x=>rw[hx]at hc;cases hc;exact(h5 i u x hu hx).aH hR
 |it sn cs=>
  obtain⟨J,h2,fn,vs,T,h3,h4,h5⟩:=h;rw[ao.aH];refine⟨by rw[hR.aM n hn];exact hz _ rfl,by rw[hR.aM n hn];exact λo=>hS _ _ (h2 o),fn,vs,T,by rw[hR.aM n hn];exact h3,by rw[gu,akl];exact h4,λi u c hu hc=> ?_⟩;rw[gu,akn]at hc;cases hx:cs[i]? with
  |none=>rw[hx]at hc;cases hc
  |some x=>rw[hx]at hc;cases hc;exact(h5 i u x hu hx).aH hR
 |eO T0 cs=>
  obtain⟨J,h2,fn,vs,T,h3,h4,h5⟩:=h;rw[ao.aH];refine⟨by rw[hR.aM n hn];exact hz _ rfl,by rw[hR.aM n hn];exact λo=>hS _ _ (h2 o),fn,vs,T,by rw[hR.aM n hn];exact h3,by rw[gu,akl,hR.aM n hn];exact h4,λi u c hu hc=> ?_⟩;rw[gu,akn]at hc;cases hx:cs[i]? with
  |none=>rw[hx]at hc;cases hc
  |some x=>rw[hx]at hc;cases hc;exact(h5 i u x hu hx).aH hR
 |map kv=>
  obtain⟨J,h2,es,c,h3,h4⟩:=h;exact⟨by rw[hR.aM n hn];exact hz _ rfl,by rw[hR.aM n hn];exact λo=>hS _ _ (h2 o),es,c,by rw[hR.aM n hn];exact h3,h4.keep (λb o h=>(hR.S b o).2 h) (λ_ _ _=>rfl)⟩
 |ie kv=>
  obtain⟨J,h2,es,c,h3,h4⟩:=h;exact⟨by rw[hR.aM n hn];exact hz _ rfl,by rw[hR.aM n hn];exact λo=>hS _ _ (h2 o),es,c,by rw[hR.aM n hn];exact h3,h4.keep (λb o h=>(hR.S b o).2 h) (λ_ _ _=>rfl)⟩
 |byt e b=>
  obtain⟨J,hm,h2⟩:=h;refine⟨(hR.fl n hn).trans J,hm,?_⟩;rcases h2 with⟨h2,h0,A,h3⟩|⟨g,cap,cur,h2,h3,h4,h5,h6,h7,h8,h9,aO⟩
  ·exact .inl ⟨(hR.ow n hn).trans h2,h0,A,(hR.sg n hn).trans h3⟩
  ·exact .inr ⟨g,cap,cur,(hR.ow n hn).trans h2,(hR.sg n hn).trans h3,hz g h2,h5,h6,h7,h8,λo=>hS _ _ (h9 o),aO⟩
 |front e k len=>
  obtain⟨J,hm,h2⟩:=h;refine⟨(hR.fl n hn).trans J,hm,?_⟩;rcases h2 with⟨h2,A,h3⟩|⟨g,cap,cur,h2,h3,h4,h5,h6,h7,h8,h9⟩
  ·exact .inl ⟨(hR.ow n hn).trans h2,A,(hR.sg n hn).trans h3⟩
  ·exact .inr ⟨g,cap,cur,(hR.ow n hn).trans h2,(hR.sg n hn).trans h3,hz g h2,h5,h6,h7,h8,λo ho=>hS _ _ (h9 o ho)⟩
 |vec e k cs=>
  obtain⟨J,hm,hk,h2⟩:=h;rw[ao.aH];refine⟨by rw[akl];exact(hR.fl n hn).trans J,by rw[akl];exact hm,λc hc=> ?_,?_⟩
  ·obtain⟨x,hx,rfl⟩:=List.mem_map.1 hc;rw[gu,akl];exact hk x hx
  ·rcases h2 with⟨h2,e2,A,h3⟩|⟨g,cap,cur,h2,h3,h4,h5,h6,h7,h8,h9,aO⟩
   ·exact .inl ⟨(hR.ow n hn).trans h2,by rw[e2];rfl,A,(hR.sg n hn).trans h3⟩
   ·refine .inr ⟨g,cap,cur,(hR.ow n hn).trans h2,by rw[akl];exact(hR.sg n hn).trans h3,hz g h2,h5,by rw[akl];exact h6,h7,h8,λo=>hS _ _ (h9 o),λi j c x u hc hx hu=> ?_⟩;rw[akn]at hc;cases hy:cs[i]? with
    |none=>rw[hy]at hc;cases hc
    |some y=>
     rw[hy]at hc;cases hc
     rw[gu,akn]at hx;cases hw:y[j]? with
     |none=>rw[hw]at hx;cases hx
     |some z=>rw[hw]at hx;cases hx;exact(aO i j y z u hy hw hu).aH hR
theorem er.rp{σ:Nat->Nat}{G G2:Gh}{w:ak9}(hR:pG σ G G2){n:Nat}(hn:n<G.N){B:ao}(hb:B.aC G.N=true)(hz:∀b,B.dZ G n=some b->¬G.Z b)(h:er G2 w (σ n) (B.aH σ)):er G w n B:=by
 have hS:∀b o,¬G2.S b o->¬G.S b o:=λb o h h2=>h ((hR.S b o).2 h2);cases B with
 |gone=>trivial
 |cells cs=>
  rw[ao.aH]at h;obtain⟨J,h2,vs,T,h3,h4,h5⟩:=h;rw[hR.aM n hn]at h2 h3;rw[gu,akl]at h4;simp only[ao.aC,akG]at hb;exact⟨hz _ rfl,λo=>hS _ _ (h2 o),vs,T,h3,h4,λi u c hu hc=>aD.rp hR (h5 i u (c.aH σ) hu (by rw[gu,akn,hc];rfl)) c rfl (hb c (akt hc))⟩
 |lp ls p as bd cs=>
  rw[ao.aH]at h;obtain⟨J,h2,fn,vs,T,h3,h4,h5⟩:=h;rw[hR.aM n hn]at h2 h3;rw[gu,akl]at h4;simp only[ao.aC,akG]at hb;exact⟨hz _ rfl,λo=>hS _ _ (h2 o),fn,vs,T,h3,h4,λi u c hu hc=>aD.rp hR (h5 i u (c.aH σ) hu (by rw[gu,akn,hc];rfl)) c rfl (hb c (akt hc))⟩
 |it sn cs=>
  rw[ao.aH]at h;obtain⟨J,h2,fn,vs,T,h3,h4,h5⟩:=h;rw[hR.aM n hn]at h2 h3;rw[gu,akl]at h4;simp only[ao.aC,akG]at hb;exact⟨hz _ rfl,λo=>hS _ _ (h2 o),fn,vs,T,h3,h4,λi u c hu hc=>aD.rp hR (h5 i u (c.aH σ) hu (by rw[gu,akn,hc];rfl)) c rfl (hb c (akt hc))⟩
 |eO T0 cs=>
  rw[ao.aH]at h;obtain⟨J,h2,fn,vs,T,h3,h4,h5⟩:=h;rw[hR.aM n hn]at h2 h3 h4;rw[gu,akl]at h4;simp only[ao.aC,akG]at hb;exact⟨hz _ rfl,λo=>hS _ _ (h2 o),fn,vs,T,h3,h4,λi u c hu hc=>aD.rp hR (h5 i u (c.aH σ) hu (by rw[gu,akn,hc];rfl)) c rfl (hb c (akt hc))⟩
 |map kv=>
  obtain⟨J,h2,es,c,h3,h4⟩:=h;rw[hR.aM n hn]at h2 h3;exact⟨hz _ rfl,λo=>hS _ _ (h2 o),es,c,h3,h4.keep (λb o h=>(hR.S b o).1 h) (λ_ _ _=>rfl)⟩
 |ie kv=>
  obtain⟨J,h2,es,c,h3,h4⟩:=h;rw[hR.aM n hn]at h2 h3;exact⟨hz _ rfl,λo=>hS _ _ (h2 o),es,c,h3,h4.keep (λb o h=>(hR.S b o).1 h) (λ_ _ _=>rfl)⟩
 |byt e b=>
  obtain⟨J,hm,h2⟩:=h;rw[hR.fl n hn]at J;rw[hR.ow n hn,hR.sg n hn]at h2;refine⟨J,hm,?_⟩;rcases h2 with⟨h2,h0,A,h3⟩|⟨g,cap,cur,h2,h3,h4,h5,h6,h7,h8,h9,aO⟩
  ·exact .inl ⟨h2,h0,A,h3⟩
  ·exact .inr ⟨g,cap,cur,h2,h3,hz g h2,h5,h6,h7,h8,λo=>hS _ _ (h9 o),aO⟩
 |front e k len=>
  obtain⟨J,hm,h2⟩:=h;rw[hR.fl n hn]at J;rw[hR.ow n hn,hR.sg n hn]at h2;refine⟨J,hm,?_⟩;rcases h2 with⟨h2,A,h3⟩|⟨g,cap,cur,h2,h3,h4,h5,h6,h7,h8,h9⟩
  ·exact .inl ⟨h2,A,h3⟩
  ·exact .inr ⟨g,cap,cur,h2,h3,hz g h2,h5,h6,h7,h8,λo ho=>hS _ _ (h9 o ho)⟩
 |vec e k cs=>
  rw[ao.aH]at h;obtain⟨J,hm,hk,h2⟩:=h;rw[hR.fl n hn,akl]at J;rw[akl]at hm;rw[hR.ow n hn,hR.sg n hn,akl]at h2;simp only[ao.aC,akG]at hb;refine⟨J,hm,λc hc=> ?_,?_⟩
  ·have:=hk _ (List.mem_map.2 ⟨c,hc,rfl⟩)
   rwa [gu,akl]at this
  ·rcases h2 with⟨h2,e2,A,h3⟩|⟨g,cap,cur,h2,h3,h4,h5,h6,h7,h8,h9,aO⟩
   ·exact .inl ⟨h2,List.map_eq_nil_iff.1 e2,A,h3⟩
   ·refine .inr ⟨g,cap,cur,h2,h3,hz g h2,h5,h6,h7,h8,λo=>hS _ _ (h9 o),λi j c x u hc hx hu=> ?_⟩;exact aD.rp hR (aO i j (AV.gh σ c) (x.aH σ) u (by rw[akn,hc];rfl) (by rw[gu,akn,hx];rfl) hu) x rfl (hb c (akt hc) x (akt hx))
theorem Tj:∀(l:ak4 Nat)(Bs h:ak4 ao),l.length<=Bs.length->(gU l Bs h).length=h.length+(Bs.length-l.length)
 |[],Bs,h,_=>by simp [gU]
 |j::l,[],h,hl=>by simp at hl
 |j::l,B::Bs,h,hl=>by rw[gU,Tj l Bs _ (by simpa using hl),List.length_set];simp
theorem KM:∀(l:ak4 Nat)(Bs h:ak4 ao)(n:Nat),l.length<=Bs.length->n<h.length->n ∉ l->(gU l Bs h)[n]?=h[n]?
 |[],Bs,h,n,_,hn,_=>by rw[gU,akq hn]
 |j::l,[],h,n,hl,_,_=>by simp at hl
 |j::l,B::Bs,h,n,hl,hn,hm=>by
  simp only[akK,not_or]at hm;rw[gU,KM l Bs _ n (by simpa using hl) (by rw[List.length_set];exact hn) hm.2,akO (Ne.symm hm.1)]
theorem XZ:∀(l:ak4 Nat)(Bs h:ak4 ao)(i:Nat),l.length<=Bs.length->l.Nodup->(∀j∈l,j<h.length)->i<Bs.length->(gU l Bs h)[rn l h.length i]?=Bs[i]?
 |[],Bs,h,i,_,_,_,hi=>by rw[gU,rn,akw (akV _ _),Nat.add_sub_cancel_left]
 |j::l,[],h,i,hl,_,_,_=>by simp at hl
 |j::l,B::Bs,h,0,hl,hd,aL,_=>by
  rw[List.nodup_cons]at hd;rw[gU,rn,KM l Bs _ j (by simpa using hl) (by rw[List.length_set];exact aL j (by simp)) hd.1,akJ (aL j (by simp))];rfl
 |j::l,B::Bs,h,i+1,hl,hd,aL,hi=>by
  rw[List.nodup_cons]at hd;have:=XZ l Bs (h.set j B) i (by simpa using hl) hd.2 (λx hx=>by rw[List.length_set];exact aL x (by simp [hx])) (by simpa using hi);rw[List.length_set]at this;rw[gU,rn,this];simp
def uw(l:ak4 Nat)(base n:Nat):ak6 Nat:=if n∈l then some (l.idxOf n)else if base<=n then some (l.length+(n-base))else none
theorem M8{l:ak4 Nat}{base:Nat}(hd:l.Nodup)(aL:∀j∈l,j<base)(i:Nat):uw l base (rn l base i)=some i:=by
 unfold uw;by_cases hi:i<l.length
 ·have e:l[i]?=some l[i]:=akk hi;rw[wP l base i _ e,if_pos (List.getElem_mem _),List.Nodup.idxOf_getElem hd i hi]
 ·rw[I0 l base i (by omega),if_neg (λh=>by have:=aL _ h;omega),if_pos (akV _ _)]
  congr 1;omega
theorem JO{l:ak4 Nat}{base n i:Nat}(h:uw l base n=some i):rn l base i=n:=by
 unfold uw at h;split at h
 ·rename_i hm
  cases h
  have aL:=List.idxOf_lt_length_of_mem hm;refine wP l base _ n ?_;rw[akk aL,List.getElem_idxOf]
 ·split at h
  ·cases h
   rw[I0 _ _ _ (by omega)];omega
  ·cases h
theorem ab3{l:ak4 Nat}{base n:Nat}(h:uw l base n=none):n<base/\n ∉ l:=by
 unfold uw at h;split at h
 ·cases h
 ·split at h
  ·cases h
  ·rename_i J h2;exact⟨by omega,J⟩
def qA{α:Type}(o:ak6 Nat)(f:Nat->α)(d:α):α:=match o with|some i=>f i|none=>d
theorem Q8{H:ak4 ao}{l:ak4 Nat}{h:ak4 ao}
 (hd:l.Nodup) (aL:∀j∈l,j<h.length) (hH:∀(i j:Nat),l[i]?=some j->h[j]?=(H[i]?).map (ao.aH (rn l h.length))) (hk:l.length=H.length)
 (hb:H.all (ao.aC H.length)=true) {G:Gh} {w:ak9} (hi:bU G w h):
 ∃G0:Gh,G0.N=H.length/\bU G0 w H/\pG (rn l h.length) G0 G/\∀(G1:Gh)(w':ak9)(H':ak4 ao),bP H.length G0 w G1 w'->H.length<=G1.N->bU G1 w' H'->
  ∃G2:Gh,bP G.N G w G2 w'/\G.N<=G2.N/\bU G2 w' (gU l (H'.map (ao.aH (rn l h.length))) h)/\pG (rn l h.length) G1 G2:=by
 obtain⟨σ,hσ⟩:∃σ,σ=rn l h.length:=⟨_,rfl⟩;rw[<-hσ]at hH ⊢;have GF:h.length=G.N:=hi.len;obtain⟨own,eF⟩:∃own:Nat->Prop,own=λb=>∃j∈l,bR h G j=some b:=⟨_,rfl⟩;obtain⟨G0,kf⟩:∃G0:Gh,G0={N:=H.length,Z:=λb=>b<w.heap.size/\¬own b,S:=G.S,aM:=λi=>G.aM (σ i),sg:=λi=>G.sg (σ i),ow:=λi=>G.ow (σ i),fl:=λi=>G.fl (σ i),M:=G.M}:=⟨_,rfl⟩;have Ek:∀i,i<H.length->∃j,l[i]?=some j/\σ i=j/\j∈l:=λi dY=>by
  have jh:i<l.length:=by rw[hk];exact dY
  exact⟨l[i],akk jh,by rw[hσ];exact wP l _ i _ (akk jh),List.getElem_mem _⟩
 have qE:pG σ G0 G:=by
  subst kf;refine⟨λn hn=> ?_,λ_ _=>rfl,λ_ _=>rfl,λ_ _=>rfl,λ_ _=>rfl,λ_ _=>Iff.rfl⟩;obtain⟨j,_,e,hj⟩:=Ek n hn;rw[e,<-GF];exact aL j hj
 have cw:G0.N=H.length:=by rw[kf]
 have RF:∀(i:Nat)(B:ao),H[i]?=some B->h[σ i]?=some (B.aH σ):=λi B hB=>by
  obtain⟨j,e1,e2,_⟩:=Ek i (akg.1 hB).1;rw[e2,hH i j e1,hB];rfl
 have MD:∀(i:Nat)(B:ao)(b:Nat),H[i]?=some B->B.dZ G0 i=some b->bR h G (σ i)=some b:=λi B b hB gV=>by
  rw[dM (RF i B hB),K9 qE (by rw[cw];exact(akg.1 hB).1) B];exact gV
 have wa:∀(i:Nat)(B:ao)(b:Nat),H[i]?=some B->B.dZ G0 i=some b->¬G0.Z b:=λi B b hB gV hz=>by
  rw[kf]at hz;refine hz.2 ?_;rw[eF];obtain⟨j,_,e2,hj⟩:=Ek i (akg.1 hB).1;exact⟨j,hj,by rw[<-e2];exact MD i B b hB gV⟩
 have afu:∀i i',σ i=σ i'->i=i':=λi i' e=>by
  have J:=M8 hd aL i;have h2:=M8 hd aL i';rw[hσ]at e;rw[e,h2]at J;exact(akz J).symm
 have rF:bU G0 w H:=by
  refine⟨cw.symm,λb hz=> ?_,λb o hs=> ?_,λi B hB=> ?_,λm n b J h2=> ?_,by rw[kf];exact hi.gl⟩
  ·rw[kf]at hz;exact hz.1
  ·rw[kf]at hs;exact hi.S b o hs
  ·have hiN:i<G0.N:=by rw[cw];exact(akg.1 hB).1
   rw[akG]at hb;exact er.rp qE hiN (by rw[cw];exact hb B (akt hB)) (λb gV=>wa i B b hB gV) (hi.dn (σ i) _ (RF i B hB))
  ·obtain⟨B1,tI,iR⟩:=l9 J;obtain⟨B2,JR,kg⟩:=l9 h2;exact afu m n (hi.inj _ _ b (MD m B1 b tI iR) (MD n B2 b JR kg))
 refine⟨G0,cw,rF,qE,λG1 w' H' hE fK jC=> ?_⟩;have Ae:H'.length=G1.N:=jC.len;obtain⟨ps,Aq⟩:∃ps,ps=uw l h.length:=⟨_,rfl⟩;obtain⟨G2,hG2⟩:∃G2:Gh,G2={N:=G.N+(G1.N-H.length),Z:=G.Z,S:=G1.S,aM:=λn=>qA (ps n) G1.aM (G.aM n),sg:=λn=>qA (ps n) G1.sg (G.sg n),ow:=λn=>qA (ps n) G1.ow (G.ow n),fl:=λn=>qA (ps n) G1.fl (G.fl n),M:=G.M}:=⟨_,rfl⟩;have HC:∀i,ps (σ i)=some i:=λi=>by rw[Aq,hσ];exact M8 hd aL i
 have Hi:∀i,H.length<=i->σ i=G.N+(i-H.length):=λi kt=>by rw[hσ,I0 l _ i (by omega),GF,hk]
 have ajg:∀i,i<H.length->σ i<G.N:=λi Iy=>by
  obtain⟨j,_,e,hj⟩:=Ek i Iy;rw[e,<-GF];exact aL j hj
 have LZ:pG σ G1 G2:=by
  subst hG2;refine⟨λn hn=> ?_,λn _=>by simp only[HC];rfl,λn _=>by simp only[HC];rfl,λn _=>by simp only[HC];rfl,λn _=>by simp only[HC];rfl,λ_ _=>Iff.rfl⟩;show σ n<G.N+(G1.N-H.length);by_cases eZ:n<H.length
  ·have:=ajg n eZ;omega
  ·rw[Hi n (by omega)];omega
 have XY:∀b,G0.Z b->G1.Z b:=hE.Z.1.1;have OJ:∀b,G.Z b->G0.Z b:=λb hz=>by
  rw[kf];refine⟨hi.z b hz,λho=> ?_⟩;rw[eF]at ho;obtain⟨j,_,ho⟩:=ho;obtain⟨B,hB,gV⟩:=l9 ho;exact(hi.dn j B hB).kH gV hz
 have ja:bP G.N G w G2 w':=by
  refine⟨hE.size,λb o hs=> ?_,λb o hs=> ?_,λn hn=> ?_,λn hn=> ?_,gQ (by rw[hG2]) (by rw[hG2]),λb hz=>hE.old b (OJ b hz),hE.os,hE.tape,hE.output,λb o hs=> ?_⟩
  ·rw[hG2];exact hE.S b o (by rw[kf];exact hs)
  ·exact hE.cell b o (by rw[kf];exact hs)
  ·rw[hG2];show qA (ps n) G1.aM (G.aM n)=G.aM n;cases hp:ps n with
   |none=>rfl
   |some i=>
    have e:σ i=n:=by rw[hσ];rw[Aq]at hp;exact JO hp
    have dY:i<H.length:=Nat.lt_of_not_le λkt=>by rw[Hi i kt]at e;omega
    show G1.aM i=G.aM n;rw[hE.aM i dY,kf,<-e]
  ·rw[hG2];show(qA (ps n) G1.fl (G.fl n)=G.fl n/\qA (ps n) G1.sg (G.sg n)=G.sg n)\/G.fl n<qA (ps n) G1.fl (G.fl n);cases hp:ps n with
   |none=>exact .inl ⟨rfl,rfl⟩
   |some i=>
    have e:σ i=n:=by rw[hσ];rw[Aq]at hp;exact JO hp
    have dY:i<H.length:=Nat.lt_of_not_le λkt=>by rw[Hi i kt]at e;omega
    have:=hE.fr i dY;rw[kf]at this;simp only[e]at this;exact this
  ·rw[hG2]at hs;rcases hE.new b o hs with J|J
   ·rw[kf]at J;exact .inl J
   ·exact .inr λhz=>J (OJ b hz)
 have hlen:(gU l (H'.map (ao.aH σ)) h).length=G2.N:=by
  rw[Tj _ _ _ (by rw[akl,hk,Ae];omega),akl,Ae,hk,GF,hG2]
 have abX:∀i,i<G1.N->(gU l (H'.map (ao.aH σ)) h)[σ i]?=(H'[i]?).map (ao.aH σ):=λi dY=>by
  rw[<-akn,hσ];exact XZ l _ h i (by rw[akl,hk,Ae];omega) hd aL (by rw[akl,Ae];exact dY)
 have H3:∀(n:Nat)(B:ao),(gU l (H'.map (ao.aH σ)) h)[n]?=some B->(∃i B',i<G1.N/\n=σ i/\H'[i]?=some B'/\B=B'.aH σ)\/(ps n=none/\n ∉ l/\h[n]?=some B):=λn B hB=>by
  have Sx:n<G2.N:=by rw[<-hlen];exact(akg.1 hB).1
  cases hp:ps n with
  |none=>
   rw[Aq]at hp;obtain⟨J,h2⟩:=ab3 hp;exact .inr ⟨rfl,h2,by rw[<-KM l (H'.map (ao.aH σ)) h n (by rw[akl,hk,Ae];omega) J h2];exact hB⟩
  |some i=>
   have e:σ i=n:=by rw[hσ];rw[Aq]at hp;exact JO hp
   have dY:i<G1.N:=Nat.lt_of_not_le λkt=>by
    rw[Hi i (by omega)]at e;rw[hG2]at Sx;have:n<G.N+(G1.N-H.length):=Sx;omega
   rw[<-e,abX i dY]at hB;cases hx:H'[i]? with
   |none=>rw[hx]at hB;cases hB
   |some B'=>rw[hx]at hB;cases hB;exact .inl ⟨i,B',dY,e.symm,hx,rfl⟩
 have hold:∀(n b:Nat),n ∉ l->bR h G n=some b->G0.Z b:=λn b hn gV=>by
  rw[kf];refine⟨hi.gW gV,λho=> ?_⟩;rw[eF]at ho;obtain⟨j,hj,ho⟩:=ho;exact hn ((hi.inj n j b gV ho)▸hj)
 have BR:∀(n b:Nat),bR (gU l (H'.map (ao.aH σ)) h) G2 n=some b->(∃i,n=σ i/\bR H' G1 i=some b/\¬G0.Z b)\/(n ∉ l/\bR h G n=some b/\G0.Z b):=λn b gV=>by
  obtain⟨B,hB,iR⟩:=l9 gV;rcases H3 n B hB with⟨i,B',dY,rfl,dR,rfl⟩|⟨hp,hn,dR⟩
  ·rw[K9 LZ dY]at iR;exact .inl ⟨i,rfl,(dM dR).trans iR,λhz=>(jC.dn i B' dR).kH iR (XY _ hz)⟩
  ·have e:B.dZ G2 n=B.dZ G n:=by
    subst hG2;cases B<;>simp only[ao.dZ,hp,qA]
   have:=(dM dR).trans (e▸iR);exact .inr ⟨hn,this,hold n b hn this⟩
 refine⟨G2,ja,by rw[hG2];exact akV _ _,⟨hlen,λb hz=> ?_,λb o hs=> ?_,λn B hB=> ?_,λm n b J h2=> ?_,hi.gl.keep ja⟩,LZ⟩
 ·rw[hG2]at hz;exact akE (hi.z b hz) hE.size
 ·rw[hG2]at hs;exact jC.S b o hs
 ·rcases H3 n B hB with⟨i,B',dY,rfl,dR,rfl⟩|⟨hp,hn,dR⟩
  ·refine er.aH LZ dY (λb gV hz=> ?_) (jC.dn i B' dR);have:=(jC.dn i B' dR).kH gV;rw[hG2]at hz;exact this (XY b (OJ b hz))
  ·have nE:n<G.N:=by rw[<-hi.len];exact(akg.1 dR).1
   refine er.keep nE ja (by rw[hG2];exact akV _ _) (by rw[hG2];simp only[hp];exact⟨rfl,rfl,rfl⟩) (λb gV=> ?_) (hi.dn n B dR);have hz:=hold n b hn ((dM dR).trans gV);refine⟨hE.old b hz,λo jy hs=> ?_⟩;rw[hG2]at hs;rcases hE.new b o hs with J|J
   ·rw[kf]at J;exact jy J
   ·exact J hz
 ·rcases BR m b J with⟨i,rfl,a1,a2⟩|⟨a0,a1,a2⟩<;>rcases BR n b h2 with⟨j,rfl,b1,b2⟩|⟨b0,b1,b2⟩
  ·rw[jC.inj i j b a1 b1]
  ·exact absurd b2 a2
  ·exact absurd a2 b2
  ·exact hi.inj m n b a1 b1
theorem cZ.Xi{P:ak7}{f:FuncId}{args:ak4 AV}{H:ak4 ao}{K:AV->ak4 ao->Prop}(hc:cZ P f args H K){l:ak4 Nat}{h:ak4 ao}
 (hd:l.Nodup) (aL:∀j∈l,j<h.length) (hH:∀(i j:Nat),l[i]?=some j->h[j]?=(H[i]?).map (ao.aH (rn l h.length))) (hk:l.length=H.length)
 (ha:args.all (AV.aC H.length)=true) (hb:H.all (ao.aC H.length)=true):
 cZ P f (args.map (AV.aH (rn l h.length))) h λr' h'=>∃r H',K r H'/\r'=r.aH (rn l h.length)/\h'=gU l (H'.map (ao.aH (rn l h.length))) h:=by
 refine⟨hc.1,λG w vs hi uf hvr=> ?_⟩;obtain⟨G0,cw,rF,qE,KQ⟩:=Q8 hd aL hH hk hb hi;refine(hc.2 G0 w vs rF (by rw[uf,akl]) λi u c hu hx=> ?_).mono λe w' hp=> ?_
 ·rw[akG]at ha;exact aD.rp qE (hvr i u (c.aH (rn l h.length)) hu (by rw[akn,hx];rfl)) c rfl (by rw[cw];exact ha c (akt hx))
 ·obtain⟨v,G1,r,H',rfl,hE,fK,jC,hv,hK⟩:=hp;rw[cw]at fK hE;obtain⟨G2,e1,e2,e3,e4⟩:=KQ G1 w' H' hE fK jC;exact⟨v,G2,r.aH _,_,rfl,e1,e2,e3,hv.aH e4,r,H',hK,rfl,rfl⟩
mutual
theorem wM{σ τ:Nat->Nat}{k:Nat}(h:∀i,i<k->σ i=τ i):∀x:AV,x.aC k=true->x.aH σ=x.aH τ
 | .ptr n off,hb=>by rw[AV.aC]at hb;rw[AV.aH,AV.aH,h n (by rw[Bool.not_eq_true',<-Bool.not_eq_true,dy]at hb;omega)]
 | .own n xs,hb=>by rw[AV.aC]at hb;rw[AV.aH,AV.aH,h n (by rw[Bool.not_eq_true',<-Bool.not_eq_true,dy]at hb;omega)]
 | .row n off len cap q,hb=>by rw[AV.aC]at hb;rw[AV.aH,AV.aH,h n (by rw[Bool.not_eq_true',<-Bool.not_eq_true,dy]at hb;omega)]
 | .mp n,hb=>by rw[AV.aC]at hb;rw[AV.aH,AV.aH,h n (by rw[Bool.not_eq_true',<-Bool.not_eq_true,dy]at hb;omega)]
 | .cp n,hb=>by rw[AV.aC]at hb;rw[AV.aH,AV.aH,h n (by rw[Bool.not_eq_true',<-Bool.not_eq_true,dy]at hb;omega)]
 | .vec n o len L q,hb=>by rw[AV.aC]at hb;rw[AV.aH,AV.aH,h n (by rw[Bool.not_eq_true',<-Bool.not_eq_true,dy]at hb;omega)]
 | .dF n i j L q,hb=>by rw[AV.aC]at hb;rw[AV.aH,AV.aH,h n (by rw[Bool.not_eq_true',<-Bool.not_eq_true,dy]at hb;omega)]
 | .agg cs,hb=>by rw[AV.aC]at hb;rw[AV.aH,AV.aH,rh h cs hb]
 | .aW cs,hb=>by rw[AV.aC]at hb;rw[AV.aH,AV.aH,rh h cs hb]
 | .fn f cs,hb=>by rw[AV.aC]at hb;rw[AV.aH,AV.aH,rh h cs hb]
 | .d x,_=>by rw[AV.aH,AV.aH]
 | .bn xs i off,_=>by rw[AV.aH,AV.aH]
 | .full xs,_=>by rw[AV.aH,AV.aH]
 | .hid c,_=>by rw[AV.aH,AV.aH]
 | .dead,_=>by rw[AV.aH,AV.aH]
theorem rh{σ τ:Nat->Nat}{k:Nat}(h:∀i,i<k->σ i=τ i):∀l:ak4 AV,AV.jU k l=true->AV.gh σ l=AV.gh τ l
 |[],_=>by rw[AV.gh,AV.gh]
 |x::l,hb=>by
  rw[AV.jU,aki]at hb;rw[AV.gh,AV.gh,wM h x hb.1,rh h l hb.2]
end
theorem NK{σ τ:Nat->Nat}{k:Nat}(h:∀i,i<k->σ i=τ i)(B:ao)(hb:B.aC k=true):B.aH σ=B.aH τ:=by
 cases B with
 |cells cs=>rw[ao.aH,ao.aH,rh h cs (by rw[mm];exact hb)]
 |lp ls p as bd cs=>rw[ao.aH,ao.aH,rh h cs (by rw[mm];exact hb)]
 |it sn cs=>rw[ao.aH,ao.aH,rh h cs (by rw[mm];exact hb)]
 |eO T0 cs=>rw[ao.aH,ao.aH,rh h cs (by rw[mm];exact hb)]
 |vec e q cs=>
  rw[ao.aH,ao.aH]
  congr 1
  refine akL λc hc=>rh h c ?_;simp only[ao.aC,akG]at hb;rw[mm,akG];exact hb c hc
 |_=>rfl
theorem Qy:∀(l:ak4 Nat)(b c i:Nat),i<l.length->rn l b i=rn l c i
 |[],b,c,i,h=>by simp at h
 |a::l,b,c,0,_=>by rw[rn,rn]
 |a::l,b,c,i+1,h=>by rw[rn,rn];exact Qy l b c i (by simpa using h)
def om:ak4 Nat->Bool
 |[]=>true
 |a::l=> !l.any (·==a)&&om l
theorem Vx:∀{l:ak4 Nat},om l=true->l.Nodup
 |[],_=>List.nodup_nil
 |a::l,h=>by
  rw[om,aki,Bool.not_eq_true',<-Bool.not_eq_true]at h;rw[List.nodup_cons];exact⟨λhm=>h.1 (List.any_eq_true.2 ⟨a,hm,by simp⟩),Vx h.2⟩
theorem Qe:∀(l:ak4 Nat)(h Bs:ak4 ao),l.map (λj=>h[j]?)=Bs.map some->gU l Bs h=h
 |[],h,Bs,e=>by
  cases Bs with
  |nil=>rw[gU,akB]
  |cons=>simp at e
 |j::l,h,Bs,e=>by
  cases Bs with
  |nil=>simp at e
  |cons B Bs=>
   rw[akF,akF]at e;injection e with e1 e2;have hs:h.set j B=h:=by
     refine List.ext_getElem? λm=> ?_;by_cases em:j=m
     ·subst em;rw[akJ (akg.1 e1).1,e1]
     ·rw[akO em]
   rw[gU,hs];exact Qe l h Bs e2
section
variable {P:ak7} {f:FuncId} {eX:ak4 AV} {H:ak4 ao} {l:ak4 Nat} {h:ak4 ao}
theorem UQ{l:ak4 Nat}{h H:ak4 ao}{σ:Nat->Nat}(hb:l.map (λj=>h[j]?)=H.map λB=>some (B.aH σ)):l.length=H.length/\(∀j∈l,j<h.length)/\∀(i j:Nat),l[i]?=some j->h[j]?=(H[i]?).map (ao.aH σ):=by
 have J:l.length=H.length:=by simpa using congrArg List.length hb
 have key:∀(i j:Nat),l[i]?=some j->∃B,H[i]?=some B/\h[j]?=some (B.aH σ):=λi j e=>by
  have aL:i<H.length:=by rw[<-J];exact(akg.1 e).1
  have:=congrArg (·[i]?) hb;simp only[akn,e,akk aL,Option.map_some,Option.some.injEq]at this;exact⟨_,akk aL,this⟩
 refine⟨J,λj hj=> ?_,λi j e=> ?_⟩
 ·obtain⟨i,hi⟩:=List.mem_iff_getElem?.1 hj;obtain⟨B,_,h2⟩:=key i j hi;exact(akg.1 h2).1
 ·obtain⟨B,h2,h3⟩:=key i j e;rw[h2,h3];rfl
theorem cZ.mK{r:AV}{H':ak4 ao}(hc:cZ P f eX H λr1 J=>r1=r/\J=H')(hd:om l=true)(hb:l.map (λj=>h[j]?)=H.map λB=>some (B.aH (rn l h.length)))(hl:(eX.all (AV.aC H.length)&&H.all (ao.aC H.length))=true):
 cZ P f (eX.map (AV.aH (rn l h.length))) h λr1 J=>r1=r.aH (rn l h.length)/\J=gU l (H'.map (ao.aH (rn l h.length))) h:=by
 rw[aki]at hl;obtain⟨J,h2,h3⟩:=UQ hb;exact(hc.Xi (Vx hd) h2 h3 J hl.1 hl.2).mono λr1 J ⟨r2,H2,⟨e1,e2⟩,e3,e4⟩=>by subst e1;subst e2;exact⟨e3,e4⟩
theorem cZ.rq{r:AV}(hc:cZ P f eX H λr1 J=>r1=r/\J=H)(hd:om l=true)(hb:l.map (λj=>h[j]?)=H.map λB=>some (B.aH (rn l 0)))(hl:(eX.all (AV.aC H.length)&&H.all (ao.aC H.length)&&r.aC H.length)=true)(e:ak4 ao):
 cZ P f (eX.map (AV.aH (rn l 0))) (h++e) λr1 J=>r1=r.aH (rn l 0)/\J=h++e:=by
 rw[aki,aki]at hl;obtain⟨⟨l1,l2⟩,l3⟩:=hl;obtain⟨J,h2,_⟩:=UQ hb;have NC:∀i,i<H.length->rn l (h++e).length i=rn l 0 i:=λi hi=>Qy l _ _ i (by rw[J];exact hi);have iR:H.map (λB=>some (B.aH (rn l (h++e).length)))=H.map λB=>some (B.aH (rn l 0)):=by
   refine akL λB hB=> ?_;rw[akG]at l2;rw[NK NC B (l2 B hB)]
 have kg:l.map (λj=>(h++e)[j]?)=H.map λB=>some (B.aH (rn l (h++e).length)):=by
  rw[iR,<-hb];refine akL λj hj=> ?_;rw[akq (h2 j hj)]
 have:=hc.mK hd kg (by rw[l1,l2];rfl);have ha:eX.map (AV.aH (rn l (h++e).length))=eX.map (AV.aH (rn l 0)):=by
  refine akL λx hx=> ?_;rw[akG]at l1;exact wM NC x (l1 x hx)
 rw[ha,wM NC r l3]at this;refine this.mono λr1 J ⟨e1,e2⟩=>⟨e1,?_⟩;rw[e2];refine Qe l _ _ ?_;rw[kg,List.map_map];rfl
end
end Go.Proofs.YtnnapanbbbcalaaGreatDoor
