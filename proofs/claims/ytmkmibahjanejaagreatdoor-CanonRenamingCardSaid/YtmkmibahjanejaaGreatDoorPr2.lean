/-
  Part 2 of the proof: AbsLeave, AbsLoop, AbsZero, AbsIter, AbsCode, AbsWalk, GrowF, AbsDraw, AbsFrame.
-/
import Derived.Test.YtmkmibahjanejaaGreatDoorPr1
import Derived.Lib.AppendZeros
import Derived.Maps.RangeRun
namespace Go.Proofs.YtmkmibahjanejaaGreatDoor
open Go.RowKit
theorem aD.zm{G:Gh}{w:apM}{u:apL}{x:AV}(Z:Nat->Prop)(M:Nat)(h:aD G w u x):aD {G with Z:=Z,M:=M} w u x:=by
 induction h with
 |agg vs cs hl _ ih=>exact .agg vs cs hl ih
 |bA vs cs hl _ ih=>exact .bA vs cs hl ih
 |fn f vs cs hl _ ih=>exact .fn f vs cs hl ih
 |own n xs h hp hle hf=>exact .own n xs h hp hle hf
 |ptr n off h=>exact .ptr (G:={G with Z:=Z,M:=M}) n off h
 |row n off len cap k h hl hm=>exact .row (G:={G with Z:=Z,M:=M}) n off len cap k h hl hm
 |mp n h=>exact .mp (G:={G with Z:=Z,M:=M}) n h
 |cO n h=>exact .cO (G:={G with Z:=Z,M:=M}) n h
 |vec n o len L k h hs hL hf=>exact .vec (G:={G with Z:=Z,M:=M}) n o len L k h hs hL hf
 |di n i j L k h hs hL hf=>exact .di (G:={G with Z:=Z,M:=M}) n i j L k h hs hL hf
 |hid h h1=>exact .hid h h1
 |d h=>exact .d h
 |bz xs i off b o u x hx hS hu=>exact .bz xs i off b o u x hx hS hu
 |full xs hp hf=>exact .full xs hp hf
 |dead u=>exact .dead u
theorem dB.zm{G:Gh}{w:apM}{n:Nat}{B:an}(Z:Nat->Prop)(M:Nat)(hz:∀b,Z b->G.Z b)(h:dB G w n B):dB {G with Z:=Z,M:=M} w n B:=by
 cases B with
 |gone=>trivial
 |cells cs=>
  obtain⟨h1,h2,vs,T,h3,h4,h5⟩:=h;exact⟨λk=>h1 (hz _ k),h2,vs,T,h3,h4,λi u c hu hc=>(h5 i u c hu hc).zm Z M⟩
 |lp ls p as bd cs=>
  obtain⟨h1,h2,fn,vs,T,h3,h4,h5⟩:=h;exact⟨λk=>h1 (hz _ k),h2,fn,vs,T,h3,h4,λi u c hu hc=>(h5 i u c hu hc).zm Z M⟩
 |it sn cs=>
  obtain⟨h1,h2,fn,vs,T,h3,h4,h5⟩:=h;exact⟨λk=>h1 (hz _ k),h2,fn,vs,T,h3,h4,λi u c hu hc=>(h5 i u c hu hc).zm Z M⟩
 |aT T0 cs=>
  obtain⟨h1,h2,fn,vs,T,h3,h4,h5⟩:=h;exact⟨λk=>h1 (hz _ k),h2,fn,vs,T,h3,h4,λi u c hu hc=>(h5 i u c hu hc).zm Z M⟩
 |map kv=>
  obtain⟨h1,h2,es,c,h3,h4⟩:=h;exact⟨λk=>h1 (hz _ k),h2,es,c,h3,h4⟩
 |fR kv=>
  obtain⟨h1,h2,es,c,h3,h4⟩:=h;exact⟨λk=>h1 (hz _ k),h2,es,c,h3,h4⟩
 |front e k len=>
  obtain⟨h1,hm,h2⟩:=h;refine⟨h1,hm,?_⟩;rcases h2 with h2|⟨g,cap,cur,h2,h3,h4,h5⟩
  ·exact .inl h2
  ·exact .inr ⟨g,cap,cur,h2,h3,λk=>h4 (hz _ k),h5⟩
 |bg e b2=>
  obtain⟨h1,hm,h2⟩:=h;refine⟨h1,hm,?_⟩;rcases h2 with h2|⟨g,cap,cur,h2,h3,h4,h5⟩
  ·exact .inl h2
  ·exact .inr ⟨g,cap,cur,h2,h3,λk=>h4 (hz _ k),h5⟩
 |vec e k cs=>
  obtain⟨h1,hm,hk,h2⟩:=h;refine⟨h1,hm,hk,?_⟩;rcases h2 with h2|⟨g,cap,cur,h2,h3,h4,h5,h6,h7,h8,h9,bM⟩
  ·exact .inl h2
  ·exact .inr ⟨g,cap,cur,h2,h3,λk=>h4 (hz _ k),h5,h6,h7,h8,h9,λi j c x u hc hx hu=>(bM i j c x u hc hx hu).zm Z M⟩
theorem Kf{h:apH an}{G:Gh}{n:Nat}(Z:Nat->Prop)(M:Nat):bB h {G with Z:=Z,M:=M} n=bB h G n:=by
 unfold bB;cases h[n]? with
 |none=>rfl
 |some B=>cases B<;>rfl
theorem Inv.zm{G:Gh}{w:apM}{h:apH an}(hi:Inv G w h)(Z:Nat->Prop)(M:Nat)(hz:∀b,Z b->G.Z b)(hM:M<=w.heap.size):Inv {G with Z:=Z,M:=M} w h:=
 ⟨hi.len,λb hb=>hi.z b (hz b hb),hi.S,λn B hB=>(hi.cu n B hB).zm Z M hz,λm n b h1 h2=>hi.inj m n b (by rw[<-Kf Z M];exact h1) (by rw[<-Kf Z M];exact h2),⟨hi.gl.1,hM⟩⟩
def rL(l:apH Nat)(w:apM):apM:=l.foldl (λw D=>w.putObj D (.deferred none)) w
theorem U9:∀(l:apH Nat)(w:apM),(∀D∈l,w.heap[D]?=some (.deferred (some [])))->l.Nodup->
 (rL l w).heap.size=w.heap.size/\(∀b,b ∉ l->(rL l w).heap[b]?=w.heap[b]?)/\(∀b o,(rL l w).cell? ⟨b,o,none⟩=w.cell? ⟨b,o,none⟩)/\(rL l w).os=w.os/\(rL l w).tape=w.tape/\(rL l w).output=w.output
 |[],w,_,_=>⟨rfl,λ_ _=>rfl,λ_ _=>rfl,rfl,rfl,rfl⟩
 |D::l,w,hd,hn=>by
  rw[List.nodup_cons]at hn;have hD:=hd D aoY;have aH:=(ao7.1 hD).1;obtain⟨h1,h2,h3,h4,h5,h6⟩:=U9 l (w.putObj D (.deferred none)) (λE hE=>by
    have cp:E≠D:=λe=>hn.1 (e▸hE);rw[World.putObj_heap_other cp];exact hd E (ao1 _ hE)) hn.2
  refine⟨h1.trans (by simp),λb hb=> ?_,λb o=> ?_,h4,h5,h6⟩
  ·exact(h2 b λh=>hb (ao1 _ h)).trans (World.putObj_heap_other λe=>hb (e▸aoY))
  ·refine(h3 b o).trans ?_;by_cases e:b=D
   ·subst e;unfold World.cell?;simp only[World.putObj_heap_same aH,hD]
   ·exact World.cell?_of_block (World.putObj_heap_other e)
theorem aaM{F:Fence}{n:Nat}{P:apK}{fn:Func}{tmps:Array apL}{R:Ending->apM->Prop}:∀(l:apH Nat)(w:apM),(∀D∈l,w.heap[D]?=some (.deferred (some [])))->l.Nodup->
 LeavesIn F n P fn tmps R [] .returning (rL l w)->LeavesInM F n P fn tmps R (l.map λD=>{target:= .collected D,args:= #[]}) .returning w
 |[],w,_,_,h=>h
 |D::l,w,hd,hn,h=>by
  rw[List.nodup_cons]at hn;exact⟨by simp, .inl ⟨D,_,rfl,run_takeDeferred (hd D aoY),aaM l _ (λE hE=>by
    have cp:E≠D:=λe=>hn.1 (e▸hE);rw[World.putObj_heap_other cp];exact hd E (ao1 _ hE)) hn.2 h⟩⟩
theorem anS{N0:Nat}{G G1:Gh}{w w':apM}{a':Act}{s1:St}(hE:bx N0 {G with M:=w.heap.size} w G1 w')(hN:N0<=G1.N)(hz:∀b,G.Z b->b<w.heap.size)(hMw:G.M<=w.heap.size)(hs:cA G1 w' a' s1):
 ∃(w2:apM)(G2:Gh),(∀(F:Fence)(n:Nat)(P:apK)(fn:Func)(R:Ending->apM->Prop),(∃v,(results fn a'.tmps).run P w2= .ok v w2/\R (.returned v) w2)->LeavesInM F n P fn a'.tmps R a'.defers .returning w')/\
  bx N0 G w G2 w2/\G2.N=G1.N/\cA G2 w2 {a' with defers:=[]} s1:=by
 obtain⟨l,l1,l2,l3⟩:=hs.df;have hd:∀D∈l,w'.heap[D]?=some (.deferred (some [])):=λD hD=>(l3 D hD).2.2;obtain⟨h1,h2,h3,h4,h5,h6⟩:=U9 l w' hd l1;have hM:G1.M=w.heap.size:=hE.Z.2;have jF:∀b,G.Z b->b ∉ l:=λb hb hl=>by
  have:=(l3 b hl).1;have:=hz b hb;omega
 obtain⟨G2,iu⟩:∃G2:Gh,G2={G1 with Z:=G.Z,M:=G.M}:=⟨_,rfl⟩;have Dd:∀b,G.Z b->G1.Z b:=hE.Z.1.1;have kJ:Inv G2 w' s1.h:=by rw[iu];exact hs.inv.zm _ _ Dd (apa hMw hE.size)
 have hX:bx N0 G w G2 w':=by
  rw[iu];exact⟨hE.size,hE.S,hE.cell,hE.aI,hE.fr,fY rfl,hE.old,hE.os,hE.tape,hE.output,hE.new⟩
 have gW:bx G2.N G2 w' G2 (rL l w'):=⟨by rw[h1];exact ao3 _,λ_ _ h=>h,λb o _=>h3 b o,λ_ _=>rfl,λ_ _=> .inl ⟨rfl,rfl⟩,fY rfl,λb hb=>h2 b (jF b (by rw[iu]at hb;exact hb)),h4,h5,h6,λ_ _ h=> .inl h⟩;have Is:Inv G2 (rL l w') s1.h:=⟨kJ.len,λb hb=>by rw[h1];exact kJ.z b hb,λb o hb=>by rw[h1];exact kJ.S b o hb,λn B hB=>dB.aS (kJ.lt hB) gW (ao3 _) ⟨rfl,rfl,rfl⟩ (λb hb=>⟨h2 b λhl=>(hs.inv.cu n B hB).lB (by rw[iu]at hb;cases B<;>exact hb) (l3 b hl).2.1,λ_ h=>h⟩) (kJ.cu n B hB),kJ.inj,kJ.gl.aS gW⟩;refine⟨rL l w',G2,λF n P fn R h=> ?_,hX.trans (gW.less (by rw[iu];exact hN)),by rw[iu],⟨hs.size,λi=>aD.aS gW (ao3 _) (by rw[iu];exact(hs.tmp i).zm _ _),Is,se.nil _ _⟩⟩;rw[l2];exact aaM l w' hd l1 h
section
variable {G:Gh} {w:apM} {h:apH an}
theorem akn(hi:Inv G w h)(fn:FuncId)(tm:Array apL)(D p:Nat)(as bd:Code)(cs:apH AV)(hl:tm.size=cs.length)(hr:∀(i:Nat)(u:apL)(c:AV),tm[i]?=some u->cs[i]?=some c->aD G w u c):bx G.N G w (G.cG w.heap.size) (w.alloc (.loop {state:= .ready,pending:=none,fn:=fn,tmps:=tm,params:= #[p],assign:=as,body:=bd,defers:=D}))/\Inv (G.cG w.heap.size) (w.alloc (.loop {state:= .ready,pending:=none,fn:=fn,tmps:=tm,params:= #[p],assign:=as,body:=bd,defers:=D})) (h++[.lp .ready p as bd cs])/\aD (G.cG w.heap.size) (w.alloc (.loop {state:= .ready,pending:=none,fn:=fn,tmps:=tm,params:= #[p],assign:=as,body:=bd,defers:=D})) (.func (.yield w.heap.size) #[] #[]) (.cO h.length):=by
 have hE:=uk G w hi.z hi.S (.loop {state:= .ready,pending:=none,fn:=fn,tmps:=tm,params:= #[p],assign:=as,body:=bd,defers:=D});have hN:G.N<=(G.cG w.heap.size).N:=Nat.le_succ _;have fO:(G.cG w.heap.size).aI h.length=w.heap.size:=by simp [Gh.cG,hi.len]
 have lg:∀n(B:an),n<G.N->B.dC (G.cG w.heap.size) n=B.dC G n:=λn B hn=>by
  cases B<;>simp [an.dC,Gh.cG,Nat.ne_of_lt hn]
 have e7:∀n,n<G.N->bB (h++[.lp .ready p as bd cs]) (G.cG w.heap.size) n=bB h G n:=λn hn=>by
  have aH:n<h.length:=by rw[hi.len];exact hn
  unfold bB;rw[ao2 aH,aoW aH];exact lg n _ hn
 have sS:bB (h++[.lp .ready p as bd cs]) (G.cG w.heap.size) h.length=some w.heap.size:=by
  rw[cZ (B:= .lp .ready p as bd cs) (by simp)];exact congrArg some fO
 refine⟨hE,⟨by simp [Gh.cG,hi.len],λb hb=>apg (hi.z b hb) hE.size,λb o hs=>apg (hi.S b o hs) hE.size,λn B hB=> ?_,λm n b hm hn=> ?_,hi.gl.aS hE⟩,?_⟩
 ·by_cases hn:n<h.length
  ·rw[ao2 hn]at hB;have ee:n<G.N:=hi.len▸hn;exact dB.aS ee hE hN ⟨rfl,rfl,rfl⟩ (λb hb=>⟨Below.heap_alloc w _ _ (hi.gx (n:=n) ((cZ hB).trans hb)),λo h=>h⟩) (hi.cu n B hB)
  ·have jT:n=h.length:=by
    have:=(aoS.1 hB).1;simp at this;omega
   subst jT;simp at hB;subst hB;exact⟨by rw[fO];exact λhz=>apx _ (hi.z _ hz),λo hs=>by rw[fO]at hs;exact apx _ (hi.S _ _ hs),fn,tm,D,by rw[fO];exact World.alloc_heap_new w _,hl,λi u c hu hc=>(hr i u c hu hc).aS hE hN⟩
 ·have key:∀n b,bB (h++[.lp .ready p as bd cs]) (G.cG w.heap.size) n=some b->(n<G.N/\bB h G n=some b)\/(n=h.length/\b=w.heap.size):=λn b hn=>by
   by_cases aH:n<G.N
   ·exact .inl ⟨aH,by rw[<-e7 n aH];exact hn⟩
   ·by_cases e:n=h.length
    ·subst e;rw[sS]at hn;cases hn;exact .inr ⟨rfl,rfl⟩
    ·rw[wx (apo (by simp;have:=hi.len;omega))]at hn;cases hn
  rcases key m b hm with⟨_,jf⟩|⟨rfl,rfl⟩<;>rcases key n _ hn with⟨_,ee⟩|⟨rfl,hb⟩
  ·exact hi.inj m n b jf ee
  ·have:=hi.gx jf;omega
  ·have:=hi.gx ee;omega
  ·rfl
 ·have:=aD.cO (G:=G.cG w.heap.size) (w:=w.alloc (.loop {state:= .ready,pending:=none,fn:=fn,tmps:=tm,params:= #[p],assign:=as,body:=bd,defers:=D})) h.length (by simp [Gh.cG,hi.len])
  rwa [fO]at this
theorem Qq{k:Nat}{B B':an}{ob xZ:Obj}(hi:Inv G w h)(hk:h[k]?=some B)(wz:B.dC G k=some (G.aI k))(hS:∀o,¬G.S (G.aI k) o)(kC:w.heap[G.aI k]?=some ob)(hn:B'= .gone\/B'.dC G k=some (G.aI k))
 (hB:∀w',(∀b o,G.S b o->w'.cell? ⟨b,o,none⟩=w.cell? ⟨b,o,none⟩)->w'.heap[G.aI k]?=some xZ->bx G.N G w G w'->dB G w' k B'):bx G.N G w G (w.putObj (G.aI k) xZ)/\Inv G (w.putObj (G.aI k) xZ) (h.set k B'):=by
 have aH:=(ao7.1 kC).1;have hZ:¬G.Z (G.aI k):=(hi.cu k B hk).lB wz;have iT:∀b,b≠G.aI k->(w.putObj (G.aI k) xZ).heap[b]?=w.heap[b]?:=λb hb=>World.putObj_heap_other hb;have gz:∀b o,G.S b o->(w.putObj (G.aI k) xZ).cell? ⟨b,o,none⟩=w.cell? ⟨b,o,none⟩:=λb o hs=>World.cell?_of_block (iT b (λe=>hS o (e▸hs)));have hE:bx G.N G w G (w.putObj (G.aI k) xZ):=⟨by simp,λ_ _ h=>h,gz,λ_ _=>rfl,λ_ _=> .inl ⟨rfl,rfl⟩,fY rfl,λb hb=>iT b (λe=>hZ (e▸hb)),rfl,rfl,rfl,λ_ _ h=> .inl h⟩;refine⟨hE,?_⟩;have hkl:=(aoS.1 hk).1;have kN:(h.set k B')[k]?=some B':=by rw[apl hkl]
 have ej:∀m,m≠k->(h.set k B')[m]?=h[m]?:=λm hm=>by rw[apr (Ne.symm hm)]
 have kM:bB h G k=some (G.aI k):=(cZ hk).trans wz;have dQ:∀m b,bB (h.set k B') G m=some b->bB h G m=some b:=λm b hb=>by
  by_cases e:m=k
  ·subst e;rw[cZ kN]at hb;rcases hn with rfl|hn
   ·cases hb
   ·rw[hn]at hb;cases hb;exact kM
  ·unfold bB at hb ⊢;rw[ej m e]at hb;exact hb
 refine⟨by rw[List.length_set];exact hi.len,λb hb=>apg (hi.z b hb) hE.size,λb o hs=>apg (hi.S b o hs) hE.size,λm C hC=> ?_,λm m' b h1 h2=>hi.inj m m' b (dQ m b h1) (dQ m' b h2),hi.gl.aS hE⟩;by_cases e:m=k
 ·subst e;rw[kN]at hC;cases hC
  exact hB _ gz (World.putObj_heap_same aH) hE
 ·rw[ej m e]at hC;have cp:∀b,bB h G m=some b->b≠G.aI k:=λb hb eb=>e (hi.inj m k b hb (by rw[eb];exact kM));exact dB.aS (hi.lt hC) hE (ao3 _) ⟨rfl,rfl,rfl⟩ (λb hb=>⟨iT b (cp _ ((cZ hC).trans hb)),λo h=>h⟩) (hi.cu m C hC)
theorem Lt{k:Nat}{ls:LS}{p:Nat}{as bd:Code}{cs:apH AV}(hi:Inv G w h)(hk:h[k]?=some (.lp ls p as bd cs)):
 (∀o,¬G.S (G.aI k) o)/\∃(fn:FuncId)(tm:Array apL)(D:Nat),w.heap[G.aI k]?=some (.loop {state:=ls.st,pending:=ls.pd,fn:=fn,tmps:=tm,params:= #[p],assign:=as,body:=bd,defers:=D})/\tm.size=cs.length/\(∀(i:Nat)(u:apL)(c:AV),tm[i]?=some u->cs[i]?=some c->aD G w u c)/\
   ∀(Bo:LS),bx G.N G w G (w.putObj (G.aI k) (.loop {state:=Bo.st,pending:=Bo.pd,fn:=fn,tmps:=tm,params:= #[p],assign:=as,body:=bd,defers:=D}))/\Inv G (w.putObj (G.aI k) (.loop {state:=Bo.st,pending:=Bo.pd,fn:=fn,tmps:=tm,params:= #[p],assign:=as,body:=bd,defers:=D})) (h.set k (.lp Bo p as bd cs)):=by
 obtain⟨h1,h2,fn,tm,D,h3,h4,h5⟩:=hi.cu k _ hk;refine⟨h2,fn,tm,D,h3,h4,h5,λBo=>Qq hi hk rfl h2 h3 (.inr rfl) λw' hc eH hE=>⟨h1,h2,fn,tm,D,eH,h4,λi u c hu im=>(h5 i u c hu im).aS hE (ao3 _)⟩⟩
theorem ai7{k:Nat}{ls:LS}{p:Nat}{as bd:Code}{cs:apH AV}(hi:Inv G w h)(hk:h[k]?=some (.lp ls p as bd cs))(ob:Obj):bx G.N G w G (w.putObj (G.aI k) ob)/\Inv G (w.putObj (G.aI k) ob) (h.set k .gone):=by
 obtain⟨h1,h2,fn,tm,D,h3,h4,h5⟩:=hi.cu k _ hk;exact Qq hi hk rfl h2 h3 (.inl rfl) λ_ _ _ _=>trivial
theorem an0(hi:Inv G w h):bx G.N G w {G with Z:=λb=>G.Z b\/b=w.heap.size} (w.alloc (.deferred (some [])))/\Inv {G with Z:=λb=>G.Z b\/b=w.heap.size} (w.alloc (.deferred (some []))) h:=by
 have hE:bx G.N G w {G with Z:=λb=>G.Z b\/b=w.heap.size} (w.alloc (.deferred (some []))):=
  ⟨by simp,λ_ _ h=>h,λb _ h=>World.cell?_alloc_lt _ _ _ (hi.S _ _ h),λ_ _=>rfl,λ_ _=> .inl ⟨rfl,rfl⟩,⟨⟨λ_ h=> .inl h,λb h=>h.imp id λe=>Nat.le_of_eq e.symm⟩,rfl⟩,λb hb=>Below.heap_alloc w _ b (hi.z b hb),rfl,rfl,rfl,λ_ _ h=> .inl h⟩
 refine⟨hE,hi.len,λb hb=> ?_,λb o hs=>apg (hi.S b o hs) hE.size,λn B hB=> ?_,λm n b h1 h2=>hi.inj m n b (by rw[<-Kf (λb=>G.Z b\/b=w.heap.size) G.M];exact h1) (by rw[<-Kf (λb=>G.Z b\/b=w.heap.size) G.M];exact h2),hi.gl.aS hE⟩
 ·rcases hb with hb|rfl
  ·exact apg (hi.z b hb) hE.size
  ·simp
 ·exact dB.aS (hi.lt hB) hE (ao3 _) ⟨rfl,rfl,rfl⟩ (λb hb=>⟨Below.heap_alloc w _ _ (hi.gx (n:=n) ((cZ hB).trans hb)),λo h=>h⟩) (hi.cu n B hB)
end
end Go.Proofs.YtmkmibahjanejaaGreatDoor
namespace Go.Proofs.YtmkmibahjanejaaGreatDoor
open Go.RowKit Go.Lib
def AV.isNil:AV->Bool
 | .d (.v (.slice none 0 0))=>true
 |_=>false
theorem amp{x:AV}(h:x.isNil=true):x= .d (.v (.slice none 0 0)):=by
 unfold AV.isNil at h;split at h
 ·rfl
 ·cases h
def Al(P:apK)(op:Op)(ρ:Operand->AV)(h:apH an):apJ (AV×apH an):=
 match op with
 | .slice T x lo hi none=>match eE P T,vo ρ 0 lo,vo ρ 0 hi with
   |some _,some 0,some 0=>bif (ρ x).isNil then some (.d (.v (.slice none 0 0)),h)else none
   |_,_,_=>none
 | .call c=>match c.callee with
   | .builtin .cap=>match c.args.toList,c.argTypes.toList with
     |[x],[T]=>bif (ρ x).isNil&&(eE P T).isSome then some (.d (.v (.int .i64 0)),h)else none
     |_,_=>none
   | .builtin .append=>match c.args.toList,c.argTypes.toList with
     |[x,y],[T,U]=>match eE P T,rh P U,ρ y with
      |some (e,k),some _, .d (.v (.int _ (.ofNat m)))=>match iw P e,qK P e with
       |some z,some cX=>bif (ρ x).isNil&&b7 1 m&&b7 1 k&&z.cells.toList.length==k&&b7 m maxLen&&b7 (m*cX) 140737488355328 then some (.vec h.length 0 m m k,h++[.vec e k (List.replicate m (z.cells.toList.map λu=> .d (.v u)))])else none
       |_,_=>none
      |_,_,_=>none
     |_,_=>none
   |_=>none
 |_=>none
section
variable {P:apK} {r:apJ Nat} {n N0:Nat} {G:Gh} {w:apM} {a:Act} {s:St} {o:Oper} {K:St->Prop} {Q:Exit->Act->apM->Prop}
theorem ad8{x:Operand}{T:TypeId}(c:Call)(hc:c.callee= .builtin .cap)(h1:c.args.toList=[x])(h2:c.argTypes.toList=[T])(ho:o.op= .call c):
 (execOp a.eval o).run P w=((Builtin.cap_ #[T] o.type #[a.eval x]).run P w).andThen λv w'=> .ok (.value v) w':=by
 have e1:c.args= #[x]:=by rw[<-Array.toList_inj];exact h1
 have e2:c.argTypes= #[T]:=by rw[<-Array.toList_inj];exact h2
 unfold execOp;simp only[ho,resolve,hc,e1,e2,invoke,builtin,Sem.run_bind,Sem.run_pure,Result.andThen_ok,List.map_toArray,aph,List.map_nil]
theorem T3(hs:cA G w a s){x:apJ Operand}(h:vo (ev s) 0 x=some 0):BW a x 0 0:=by
 cases x with
 |none=>rfl
 |some y=>exact NJ (d:=0) hs h (Int.le_refl _)
theorem ae4{x:AV}{h':apH an}(hs:cA G w a s)(b6:N0<=G.N)(hx:Al P o.op (ev s) s.h=some (x,h'))(hK:K ((s.wh h').put o.dst x)):o.wpIn (WF r) n P a w (iQ N0 G w K) Q:=by
 have c6:=hs.ev;have nil:∀{y:Operand},(ev s y).isNil=true->a.eval y= .slice none 0 0:=fun{y} h=>by
  have:=c6 y;rw[amp h]at this;exact this.val
 unfold Al at hx;split at hx
 next T y lo hi ho=>
  split at hx
  ·next ek e1 e2 e3=>
   obtain⟨hb,he⟩:=lZ hx;cases he
   obtain⟨eJ,fF⟩:=jO e1;refine fe (by rw[ho];simp) hs b6 (v:= .slice none 0 0) ?_ (.d (.v _)) hK;have jS:=CK (P:=P) (Bu:=true) (T3 hs e2) (T3 hs e3) (ao3 _) (ao3 0) w;unfold execOp;simp [ho,nil hb,Instr.sliceAt,Instr.slice,run_underlying eJ,jS,mB fF]
  ·cases hx
 next c ho=>
  split at hx
  ·next hc=>
   split at hx
   ·next y T e1 e2=>
    obtain⟨hb,he⟩:=lZ hx;cases he
    rw[aoU]at hb;cases hT:eE P T with
    |none=>rw[hT]at hb;cases hb.2
    |some ek=>
     obtain⟨eJ,fF⟩:=jO hT;refine fe (by rw[ho];simp) hs b6 (v:= .int .i64 0) ?_ (.d (.v _)) hK;rw[ad8 c hc e1 e2 ho,nil hb.1];simp [Builtin.cap_,run_underlying eJ,goInt]
   ·cases hx
  ·next hc=>
   split at hx
   ·next y z T U e1 e2=>
    split at hx
    ·next e k kn kq m f1 f2 f3=>
     split at hx
     ·next zz cX g1 g2=>
      obtain⟨hb,he⟩:=lZ hx;cases he
      simp only[aoU,dI,beq_iff_eq]at hb;obtain⟨⟨⟨⟨⟨iL,jS⟩,pL⟩,qJ⟩,Ot⟩,Pn⟩:=hb;clear hx;obtain⟨eJ,fF⟩:=jO f1;obtain⟨i,kS,jN⟩:∃i,P.info? e=some i/\i.size=k:=by
       unfold fQ at fF;cases hq:P.info? e with
       |none=>rw[hq]at fF;cases fF
       |some i=>rw[hq]at fF;exact⟨i,rfl,apb fF⟩
      have hz:i.zero=some zz:=by unfold iw at g1;rw[kS]at g1;exact g1
      have hbt:i.bytes=cX:=by unfold qK at g2;rw[kS]at g2;exact apb g2
      subst jN;subst hbt;have hy:=c6 z;rw[f3]at hy;have ey:a.eval z= .int kq (m:Nat):=hy.val;have db:=run_append_nil_zeros (P:=P) w T U o.type e i zz kq kn eJ (Iw f2) kS hz m (by omega) (by omega) (by have:=Ot;simp [maxLen]at this;omega) (by omega);have jF:zz.cells.size=i.size:=by rw[<-apq];exact qJ
      have fX:(List.replicate m (zz.cells.toList.map λu=>AV.d (.v u))).length=m:=apt;obtain⟨cap,j7⟩:∃cap,cap=grownCap w m 0 e:=⟨_,rfl⟩;have jM:m<=cap:=by rw[j7];exact grownCap_ge _ _ _ _
      have hle:cap<=maxLen:=by rw[j7];exact grownCap_le_maxLen _ _ _ _ Ot
      rw[<-j7]at db;obtain⟨cur,j9⟩:∃cur,cur=Builtin.zeroCells zz.cells m++Builtin.zeroCells zz.cells (cap-m):=⟨_,rfl⟩;rw[<-j9]at db;have gd:cur.size=cap*i.size:=by
        rw[j9,Array.size_append,size_zeroCells,size_zeroCells,jF,<-Nat.add_mul]
        congr 1
        omega
      obtain⟨G',q1,q2,q3,q4⟩:=P7 (e:=e) (k:=i.size) (cap:=cap) (cs:=List.replicate m (zz.cells.toList.map λu=>AV.d (.v u))) (cur:=cur) hs.inv (by rw[fX];exact jM) hle gd (λc hc=>by
       rw[List.eq_of_mem_replicate hc,aoX];exact qJ) w.drew ⟨rfl,rfl,rfl,rfl⟩ (λa' b c x u hc hx hu=>by
       have:=List.eq_of_mem_replicate (ao5 hc);subst this;rw[aoZ]at hx;cases hq:zz.cells.toList[b]? with
       |none=>rw[hq]at hx;cases hx
       |some y=>
        rw[hq]at hx;cases hx
        have ji:b<i.size:=by rw[<-qJ];exact(aoS.1 hq).1
        have Pq:a'<m:=by have:=(aoS.1 hc).1;rwa [fX]at this
        have aH:a'*i.size+b<m*i.size:=nu Pq ji;rw[j9,Array.getElem?_append_left (by rw[size_zeroCells,jF];exact aH)]at hu;unfold Builtin.zeroCells at hu;rw[Array.getElem?_map,Array.getElem?_range,jF,if_pos aH]at hu;simp only[Option.map_some,Option.some.injEq]at hu;rw[(GQ (i:=a') ji).2]at hu;have uq:zz.cells[b]?=some y:=by rw[<-apf];exact hq
        rw[getElem!_pos zz.cells b (by rw[jF];exact ji)]at hu;rw[ape (by rw[jF];exact ji)]at uq;cases uq
        subst hu;exact .d (.v _))
      rw[fX]at q4;refine mA (by rw[ho];simp) hs b6 (by rw[E8 c hc e1 e2 ho,nil iL,ey,db];rfl) q1 q2 q3 (q4 m (ao3 _)) hK
     ·cases hx
    ·cases hx
   ·cases hx
  ·cases hx
 next=>cases hx
end
end Go.Proofs.YtmkmibahjanejaaGreatDoor
namespace Go.Proofs.YtmkmibahjanejaaGreatDoor
open Go.RowKit
section
variable {G:Gh} {w:apM} {h:apH an}
theorem amQ(hi:Inv G w h){b mb c:Nat}(hr:aD G w (.map (some b)) (.mp mb)):bx G.N G w (G.cG w.heap.size) (w.alloc (.mapIter (some b) c #[] c))/\Inv (G.cG w.heap.size) (w.alloc (.mapIter (some b) c #[] c)) (h++[.it (c,[]) [.mp mb]])/\aD (G.cG w.heap.size) (w.alloc (.mapIter (some b) c #[] c)) (.pointer (some ⟨w.heap.size,0,none⟩)) (.ptr h.length 0):=by
 have hE:=uk G w hi.z hi.S (.mapIter (some b) c #[] c);have hN:G.N<=(G.cG w.heap.size).N:=Nat.le_succ _;have fO:(G.cG w.heap.size).aI h.length=w.heap.size:=by simp [Gh.cG,hi.len]
 have lg:∀n(B:an),n<G.N->B.dC (G.cG w.heap.size) n=B.dC G n:=λn B hn=>by
  cases B<;>simp [an.dC,Gh.cG,Nat.ne_of_lt hn]
 have e7:∀n,n<G.N->bB (h++[.it (c,[]) [.mp mb]]) (G.cG w.heap.size) n=bB h G n:=λn hn=>by
  have aH:n<h.length:=by rw[hi.len];exact hn
  unfold bB;rw[ao2 aH,aoW aH];exact lg n _ hn
 have sS:bB (h++[.it (c,[]) [.mp mb]]) (G.cG w.heap.size) h.length=some w.heap.size:=by
  rw[cZ (B:= .it (c,[]) [.mp mb]) (by simp)];exact congrArg some fO
 refine⟨hE,⟨by simp [Gh.cG,hi.len],λb hb=>apg (hi.z b hb) hE.size,λb o hs=>apg (hi.S b o hs) hE.size,λn B hB=> ?_,λm n b hm hn=> ?_,hi.gl.aS hE⟩,?_⟩
 ·by_cases hn:n<h.length
  ·rw[ao2 hn]at hB;have ee:n<G.N:=hi.len▸hn;exact dB.aS ee hE hN ⟨rfl,rfl,rfl⟩ (λb hb=>⟨Below.heap_alloc w _ _ (hi.gx (n:=n) ((cZ hB).trans hb)),λo h=>h⟩) (hi.cu n B hB)
  ·have jT:n=h.length:=by
    have:=(aoS.1 hB).1;simp at this;omega
   subst jT;simp at hB;subst hB;exact⟨by rw[fO];exact λhz=>apx _ (hi.z _ hz),λo hs=>by rw[fO]at hs;exact apx _ (hi.S _ _ hs),b, #[.map (some b)],(),by rw[fO];exact World.alloc_heap_new w _,⟨rfl,rfl⟩,λi u c hu hc=>by
    match i with
    |0=>cases hu;cases hc;exact hr.aS hE hN
    |i+1=>simp at hu⟩
 ·have key:∀n b,bB (h++[.it (c,[]) [.mp mb]]) (G.cG w.heap.size) n=some b->(n<G.N/\bB h G n=some b)\/(n=h.length/\b=w.heap.size):=λn b hn=>by
   by_cases aH:n<G.N
   ·exact .inl ⟨aH,by rw[<-e7 n aH];exact hn⟩
   ·by_cases e:n=h.length
    ·subst e;rw[sS]at hn;cases hn;exact .inr ⟨rfl,rfl⟩
    ·rw[wx (apo (by simp;have:=hi.len;omega))]at hn;cases hn
  rcases key m b hm with⟨_,jf⟩|⟨rfl,rfl⟩<;>rcases key n _ hn with⟨_,ee⟩|⟨rfl,hb⟩
  ·exact hi.inj m n b jf ee
  ·have:=hi.gx jf;omega
  ·have:=hi.gx ee;omega
  ·rfl
 ·have:=aD.ptr (G:=G.cG w.heap.size) (w:=w.alloc (.mapIter (some b) c #[] c)) h.length 0 (by simp [Gh.cG,hi.len])
  rwa [fO]at this
theorem Zm(hi:Inv G w h)(e:TypeId):Inv (G.cG w.heap.size) (w.alloc (.cells #[.pointer none, .slice none 0 0] e)) (h++[.aT e [.d (.v (.slice none 0 0))]])/\aD (G.cG w.heap.size) (w.alloc (.cells #[.pointer none, .slice none 0 0] e)) (.pointer (some ⟨w.heap.size,0,none⟩)) (.ptr h.length 0):=by
 have hE:=uk G w hi.z hi.S (.cells #[.pointer none, .slice none 0 0] e);have hN:G.N<=(G.cG w.heap.size).N:=Nat.le_succ _;have fO:(G.cG w.heap.size).aI h.length=w.heap.size:=by simp [Gh.cG,hi.len]
 have lg:∀n(B:an),n<G.N->B.dC (G.cG w.heap.size) n=B.dC G n:=λn B hn=>by
  cases B<;>simp [an.dC,Gh.cG,Nat.ne_of_lt hn]
 have e7:∀n,n<G.N->bB (h++[.aT e [.d (.v (.slice none 0 0))]]) (G.cG w.heap.size) n=bB h G n:=λn hn=>by
  have aH:n<h.length:=by rw[hi.len];exact hn
  unfold bB;rw[ao2 aH,aoW aH];exact lg n _ hn
 have sS:bB (h++[.aT e [.d (.v (.slice none 0 0))]]) (G.cG w.heap.size) h.length=some w.heap.size:=by
  rw[cZ (B:= .aT e [.d (.v (.slice none 0 0))]) (by simp)];exact congrArg some fO
 refine⟨⟨by simp [Gh.cG,hi.len],λb hb=>apg (hi.z b hb) hE.size,λb o hs=>apg (hi.S b o hs) hE.size,λn B hB=> ?_,λm n b hm hn=> ?_,hi.gl.aS hE⟩,?_⟩
 ·by_cases hn:n<h.length
  ·rw[ao2 hn]at hB;have ee:n<G.N:=hi.len▸hn;exact dB.aS ee hE hN ⟨rfl,rfl,rfl⟩ (λb hb=>⟨Below.heap_alloc w _ _ (hi.gx (n:=n) ((cZ hB).trans hb)),λo h=>h⟩) (hi.cu n B hB)
  ·have jT:n=h.length:=by
    have:=(aoS.1 hB).1;simp at this;omega
   subst jT;simp at hB;subst hB;exact⟨by rw[fO];exact λhz=>apx _ (hi.z _ hz),λo hs=>by rw[fO]at hs;exact apx _ (hi.S _ _ hs),(), #[.slice none 0 0], .pointer none,by rw[fO];exact World.alloc_heap_new w _,⟨rfl, .inl rfl,λv hv=>Or.inl (by simpa using hv)⟩,λi u c hu hc=>by
    match i with
    |0=>cases hu;cases hc;exact .d (.v _)
    |i+1=>simp at hu⟩
 ·have key:∀n b,bB (h++[.aT e [.d (.v (.slice none 0 0))]]) (G.cG w.heap.size) n=some b->(n<G.N/\bB h G n=some b)\/(n=h.length/\b=w.heap.size):=λn b hn=>by
   by_cases aH:n<G.N
   ·exact .inl ⟨aH,by rw[<-e7 n aH];exact hn⟩
   ·by_cases e:n=h.length
    ·subst e;rw[sS]at hn;cases hn;exact .inr ⟨rfl,rfl⟩
    ·rw[wx (apo (by simp;have:=hi.len;omega))]at hn;cases hn
  rcases key m b hm with⟨_,jf⟩|⟨rfl,rfl⟩<;>rcases key n _ hn with⟨_,ee⟩|⟨rfl,hb⟩
  ·exact hi.inj m n b jf ee
  ·have:=hi.gx jf;omega
  ·have:=hi.gx ee;omega
  ·rfl
 ·have:=aD.ptr (G:=G.cG w.heap.size) (w:=w.alloc (.cells #[.pointer none, .slice none 0 0] e)) h.length 0 (by simp [Gh.cG,hi.len])
  rwa [fO]at this
theorem Ko{n mb:Nat}{sn:Nat×apH Nat}(hi:Inv G w h)(hb:h[n]?=some (.it sn [.mp mb])):(∀o,¬G.S (G.aI n) o)/\w.heap[G.aI n]?=some (.mapIter (some (G.aI mb)) sn.1 sn.2.toArray sn.1)/\aD G w (.map (some (G.aI mb))) (.mp mb):=by
 obtain⟨h1,h2,fn,vs,_,h3,⟨_,h4⟩,h5⟩:=hi.cu n _ hb;have:=h5 0 (.map (some fn)) (.mp mb) (by rw[h4];rfl) rfl;cases this with
 |mp _ aH=>exact⟨h2,h3, .mp mb aH⟩
theorem aiy(hi:Inv G w h):bx G.N G w G w.drew/\Inv G w.drew h:=by
 have hE:bx G.N G w G w.drew:=⟨ao3 _,λ_ _ h=>h,λ_ _ _=>rfl,λ_ _=>rfl,λ_ _=> .inl ⟨rfl,rfl⟩,fY rfl,λ_ _=>rfl,rfl,rfl,rfl,λ_ _ h=> .inl h⟩;exact⟨hE,hi.len,hi.z,hi.S,λn B hB=>dB.aS (hi.lt hB) hE (ao3 _) ⟨rfl,rfl,rfl⟩ (λ_ _=>⟨rfl,λ_ h=>h⟩) (hi.cu n B hB),hi.inj,hi.gl.aS hE⟩
end
def ru(P:apK)(o:Oper)(K:St->Prop)(s:St):Prop:=
 match o.op with
 | .range T m=>match tY P T,ev s m with
   |some _, .mp mb=>match s.h[mb]? with
    |some (.fR kv)=>K ((s.wh (s.h++[.it (kv.length,[]) [.mp mb]])).put o.dst (.ptr s.h.length 0))
    |_=>False
   |_,_=>False
 | .next it false=>match ev s it with
   | .ptr m 0=>match s.h[m]? with
     |some (.it sn [.mp mb])=>match s.h[mb]? with
      |some (.fR kv)=>sn.1=kv.length/\(∀b p,kv[b]?=some p->b ∉ sn.2->K ((s.wh (s.h.set m (.it (sn.1,sn.2++[b]) [.mp mb]))).put o.dst (.bA [.d (.v (.bool true)), .d (.v (.string p.1)), .d p.2])))/\((∀b,b<kv.length->b∈sn.2)->K (s.put o.dst (.bA [.d (.v (.bool false))])))
      |_=>False
     |_=>False
   |_=>False
 | .entry it=>match ev s it with
   | .ptr m 0=>match s.h[m]? with
     |some (.it sn [.mp mb])=>match s.h[mb]? with
      |some (.fR kv)=>sn.1=kv.length/\∃l b p,sn.2=l++[b]/\kv[b]?=some p/\K (s.put o.dst (.bA [.d (.v (.string p.1)), .d p.2]))
      |_=>False
     |_=>False
   |_=>False
 | .alloc e=>match iw P e with
   |some z=>z.cells= #[.pointer none, .slice none 0 0]/\K ((s.wh (s.h++[.aT e [.d (.v (.slice none 0 0))]])).put o.dst (.ptr s.h.length 0))
   |none=>False
 | .box e x=>ev s x= .agg [.d (.v (.pointer none)), .d (.v (.slice none 0 0))]/\K ((s.wh (s.h++[.aT e [.d (.v (.slice none 0 0))]])).put o.dst (.ptr s.h.length 0))
 |_=>False
section
variable {P:apK} {r:apJ Nat} {n N0:Nat} {G:Gh} {w:apM} {a:Act} {s:St} {o:Oper} {K:St->Prop} {Q:Exit->Act->apM->Prop}
theorem MS{mb:Nat}{kv:apH (apI×D)}(hi:Inv G w s.h)(hb:s.h[mb]?=some (.fR kv)):∃es:Array MapEntry,w.heap[G.aI mb]?=some (.map es kv.length)/\vl G.S w es kv.length kv:=by
 obtain⟨_,_,es,c,h1,h2⟩:=hi.cu mb _ hb;have:c=kv.length:=h2.ok.A5.trans h2.all.symm;subst this;exact⟨es,h1,h2⟩
theorem vl.mem{S:Nat->Nat->Prop}{es:Array MapEntry}{c:Nat}{kv:apH (apI×D)}(h:vl S w es c kv){e:MapEntry}(he:e∈es.toList):es[e.born]?=some e/\e.born<kv.length:=by
 obtain⟨i,hi,rfl⟩:=List.getElem_of_mem he;have hs:es[i]?=some es.toList[i]:=by simp
 have hb:=h.ok.born i _ hs;rw[hb];exact⟨hs,by rw[h.all];simpa using hi⟩
theorem anZ(hs:cA G w a s)(b6:N0<=G.N)(hx:ru P o K s):o.wpIn (WF r) n P a w (iQ N0 G w K) Q:=by
 have c6:=hs.ev;have ptr:∀{y:Operand}{n:Nat},ev s y= .ptr n 0->a.eval y= .pointer (some ⟨G.aI n,0,none⟩):=fun{y n} h=>by
  have:=c6 y;rw[h]at this;generalize a.eval y=u at this;cases this;rfl
 unfold ru at hx;split at hx
 next T m ho=>
  split at hx
  ·next ke mb e1 e2=>
   split at hx
   ·next kv hb=>
    obtain⟨es,h1,h2⟩:=MS hs.inv hb;have hv:=c6 m;rw[e2]at hv;have ea:a.eval m= .map (some (G.aI mb)):=by
     generalize a.eval m=u at hv;cases hv;rfl
    rw[ea]at hv;obtain⟨i1,i2,i3⟩:=amQ (c:=kv.length) hs.inv hv;obtain⟨k0,el⟩:=ke;refine mA (by rw[ho];simp) hs b6 (v:= .pointer (some ⟨w.heap.size,0,none⟩)) (w':=w.alloc (.mapIter (some (G.aI mb)) kv.length #[] kv.length)) ?_ i1 (Nat.le_succ _) i2 i3 hx;unfold execOp;simp [ho,ea,Instr.range,run_underlying (Gy e1),MapKept.run_getObj_map h1,Result.andThen]
   ·cases hx
  ·cases hx
 next it ho=>
  split at hx
  ·next m e1=>
   split at hx
   ·next sn mb hn=>
    split at hx
    ·next kv hb=>
     obtain⟨hc,hK1,hK2⟩:=hx;obtain⟨es,h1,h2⟩:=MS hs.inv hb;obtain⟨t1,t2,t3⟩:=Ko hs.inv hn;rw[hc]at t2;have hr:=run_next_at (P:=P) w o.type _ _ _ _ _ _ _ t2 h1 (λx hx=>(h2.mem hx).2) (ao3 _);rcases hr with⟨h0,hr⟩|⟨e',ub,w1,Ho,hr⟩
     ·refine fe (by rw[ho];simp) hs b6 (v:= .tuple #[.bool false]) ?_ (.bA _ _ rfl λi u c hu hc=> ?_) (hK2 λb fj=> ?_)
      ·unfold execOp;simp [ho,ptr e1,hr]
      ·match i with
       |0=>cases hu;cases hc;exact .d (.v _)
       |i+1=>simp at hu
      ·have aH:b<es.size:=by rw[<-h2.all];exact fj
       have L1:es[b]?=some es[b]:=ape aH;have DG:=h2.ok.born b _ L1;have Qn:leftOf es sn.2.toArray= #[]:=Array.eq_empty_of_size_eq_zero h0;unfold leftOf at Qn;rw[Array.filter_eq_empty_iff]at Qn;have:=Qn es[b] (Array.getElem_mem aH);rw[DG]at this
       simpa using this
     ·have hm:e'∈es.toList/\e'.born ∉ sn.2:=by
       unfold leftOf at ub;simp only[Array.toList_filter,List.mem_filter]at ub;exact⟨ub.1,by simpa using ub.2⟩
      obtain⟨q1,q2⟩:=h2.mem hm.1;obtain⟨p,p1,p2,p3⟩:=h2.ord _ _ q1;have hK:=hK1 e'.born p p1 hm.2;obtain⟨hX,oe⟩:bx G.N G w G w1/\Inv G w1 s.h:=by
       rcases Ho with rfl|rfl
       ·exact⟨bx.refl _ _ _,hs.inv⟩
       ·exact aiy hs.inv
      obtain⟨t1',t2',_⟩:=Ko oe hn;obtain⟨z1,z2,z3,z4,z5,z6,z7⟩:=oe.cu m _ hn;obtain⟨gW,sA⟩:=Qq (B':= .it (sn.1,sn.2++[e'.born]) [.mp mb]) (xZ:= .mapIter (some (G.aI mb)) kv.length (sn.2.toArray.push e'.born) kv.length) oe hn rfl t1' t2' (.inr rfl) λw' im eH hE=>by
       have hvv:=(Ko oe hn).2.2;refine⟨z1,z2,G.aI mb, #[.map (some (G.aI mb))],(),?_,⟨rfl,rfl⟩,λi u c hu hc=> ?_⟩
       ·rw[eH];simp [hc]
       ·match i with
        |0=>cases hu;cases hc;exact hvv.aS hE (ao3 _)
        |i+1=>simp at hu
      refine mA (by rw[ho];simp) hs b6 (v:= .tuple #[.bool true,e'.key,e'.val]) ?_ (hX.trans gW) (ao3 _) sA (.bA _ _ rfl λi u c hu hc=> ?_) hK
      ·unfold execOp;simp only[ho,ptr e1];simp [hr];rfl
      ·match i with
       |0=>cases hu;cases hc;exact .d (.v _)
       |1=>cases hu;cases hc;rw[p2];exact .d (.v _)
       |2=>cases hu;cases hc;exact .d (p3.aS (hX.trans gW).S (hX.trans gW).cell)
       |i+3=>simp at hu
    ·cases hx
   ·cases hx
  ·cases hx
 next it ho=>
  split at hx
  ·next m e1=>
   split at hx
   ·next sn mb hn=>
    split at hx
    ·next kv hb=>
     obtain⟨hc,l,b,p,hl,hp,hK⟩:=hx;obtain⟨es,h1,h2⟩:=MS hs.inv hb;obtain⟨t1,t2,t3⟩:=Ko hs.inv hn;have aH:b<es.size:=by rw[<-h2.all];exact(aoS.1 hp).1
     have L1:es[b]?=some es[b]:=ape aH;have DG:=h2.ok.born b _ L1;obtain⟨p',p1,p2,p3⟩:=h2.ord _ _ L1;rw[hp]at p1;cases p1
     have fW:(es.toList.map (·.born)).Nodup:=by
      have e:es.toList.map (·.born)=List.range es.size:=by
       apply List.ext_getElem?;intro i;rw[aoZ,apf];by_cases hi:i<es.size
       ·rw[ape hi,Option.map_some,h2.ok.born i _ (ape hi),List.getElem?_range hi]
       ·rw[Array.getElem?_eq_none (by omega),apo (by simp;omega)];rfl
      rw[e];exact List.nodup_range
     have hr:=run_entry_at (P:=P) w (G.aI m) (G.aI mb) sn.1 l.toArray es kv.length es[b] (by rw[t2,hl,DG,hc];simp) h1 (by simp) fW;refine fe (by rw[ho];simp) hs b6 (v:= .tuple #[es[b].key,es[b].val]) ?_ (.bA _ _ rfl λi u c hu hc=> ?_) hK
     ·unfold execOp;simp [ho,ptr e1,hr]
     ·match i with
      |0=>cases hu;cases hc;rw[p2];exact .d (.v _)
      |1=>cases hu;cases hc;exact .d p3
      |i+2=>simp at hu
    ·cases hx
   ·cases hx
  ·cases hx
 next e ho=>
  split at hx
  ·next z hz=>
   obtain⟨hc,hK⟩:=hx;obtain⟨i1,i2⟩:=Zm hs.inv e;exact mA (by rw[ho];simp) hs b6 (by unfold execOp;simp [ho,Instr.alloc,En hz,newVar,newRow,hc]) (uk G w hs.inv.z hs.inv.S _) (Nat.le_succ _) i1 i2 hK
  ·cases hx
 next e x ho=>
  obtain⟨hx1,hK⟩:=hx;have hc:(a.eval x).cells= #[.pointer none, .slice none 0 0]:=by
   have hv:=c6 x;rw[hx1]at hv;generalize a.eval x=u at hv;cases hv with|agg vs _ hl hr=>
   obtain⟨l⟩:=vs
   match l,hl with
   |[p,q],_=>
    have h0:=(hr 0 p _ rfl rfl).val;have h1:=(hr 1 q _ rfl rfl).val;subst h0;subst h1;rfl
  obtain⟨i1,i2⟩:=Zm hs.inv e;exact mA (by rw[ho];simp) hs b6 (by unfold execOp;simp [ho,Instr.box,newVar,newRow,hc]) (uk G w hs.inv.z hs.inv.S _) (Nat.le_succ _) i1 i2 hK
 ·cases hx
end
def aGuard(ops:Array Oper)(o:Oper)(s:St)(yes no:Prop):Prop:=
 match o.guard with
 |none=>yes
 |some (j,want)=>match (ops[j]?).bind (·.dst)with
  |some d=>match bp s.t d with
   | .d (.v (.bool b))=>(b=want->yes)/\(b= !want->no)
   | .d (.v (.tuple _))=>no
   |_=>False
  |none=>False
structure bj(P:Program)(r:Option Nat)(N0:Nat)(c:Code)(Q:Exit->St->Prop)(s:St):Prop where
 run:∀(G:Gh)(w:World)(a:Act)(n:Nat),cA G w a s->N0<=G.N->c.wpIn (WF r) n P (λe a' w'=>iQ N0 G w (Q e) a' w') a w
def gp(K:St->Prop)(Q:Exit->St->Prop):Exit->St->Prop
 | .normal,s=>K s
 |e,s=>Q e s
def mv:Nat->apH AV->apH (Nat×AV)
 |_,[]=>[]
 |k,x::l=>(k,x)::mv (k+1) l
theorem Sa:∀(l:apH AV)(k i:Nat),bp (mv k l) i=if k<=i then(l[i-k]?).getD .dead else .dead
 |[],k,i=>by simp [mv,bp]
 |x::l,k,i=>by
  rw[mv,mX,Sa l (k+1) i];by_cases h:i=k
  ·subst h;simp
  ·rw[if_neg h];by_cases h2:k<=i
   ·rw[if_pos (by omega),if_pos h2,show i-k=i-(k+1)+1 by omega,apu]
   ·rw[if_neg (by omega),if_neg h2]
def YS(P:apK)(k:Nat)(x:AV)(h:apH an)(C:Bool->apH an->Prop):Prop:=
 ∀(G:Gh)(w:apM)(v:apL)(r:apJ Nat)(n:Nat),Inv G w h->aD G w v x->k<G.N/\∃(p:Nat)(as bd:Code)(fn:FuncId)(tm:Array apL)(D:Nat),
  w.heap[G.aI k]?=some (.loop {state:= .ready,pending:=none,fn:=fn,tmps:=tm,params:= #[p],assign:=as,body:=bd,defers:=D})/\
  RoundIn (WF r) n P (G.aI k) fn (tm.setIfInBounds p v) as bd w λe w'=>∃(b:Bool)(G':Gh)(h':apH an),e= .returned (.bool b)/\bx G.N G w G' w'/\G.N<=G'.N/\Inv G' w' h'/\C b h'
def ai3(C:Bool->apH an->Prop)(k:Nat):Exit->St->Prop
 | .normal,s2=>∃p as bd kA,s2.h[k]?=some (.lp .busy p as bd kA)/\C true (s2.h.set k (.lp .ready p as bd kA))
 | .ret,s2=>∃p as bd kA,s2.h[k]?=some (.lp .busy p as bd kA)/\C false (s2.h.set k (.lp (.done .ret) p as bd kA))
 | .exit i,s2=>∃p as bd kA,s2.h[k]?=some (.lp .busy p as bd kA)/\C false (s2.h.set k (.lp (.done (.exit i)) p as bd kA))
 |_,_=>False
def Ll(P:apK)(o:Oper)(K:St->Prop)(s:St):Prop:=
 match o.op with
 | .call c=>match c.callee with
   | .value f=>match ev s f,c.args.toList.map (ev s)with
     | .cO k,[x]=>YS P k x s.h λb h'=>K ((s.wh h').put o.dst (.d (.v (.bool b))))
     |_,_=>False
   |_=>False
 |_=>False
def anh(P:apK)(o:Oper)(K:St->Prop)(s:St):Prop:=∃x h',Al P o.op (ev s) s.h=some (x,h')/\K ((s.wh h').put o.dst x)
def nE(P:apK)(o:Oper)(K:St->Prop)(s:St):Prop:=He P o K s\/Gf P o K s\/rC P o K s\/Ll P o K s\/anh P o K s\/ru P o K s
def iU(P:apK)(ops:Array Oper):apH Oper->(St->Prop)->St->Prop
 |[],K,s=>K s
 |o::rest,K,s=>aGuard ops o s (nE P o (iU P ops rest K) s) (iU P ops rest K (s.put o.dst (.d (.v undef))))
def qX(id:Nat)(Q:Exit->St->Prop):Exit->St->Prop
 | .exit rQ,s=>bif rQ==id then Q .normal s else Q (.exit rQ) s
 |e,s=>Q e s
section
variable {P:apK} {r:apJ Nat} {n N0:Nat} {G:Gh} {w:apM} {a:Act} {s:St} {o:Oper} {Q:Exit->St->Prop}
theorem iQ.mono{K K':St->Prop}(h:∀s,K s->K' s){a':Act}{w':apM}(hn:iQ N0 G w K a' w'):iQ N0 G w K' a' w':=
 let ⟨G',s',h1,h2,h3,h4⟩:=hn;⟨G',s',h1,h2,h3,h _ h4⟩
theorem iQ.trans{K:St->Prop}{G1:Gh}{w1:apM}(hE:bx N0 G w G1 w1){a':Act}{w':apM}(hn:iQ N0 G1 w1 K a' w'):iQ N0 G w K a' w':=
 let ⟨G',s',h1,h2,h3,h4⟩:=hn;⟨G',s',hE.trans h1,h2,h3,h4⟩
theorem bj.mono{c:Code}{Q':Exit->St->Prop}(h:bj P r N0 c Q s)(hq:∀e s,Q e s->Q' e s):bj P r N0 c Q' s:=
 ⟨λG w a n hs hN=>wpIn_mono (h.run G w a n hs hN) λe _ _ hn=>hn.mono (hq e)⟩
theorem N2{ops:Array Oper}{yes no:Prop}(hs:cA G w a s)(h:aGuard ops o s yes no):if Region.wanted o (yielded ops a.tmps)then yes else no:=by
 unfold aGuard at h;split at h
 ·rename_i hg
  rw[if_pos (by simp [Region.wanted,hg])];exact h
 ·rename_i j want hg
  split at h
  ·rename_i d hd
   have hv:=hs.tmp d;split at h
   ·rename_i b hb
    rw[hb]at hv;have e:=hv.bool;have hy:yielded ops a.tmps j=some b:=by
      unfold yielded;rw[hd,aoR];by_cases aH:d<a.tmps.size
      ·rw[ape aH];have:a.tmps.getD d undef=a.tmps[d]:=by simp [Array.getD,aH]
       rw[this]at e;rw[e]
      ·have:a.tmps.getD d undef=undef:=by simp [Array.getD,aH]
       rw[this]at e;cases e
    by_cases xr:b=want
    ·rw[if_pos (by simp [Region.wanted,hg,hy,xr])];exact h.1 xr
    ·rw[if_neg (by simp [Region.wanted,hg,hy,xr])];exact h.2 (by cases b<;>cases want<;>simp_all)
   ·rename_i vs hb
    rw[hb]at hv;have e:=hv.val;have hy:yielded ops a.tmps j=none:=by
      unfold yielded;rw[hd,aoR];by_cases aH:d<a.tmps.size
      ·rw[ape aH];have:a.tmps.getD d undef=a.tmps[d]:=by simp [Array.getD,aH]
       rw[this]at e;rw[e]
      ·rw[Array.getElem?_eq_none (Nat.le_of_not_lt aH)]
    rw[if_neg (by simp [Region.wanted,hg,hy])];exact h
   ·exact h.elim
  ·exact h.elim
theorem YS.mono{k:Nat}{x:AV}{h:apH an}{C C':Bool->apH an->Prop}(hy:YS P k x h C)(hc:∀b h',C b h'->C' b h'):YS P k x h C':=λG w v r n hi hv=>
 let ⟨h0,p,as,bd,fn,tm,D,h1,h2⟩:=hy G w v r n hi hv
 ⟨h0,p,as,bd,fn,tm,D,h1,h2.mono λ_ _ ⟨b,G',h',a1,a2,a3,a4,a5⟩=>⟨b,G',h',a1,a2,a3,a4,hc _ _ a5⟩⟩
theorem afU{k:Nat}{x:AV}{h:apH an}{C:Bool->apH an->Prop}
 (hA:∃p as bd cs,h[k]?=some (.lp .ready p as bd cs)/\p<cs.length/\∀(l:Nat),bj P (some l) h.length as (gp (λs1=>∃p1 su uo yU,s1.h[k]?=some (.lp .ready p1 su uo yU)/\bj P (some l) h.length bd (ai3 C k) ⟨s1.n,s1.t,s1.h.set k (.lp .busy p1 su uo yU)⟩) (λ_ _=>False)) ⟨cs.length,(p,x)::mv 0 cs,h⟩):YS P k x h C:=by
 intro G w v r n hi SM;obtain⟨p,as,bd,cs,hk,hp,hA⟩:=hA;have zC:k<G.N:=hi.lt hk;obtain⟨hS,fn,tm,D,h3,h4,h5,aoI⟩:=Lt hi hk;refine⟨zC,p,as,bd,fn,tm,D,h3,?_⟩;refine roundIn_of_wpIn (F:=WF r) trivial ?_;have Pu:cA G w {tmps:=tm.setIfInBounds p v,defers:=[]} ⟨cs.length,(p,x)::mv 0 cs,h⟩:=by
  refine⟨by simp [h4],λi=> ?_,hi,se.nil _ _⟩;show aD _ _ _ (bp ((p,x)::mv 0 cs) i);rw[mX];split
  ·next e=>
   subst e;have:(tm.setIfInBounds i v).getD i undef=v:=by simp [Array.getD,h4,hp]
   rw[this];exact SM
  ·next e=>
   rw[Sa];simp only[Nat.zero_le,if_true,Nat.sub_zero];cases im:cs[i]? with
   |none=>exact .dead _
   |some y=>
    have aH:i<tm.size:=by rw[h4];exact(aoS.1 im).1
    have:(tm.setIfInBounds p v).getD i undef=tm[i]:=by
     simp [Array.getD,aH,Ne.symm e]
    rw[this];exact h5 i _ y (ape aH) im
 have JM:=hA (G.aI k);rw[hi.len]at JM;refine wpIn_mono (JM.run G w _ n Pu (ao3 _)) λe1 a1 w1 wA=> ?_;obtain⟨G1,s1,hX,gu,e8,zW⟩:=wA;cases e1 with
 |normal=>
  obtain⟨p1,su,uo,yU,vF,iL⟩:=zW;have jb:G1.aI k=G.aI k:=hX.aI k zC;obtain⟨_,fn1,tm1,D1,g3,g4,g5,Y6⟩:=Lt e8.inv vF;obtain⟨gE,gI⟩:=Y6 .busy;rw[jb]at g3 gE gI;refine⟨_,run_beginRound g3 rfl,?_⟩;have Bc:cA G1 (w1.putObj (G.aI k) (.loop {state:= .busy,pending:=none,fn:=fn1,tmps:=tm1,params:= #[p1],assign:=su,body:=uo,defers:=D1})) a1 ⟨s1.n,s1.t,s1.h.set k (.lp .busy p1 su uo yU)⟩:=e8.move gE (ao3 _) gI;refine wpIn_mono (iL.run G1 _ a1 n Bc gu) λe3 a3 w3 hn3=> ?_;obtain⟨G3,s3,CI,UJ,hs3,qP⟩:=hn3;have fin:∀(jump:apJ Code)(ls:LS)(b:Bool)(p:Nat)(as bd:Code)(kA:apH AV),s3.h[k]?=some (.lp .busy p as bd kA)->ls.pd=jump->ls.st=(if jump.isNone then .ready else .done)->jump.isNone=b->C b (s3.h.set k (.lp ls p as bd kA))->
   ∃v w',(Instr.endRound (G.aI k) jump).run P w3= .ok v w'/\∃(b:Bool)(G':Gh)(h':apH an),(Ending.returned v:Ending)= .returned (.bool b)/\bx G.N G w G' w'/\G.N<=G'.N/\Inv G' w' h'/\C b h':=λjump ls b p as bd kA hk3 q1 q2 q3 hK=>by
   have Hm:G3.aI k=G.aI k:=(CI.aI k zC).trans jb;obtain⟨_,fn3,tm3,D3,z3,z4,z5,alg⟩:=Lt hs3.inv hk3;obtain⟨zE,zI⟩:=alg ls;rw[Hm]at z3 zE zI;subst q1;have CN:=run_endRound (P:=P) ls.pd z3;rw[<-q2]at CN;refine⟨_,_,CN,b,G3,_,by rw[q3],?_,UJ,zI,hK⟩;exact(hX.trans ((gE.less gu).trans CI)).trans (zE.less UJ)
  cases e3 with
  |normal=>obtain⟨p2,FZ,Dw,kA,y1,y2⟩:=qP;exact fin none .ready true p2 FZ Dw kA y1 rfl rfl rfl y2
  |ret=>obtain⟨p2,FZ,Dw,kA,y1,y2⟩:=qP;exact fin (some .ret) (.done .ret) false p2 FZ Dw kA y1 rfl rfl rfl y2
  |exit i=>obtain⟨p2,FZ,Dw,kA,y1,y2⟩:=qP;exact fin (some (.exit i)) (.done (.exit i)) false p2 FZ Dw kA y1 rfl rfl rfl y2
  |_=>exact qP.elim
 |_=>exact zW.elim
theorem afL{K:St->Prop}{Q:Exit->Act->apM->Prop}(hs:cA G w a s)(hN:N0<=G.N)(h:Ll P o K s):o.wpIn (WF r) n P a w (iQ N0 G w K) Q:=by
 unfold Ll at h;split at h
 ·next c ho=>
  split at h
  ·next f hc=>
   split at h
   ·next k x hf hx=>
    have hv:=hs.ev f;rw[hf]at hv;have ea:a.eval f= .func (.yield (G.aI k)) #[] #[]:=by
     generalize a.eval f=u at hv;cases hv;rfl
    obtain⟨p1,p2⟩:=ye hs c.args;obtain⟨v,ot⟩:∃v,c.args.map a.eval= #[v]:=by
     have:(c.args.map a.eval).size=1:=by rw[p1,hx];rfl
     exact⟨(c.args.map a.eval)[0],Array.ext (by simp [this]) λi h1 h2=>by
      have:i=0:=by simp at h2;exact h2
      subst this;rfl⟩
    have SM:aD G w v x:=p2 0 v x (by rw[ot];rfl) (by rw[hx];rfl);obtain⟨zC,p,as,bd,fn,tm,D,h3,hA⟩:=h G w v r (n-1) hs.inv SM;have fW:∀c',o.op≠ .defer c':=λc' e=>by rw[ho]at e;cases e
    have hy:=run_yield (P:=P) (args:= #[v]) h3 rfl;have db:(o.semAt (WF r).round a.eval).run P w= .ok (.round (G.aI k) fn (tm.setIfInBounds p v) as bd) w:=by
     rw[Oper.semAt_eq _ _ _ fW];unfold execOp;simp only[ho,resolve,hc,ea];simp [Deferred.ofValue,invoke,ot,hy]
    unfold Oper.wpIn;refine⟨λg hg=>trivial,?_⟩;rw[db,Oper.uponIn_round];refine⟨λh=>(by simp [WF,Fence.wide]at h),hA.mono λe w' hp=> ?_⟩;obtain⟨b,G',h',rfl,hE,Vb,c7,hK⟩:=hp;exact⟨G',_,hE.less hN,apa hN Vb,(hs.move hE Vb c7).put (.d (.v _)) o.dst,hK⟩
   ·exact h.elim
  ·exact h.elim
 ·exact h.elim
theorem afg{K:St->Prop}{Q:Exit->Act->apM->Prop}(hs:cA G w a s)(hN:N0<=G.N)(h:nE P o K s):o.wpIn (WF r) n P a w (iQ N0 G w K) Q:=by
 rcases h with h|h|h|h|⟨x,h',h,hK⟩|h
 ·exact PE hs hN (.inl h)
 ·exact PE hs hN (.inr (.inl h))
 ·exact PE hs hN (.inr (.inr h))
 ·exact afL hs hN h
 ·exact ae4 hs hN h hK
 ·exact anZ hs hN h
theorem Tf{ops:Array Oper}{K:St->Prop}{Q':Exit->Act->apM->Prop}(hQ:∀a' w',iQ N0 G w K a' w'->Q' .normal a' w'):∀(l:apH Oper)(k:Nat),(∀j,l[j]?=ops[k+j]?)->∀(G1:Gh)(w1:apM)(a:Act)(s:St),
 bx N0 G w G1 w1->N0<=G1.N->cA G1 w1 a s->iU P ops l K s->wpOpsIn (WF r) n P ops Q' (List.range' k l.length) a w1
 |[],k,_,G1,w1,a,s,hE,hN,hs,h=>hQ _ _ ⟨G1,s,hE,hN,hs,h⟩
 |o::l,k,hl,G1,w1,a,s,hE,hN,hs,h=>by
  have h0:ops[k]?=some o:=by simpa using (hl 0).symm
  have pH:∀j,l[j]?=ops[k+1+j]?:=λj=>by have:=hl (j+1);simpa [Nat.add_assoc,Nat.add_comm 1 j]using this
  have hg:=N2 hs h;simp only[aoV,List.range'_succ,wpOpsIn,h0];split
  ·rename_i hw
   rw[if_pos hw]at hg;exact Oper.wpIn_mono (λa' w' hn=>by
     obtain⟨G2,s2,e2,n2,Px,k2⟩:=hn;exact Tf hQ l (k+1) pH G2 w' a' s2 (hE.trans e2) n2 Px k2) (afg hs hN hg)
  ·rename_i hw
   rw[if_neg hw]at hg;exact⟨λ_ _=>trivial,Tf hQ l (k+1) pH G1 w1 _ _ hE hN (hs.put (.d (.v undef)) o.dst) hg⟩
theorem fy{id:Nat}{ops:Array Oper}(h:iU P ops ops.toList (Q .normal) s):bj P r N0 (.region id ops false) Q s:=by
 constructor
 intro G w a n hs hN;refine wpIn_region ?_;rw[List.range_eq_range',<-apq];exact Tf (G:=G) (w:=w) (K:=Q .normal) (λ_ _ h=>h) ops.toList 0 (by simp) G w a s (bx.refl _ _ _) hN hs h
theorem jG(h:Q .normal s):bj P r N0 .skip Q s:=⟨λG _ _ _ hs hN=>wpIn_skip ⟨G,s,bx.refl _ _ _,hN,hs,h⟩⟩
theorem gM(h:Q .ret s):bj P r N0 .ret Q s:=⟨λG _ _ _ hs hN=>wpIn_ret ⟨G,s,bx.refl _ _ _,hN,hs,h⟩⟩
theorem uC{id:Nat}(h:Q (.exit id) s):bj P r N0 (.exit id) Q s:=⟨λG _ _ _ hs hN=>wpIn_exit ⟨G,s,bx.refl _ _ _,hN,hs,h⟩⟩
theorem bP{x y:Code}(h:bj P r N0 x (gp (λs'=>bj P r N0 y Q s') Q) s):bj P r N0 (.seq x y) Q s:=by
 constructor
 intro G w a n hs hN;refine wpIn_seq (wpIn_mono (h.run G w a n hs hN) λe a1 w1 hn=> ?_);obtain⟨G1,s1,hE,gu,e8,hq⟩:=hn;cases e with
 |normal=>exact wpIn_mono (hq.run G1 w1 a1 n e8 gu) λ_ _ _ hn=>hn.trans hE
 |_=>exact⟨G1,s1,hE,gu,e8,hq⟩
theorem E3{c:Operand}{x y:Code}{t:Bool}(hc:ev s c= .d (.v (.bool t)))(h1:t=true->bj P r N0 x Q s)(h2:t=false->bj P r N0 y Q s):bj P r N0 (.cond c x y) Q s:=by
 constructor
 intro G w a n hs hN;have hb:=hs.ev c;rw[hc]at hb;exact wpIn_cond_split hb.bool (λe=>(h1 e).run G w a n hs hN) (λe=>(h2 e).run G w a n hs hN)
theorem kf{id:Nat}{c:Code}(h:bj P r N0 c (qX id Q) s):bj P r N0 (.block id c) Q s:=by
 constructor
 intro G w a n hs hN;refine wpIn_block (wpIn_mono (h.run G w a n hs hN) λe a1 w1 hn=> ?_);obtain⟨G1,s1,hE,gu,e8,hq⟩:=hn;cases e with
 |exit rQ=>
  by_cases he:rQ=id
  ·simp only[qX,he,BEq.rfl,cond_true]at hq;simp only[Exit.inBlock,if_pos he];exact⟨G1,s1,hE,gu,e8,hq⟩
  ·have hbe:(rQ==id)=false:=by simpa using he
   simp only[qX,hbe,cond_false]at hq;simp only[Exit.inBlock,if_neg he];exact⟨G1,s1,hE,gu,e8,hq⟩
 |_=>exact⟨G1,s1,hE,gu,e8,hq⟩
theorem No{F:Fence}{c:Code}{Q:Exit->Act->apM->Prop}{ι:Type}(I:ι->Act->apM->Prop)(μ:ι->Nat)(i0:ι)(h₀:I i0 a w)
 (round:∀i a w,I i a w->c.wpIn F n P (Exit.then (λa' w'=>∃i',I i' a' w'/\μ i'<μ i) Q) a w):(Code.loop c).wpIn F n P Q a w:=by
 intro b k cs zd hb hr;have key:∀j i a w,μ i=j->I i a w->
  ∃e a' w',Q e a' w'/\ArrivesIn (Machine.fenced P F) P (lone (b.atR a (.code c:: .inLoop c::k)) cs w) b k cs e a' w':=by
  intro j
  induction j using Nat.strongRecOn with
  |_ j ih=>
   intro i a w hn hI;obtain⟨e,a₁,w₁,hq,uY⟩:=round i a w hI b (.inLoop c::k) cs zd hb hr;cases e with
   |normal=>
    obtain⟨i',hI₁,aH⟩:=hq;obtain⟨e₂,a₂,w₂,hq₂,aeP⟩:=ih (μ i') (hn▸aH) i' a₁ w₁ rfl hI₁;exact⟨e₂,a₂,w₂,hq₂, .of_steps (StepsIn.trans uY (.one (fenced_calm hb hr rfl) stepR_inLoop)) aeP⟩
   |exit id=>exact⟨_,a₁,w₁,hq, .pass (x:= .inLoop c) rfl (λ_ _=> .inl (by simp)) uY⟩
   |goto l=>exact⟨_,a₁,w₁,hq, .pass (x:= .inLoop c) rfl (λ_ _=> .inl (by simp)) uY⟩
   |ret=>exact⟨_,a₁,w₁,hq, .pass (x:= .inLoop c) rfl (λ_ _=> .inl (by simp)) uY⟩
   |panic ch=>exact⟨_,a₁,w₁,hq, .pass (x:= .inLoop c) rfl (λ_ _=> .inl (by simp)) uY⟩
   |outgrown=>exact⟨_,a₁,w₁,hq, .pass (x:= .inLoop c) rfl (λ_ _=> .inl (by simp)) uY⟩
 obtain⟨e,a',w',hq,uY⟩:=key _ i0 a w rfl h₀;exact⟨e,a',w',hq, .of_steps (.one (fenced_calm hb hr rfl) stepR_loop) uY⟩
end
mutual
def AV.bn(m:Nat):AV->AV
 | .own n xs=>bif b7 m n then .d (.sl xs)else .own n xs
 | .agg cs=> .agg (AV.qb m cs)
 | .bA cs=> .bA (AV.qb m cs)
 | .fn f cs=> .fn f (AV.qb m cs)
 |x=>x
def AV.qb(m:Nat):apH AV->apH AV
 |[]=>[]
 |x::l=>x.bn m::AV.qb m l
end
mutual
def AV.aP(m:Nat):AV->Bool
 | .own n _| .ptr n _| .row n _ _ _ _| .mp n| .cO n| .vec n _ _ _ _| .di n _ _ _ _=> !b7 m n
 | .agg cs=>AV.nF m cs
 | .bA cs=>AV.nF m cs
 | .fn _ cs=>AV.nF m cs
 |_=>true
def AV.nF(m:Nat):apH AV->Bool
 |[]=>true
 |x::l=>x.aP m&&AV.nF m l
end
theorem GB(m:Nat):∀l,AV.qb m l=l.map (AV.bn m)
 |[]=>by simp [AV.qb]
 |x::l=>by simp [AV.qb,GB m l]
theorem mE(m:Nat):∀l,AV.nF m l=l.all (AV.aP m)
 |[]=>by simp [AV.nF]
 |x::l=>by simp [AV.nF,mE m l]
def an.bn(m:Nat):an->an
 | .cells cs=> .cells (cs.map (AV.bn m))
 | .lp ls p as bd cs=> .lp ls p as bd (cs.map (AV.bn m))
 | .it sn cs=> .it sn (cs.map (AV.bn m))
 | .aT T cs=> .aT T (cs.map (AV.bn m))
 | .vec e k cs=> .vec e k (cs.map (·.map (AV.bn m)))
 |B=>B
def an.aP(m:Nat):an->Bool
 | .cells cs=>cs.all (AV.aP m)
 | .lp _ _ _ _ cs=>cs.all (AV.aP m)
 | .it _ cs=>cs.all (AV.aP m)
 | .aT _ cs=>cs.all (AV.aP m)
 | .vec _ _ cs=>cs.all (·.all (AV.aP m))
 |_=>true
theorem aD.bn{G:Gh}{w:apM}(m:Nat){u:apL}{x:AV}(h:aD G w u x):aD G w u (x.bn m):=by
 have gh:∀(vs:Array apL)(cs:apH AV),(∀(i:Nat)(u:apL)(c:AV),vs[i]?=some u->cs[i]?=some c->aD G w u (c.bn m))->∀(i:Nat)(u:apL)(c:AV),vs[i]?=some u->(AV.qb m cs)[i]?=some c->aD G w u c:=by
  intro vs cs ih i u c hu hc;rw[GB,aoZ]at hc;cases hx:cs[i]? with
  |none=>rw[hx]at hc;cases hc
  |some x=>rw[hx]at hc;cases hc;exact ih i u x hu hx
 induction h with
 |agg vs cs hl _ ih=>rw[AV.bn];exact .agg vs _ (by rw[GB,aoX];exact hl) (gh vs cs ih)
 |bA vs cs hl _ ih=>rw[AV.bn];exact .bA vs _ (by rw[GB,aoX];exact hl) (gh vs cs ih)
 |fn f vs cs hl _ ih=>rw[AV.bn];exact .fn f vs _ (by rw[GB,aoX];exact hl) (gh vs cs ih)
 |own n xs h hp hle hf=>
  rw[AV.bn,cond_eq_ite];split
  ·exact .d hp
  ·exact .own n xs h hp hle hf
 |d h=>simp only[AV.bn];exact .d h
 |ptr n off h=>simp only[AV.bn];exact .ptr n off h
 |bz xs i off b o u x hx hS hu=>simp only[AV.bn];exact .bz xs i off b o u x hx hS hu
 |full xs hp hf=>simp only[AV.bn];exact .full xs hp hf
 |row n off len cap k h hl hm=>simp only[AV.bn];exact .row n off len cap k h hl hm
 |mp n h=>simp only[AV.bn];exact .mp n h
 |cO n h=>simp only[AV.bn];exact .cO n h
 |vec n o len L k h hs hL hf=>simp only[AV.bn];exact .vec n o len L k h hs hL hf
 |di n i j L k h hs hL hf=>simp only[AV.bn];exact .di n i j L k h hs hL hf
 |hid h h1=>simp only[AV.bn];exact .hid h h1
 |dead u=>simp only[AV.bn];exact .dead u
def Gh.cut(G:Gh)(m:Nat):Gh:={G with N:=m}
theorem aD.cut{G:Gh}{w:apM}{m:Nat}{u:apL}{x:AV}(h:aD G w u x)(hb:x.aP m=true):aD (G.cut m) w u x:=by
 induction h with
 |agg vs cs hl _ ih=>
  rw[AV.aP,mE,api]at hb;exact .agg vs cs hl λi u c hu hc=>ih i u c hu hc (hb c (ao5 hc))
 |bA vs cs hl _ ih=>
  rw[AV.aP,mE,api]at hb;exact .bA vs cs hl λi u c hu hc=>ih i u c hu hc (hb c (ao5 hc))
 |fn f vs cs hl _ ih=>
  rw[AV.aP,mE,api]at hb;exact .fn f vs cs hl λi u c hu hc=>ih i u c hu hc (hb c (ao5 hc))
 |own n xs h hp hle hf=>rw[AV.aP]at hb;exact .own n xs (show n<m by rw[Bool.not_eq_true',<-Bool.not_eq_true,dI]at hb;omega) hp hle hf
 |ptr n off h=>rw[AV.aP]at hb;exact .ptr (G:=G.cut m) n off (show n<m by rw[Bool.not_eq_true',<-Bool.not_eq_true,dI]at hb;omega)
 |row n off len cap k h hl hm=>rw[AV.aP]at hb;exact .row (G:=G.cut m) n off len cap k (show n<m by rw[Bool.not_eq_true',<-Bool.not_eq_true,dI]at hb;omega) hl hm
 |mp n h=>rw[AV.aP]at hb;exact .mp (G:=G.cut m) n (show n<m by rw[Bool.not_eq_true',<-Bool.not_eq_true,dI]at hb;omega)
 |cO n h=>rw[AV.aP]at hb;exact .cO (G:=G.cut m) n (show n<m by rw[Bool.not_eq_true',<-Bool.not_eq_true,dI]at hb;omega)
 |vec n o len L k h hs hL hf=>rw[AV.aP]at hb;exact .vec (G:=G.cut m) n o len L k (show n<m by rw[Bool.not_eq_true',<-Bool.not_eq_true,dI]at hb;omega) hs hL hf
 |di n i j L k h hs hL hf=>rw[AV.aP]at hb;exact .di (G:=G.cut m) n i j L k (show n<m by rw[Bool.not_eq_true',<-Bool.not_eq_true,dI]at hb;omega) hs hL hf
 |hid h h1=>exact .hid (G:=G.cut m) h h1
 |d h=>exact .d h
 |bz xs i off b o u x hx hS hu=>exact .bz xs i off b o u x hx hS hu
 |full xs hp hf=>exact .full xs hp hf
 |dead u=>exact .dead u
def St.mask(s:St)(live:apH Nat)(m:Nat):St:={s with t:=live.map λk=>(k,(bp s.t k).bn m),h:=(s.h.take m).map (an.bn m)}
def St.okMask(s:St)(live:apH Nat)(m:Nat):Prop:=m<=s.h.length/\(live.all λk=>((bp s.t k).bn m).aP m)=true/\(((s.h.take m).map (an.bn m)).all (an.aP m))=true
theorem ta(f:Nat->AV):∀(live:apH Nat)(i:Nat),bp (live.map λk=>(k,f k)) i=if i∈live then f i else .dead
 |[],i=>by simp [bp]
 |k::l,i=>by
  simp only[aph,mX,ta f l i,apm];by_cases h:i=k
  ·subst h;simp
  ·simp [h]
theorem NK{G:Gh}{w:apM}{h:apH an}(hi:Inv G w h){m:Nat}(hm:m<=h.length)(hb:(((h.take m).map (an.bn m)).all (an.aP m))=true):Inv (G.cut m) w ((h.take m).map (an.bn m)):=by
 have ej:∀(n:Nat)(B:an),((h.take m).map (an.bn m))[n]?=some B->n<m/\∃B',h[n]?=some B'/\B=B'.bn m/\(B'.bn m).aP m=true:=λn B hB=>by
  have uG:=api.1 hb B (ao5 hB);rw[aoZ,List.getElem?_take]at hB;split at hB
  ·rename_i hn
   cases hx:h[n]? with
   |none=>rw[hx]at hB;cases hB
   |some B'=>rw[hx]at hB;cases hB;exact⟨hn,B',rfl,rfl,uG⟩
  ·cases hB
 have dQ:∀n b,bB ((h.take m).map (an.bn m)) (G.cut m) n=some b->bB h G n=some b:=λn b hb=>by
  obtain⟨B,hB,hb⟩:=nL hb;obtain⟨_,B',h1,rfl,_⟩:=ej n B hB;rw[cZ h1,<-hb];cases B'<;>rfl
 refine⟨by simp [Gh.cut];omega,hi.z,hi.S,λn B hB=> ?_,λi j b h1 h2=>hi.inj i j b (dQ i b h1) (dQ j b h2),hi.gl⟩;obtain⟨hn,B',h1,rfl,uG⟩:=ej n B hB;have dD:=hi.cu n B' h1;cases B' with
 |gone=>trivial
 |front e k len=>exact dD
 |bg e b=>exact dD
 |map kv=>exact dD
 |fR kv=>exact dD
 |vec e k cs=>
  obtain⟨c1,c2,c3,c4⟩:=dD;refine⟨by rw[aoX];exact c1,by rw[aoX];exact c2,λc hc=> ?_,?_⟩
  ·obtain⟨x,hx,rfl⟩:=List.mem_map.1 hc;rw[aoX];exact c3 x hx
  ·rcases c4 with⟨d1,d2,A,d3⟩|⟨g,cap,cur,d1,d2,d3,d4,d5,d6,d7,d8,d9⟩
   ·exact .inl ⟨d1,by rw[d2];rfl,A,d3⟩
   ·refine .inr ⟨g,cap,cur,d1,by rw[aoX];exact d2,d3,d4,by rw[aoX];exact d5,d6,d7,d8,λi j c x u hc hx hu=> ?_⟩;simp only[an.bn,an.aP,api]at uG;rw[aoZ]at hc;cases hy:cs[i]? with
    |none=>rw[hy]at hc;cases hc
    |some y=>
     rw[hy]at hc;cases hc
     have hz:=hx;rw[aoZ]at hx;cases hw:y[j]? with
     |none=>rw[hw]at hx;cases hx
     |some z=>
      rw[hw]at hx;cases hx
      exact((d9 i j y z u hy hw hu).bn m).cut (uG _ (List.mem_map.2 ⟨y,ao5 hy,rfl⟩) _ (ao5 hz))
 |cells cs=>
  obtain⟨c1,c2,vs,T,c3,c4,c5⟩:=dD;refine⟨c1,c2,vs,T,c3,by rw[aoX];exact c4,λi u c hu hc=> ?_⟩;have gZ:=ao5 hc;rw[aoZ]at hc;cases hx:cs[i]? with
  |none=>rw[hx]at hc;cases hc
  |some x=>
   rw[hx]at hc;cases hc
   exact((c5 i u x hu hx).bn m).cut (api.1 uG _ gZ)
 |lp ls p as bd cs=>
  obtain⟨c1,c2,fn,vs,T,c3,c4,c5⟩:=dD;refine⟨c1,c2,fn,vs,T,c3,by rw[aoX];exact c4,λi u c hu hc=> ?_⟩;have gZ:=ao5 hc;rw[aoZ]at hc;cases hx:cs[i]? with
  |none=>rw[hx]at hc;cases hc
  |some x=>
   rw[hx]at hc;cases hc
   exact((c5 i u x hu hx).bn m).cut (api.1 uG _ gZ)
 |it sn cs=>
  obtain⟨c1,c2,fn,vs,T,c3,c4,c5⟩:=dD;refine⟨c1,c2,fn,vs,T,c3,by rw[aoX];exact c4,λi u c hu hc=> ?_⟩;have gZ:=ao5 hc;rw[aoZ]at hc;cases hx:cs[i]? with
  |none=>rw[hx]at hc;cases hc
  |some x=>
   rw[hx]at hc;cases hc
   exact((c5 i u x hu hx).bn m).cut (api.1 uG _ gZ)
 |aT T0 cs=>
  obtain⟨c1,c2,fn,vs,T,c3,c4,c5⟩:=dD;refine⟨c1,c2,fn,vs,T,c3,by rw[aoX];exact c4,λi u c hu hc=> ?_⟩;have gZ:=ao5 hc;rw[aoZ]at hc;cases hx:cs[i]? with
  |none=>rw[hx]at hc;cases hc
  |some x=>
   rw[hx]at hc;cases hc
   exact((c5 i u x hu hx).bn m).cut (api.1 uG _ gZ)
theorem qd(N:Nat)(G:Gh)(w:apM)(m:Nat):bx N G w (G.cut m) w:=
 ⟨ao3 _,λ_ _ h=>h,λ_ _ _=>rfl,λ_ _=>rfl,λ_ _=> .inl ⟨rfl,rfl⟩,fY rfl,λ_ _=>rfl,rfl,rfl,rfl,λ_ _ h=> .inl h⟩
section
variable {P:apK} {r:apJ Nat} {n N0:Nat} {G:Gh} {w:apM} {a:Act} {s:St} {o:Oper} {Q:Exit->St->Prop}
theorem cA.mask(hs:cA G w a s){live:apH Nat}{m:Nat}(h:s.okMask live m):cA (G.cut m) w a (s.mask live m):=by
 obtain⟨h1,h2,h3⟩:=h;refine⟨hs.size,λi=> ?_,NK hs.inv h1 h3,hs.df⟩;show aD _ _ _ (bp (live.map λk=>(k,(bp s.t k).bn m)) i);rw[ta (λk=>(bp s.t k).bn m)];split
 ·rename_i hi
  exact((hs.tmp i).bn m).cut (api.1 h2 i hi)
 ·exact .dead _
theorem OX{c:Code}{ι:Type}(live:apH Nat)(m:Nat)(st:ι->St)(I:ι->Prop)(μ:ι->Nat)(i0:ι)(hm:N0<=m)(bO:s.okMask live m)(h0:s.mask live m=st i0)(hI:I i0)
 (round:∀i,I i->bj P r N0 c (gp (λs'=>s'.okMask live m/\∃i',s'.mask live m=st i'/\I i'/\μ i'<μ i) Q) (st i)):bj P r N0 (.loop c) Q s:=by
 constructor
 intro G w a n hs _;refine No (λ(i:ι) a' w'=>∃G',I i/\bx N0 G w G' w'/\N0<=G'.N/\cA G' w' a' (st i)) μ i0 ⟨G.cut m,hI,qd _ _ _ _,hm,h0▸hs.mask bO⟩ ?_;rintro i a' w' ⟨G',hi,hE,hN,b8⟩;refine wpIn_mono ((round i hi).run G' w' a' n b8 hN) λe a1 w1 hn=> ?_;obtain⟨G1,s1,hX,gu,e8,hq⟩:=hn;cases e with
 |normal=>
  obtain⟨adx,i',h1,h2,h3⟩:=hq;exact⟨i',⟨G1.cut m,h2,(hE.trans hX).trans (qd _ _ _ _),hm,h1▸e8.mask adx⟩,h3⟩
 |_=>exact⟨G1,s1,hE.trans hX,gu,e8,hq⟩
def nj(P:apK)(s:St):apH ResultVar->(apH AV->Prop)->Prop
 |[],C=>C []
 | .tmp t::l,C=>nj P s l λxs=>C (bp s.t t::xs)
 | .cell p t::l,C=>oI P t s.h (bp s.t p) λx=>nj P s l λxs=>C (x::xs)
def kK:apH AV->AV
 |[x]=>x
 |l=> .bA l
def sN(P:apK)(fn:Func)(m:Nat)(K:AV->apH an->Prop)(s:St):Prop:=
 nj P s fn.results.toList λl=>m<=s.h.length/\((kK l).bn m).aP m=true/\(((s.h.take m).map (an.bn m)).all (an.aP m))=true/\K ((kK l).bn m) ((s.h.take m).map (an.bn m))
def J1(P:apK)(fn:Func)(m:Nat)(K:AV->apH an->Prop):Exit->St->Prop
 | .normal,s=>sN P fn m K s
 | .ret,s=>sN P fn m K s
 |_,_=>False
theorem ahh{C:apH AV->Prop}(hs:cA G w a s)(g:ResultVar->Sem apL)(MV:∀t,g (.tmp t)=pure (a.tmps.getD t undef))(DZ:∀p t,g (.cell p t)=(do loadVar t (<-asAddr (a.tmps.getD p undef)))):
 ∀(l:apH ResultVar),nj P s l C->∃(vs:apH apL)(xs:apH AV),(l.mapM g).run P w= .ok vs w/\vs.length=xs.length/\(∀(i:Nat)(u:apL)(c:AV),vs[i]?=some u->xs[i]?=some c->aD G w u c)/\C xs:=by
 intro l
 induction l generalizing C with
 |nil=>exact λh=>⟨[],[],by simp,rfl,λi u c hu=>by simp at hu,h⟩
 |cons x l ih=>
  intro h;cases x with
  |tmp t=>
   obtain⟨vs,xs,h1,h2,h3,h4⟩:=ih h;refine⟨a.tmps.getD t undef::vs,bp s.t t::xs,by simp only[List.mapM_cons,MV,Sem.run_bind,Sem.run_pure,Result.andThen_ok,h1],by simp [h2],λi u c hu hc=> ?_,h4⟩
   match i with
   |0=>simp only[List.getElem?_cons_zero,Option.some.injEq]at hu hc;subst hu;subst hc;exact hs.tmp t
   |i+1=>exact h3 i u c (by simpa using hu) (by simpa using hc)
  |cell p t=>
   obtain⟨u0,x0,r1,r2,r3⟩:=Ty (P:=P) hs.inv (hs.tmp p) h;obtain⟨vs,xs,h1,h2,h3,h4⟩:=ih r3;have hv:=hs.tmp p;have e:∃ad,a.tmps.getD p undef= .pointer (some ad):=by
    have h':oI P t s.h (bp s.t p) λx=>nj P s l λxs=>C (x::xs):=h;generalize a.tmps.getD p undef=v at hv r1;generalize bp s.t p=y at hv h';cases hv with
    |ptr=>exact⟨_,rfl⟩
    |bz=>exact⟨_,rfl⟩
    |_=>exact(show False from h').elim
   obtain⟨ad,e⟩:=e;rw[e]at r1;have r1':(loadVar t ad).run P w= .ok u0 w:=by simpa [Instr.loadAt,Instr.sureAddr]using r1
   have ha:(asAddr (a.tmps.getD p undef)).run P w= .ok ad w:=by rw[e];rfl
   refine⟨u0::vs,x0::xs,by simp only[List.mapM_cons,DZ,Sem.run_bind,Sem.run_pure,Result.andThen_ok,h1,ha,r1'],by simp [h2],λi u c hu hc=> ?_,h4⟩
   match i with
   |0=>simp only[List.getElem?_cons_zero,Option.some.injEq]at hu hc;subst hu;subst hc;exact r2
   |i+1=>exact h3 i u c (by simpa using hu) (by simpa using hc)
theorem aoi:∀(vs:apH apL)(xs:apH AV),vs.length=xs.length->(∀(i:Nat)(u:apL)(c:AV),vs[i]?=some u->xs[i]?=some c->aD G w u c)->aD G w (if h:vs.toArray.size=1 then vs.toArray[0]else .tuple vs.toArray) (kK xs)
 |[v],[x],_,h=>h 0 v x rfl rfl
 |[],[],_,_=> .bA _ _ rfl λi u c hu=>by simp at hu
 |v::u::vs,x::y::xs,hl,h=>by
  have:¬(v::u::vs).toArray.size=1:=by simp
  rw[dif_neg this];exact .bA _ _ (by simpa using hl) λi p q hp hq=>h i p q (by simpa using hp) hq
 |[],_::_,hl,_=>by simp at hl
 |_::_,[],hl,_=>by simp at hl
 |[_],_::_::_,hl,_=>by simp at hl
 |_::_::_,[_],hl,_=>by simp at hl
theorem alE{fn:Func}{m:Nat}{K:AV->apH an->Prop}(hs:cA G w a s)(h:sN P fn m K s):∃v G' r h',(results fn a.tmps).run P w= .ok v w/\bx N0 G w G' w/\m<=G'.N/\Inv G' w h'/\aD G' w v r/\K r h':=by
 obtain⟨g,hg⟩:∃g:ResultVar->Sem apL,results fn a.tmps=(do let vs <-fn.results.mapM g;pure (if h:vs.size=1 then vs[0]else .tuple vs))/\(∀t,g (.tmp t)=pure (a.tmps.getD t undef))/\(∀p t,g (.cell p t)=(do loadVar t (<-asAddr (a.tmps.getD p undef)))):=
  ⟨_,rfl,λ_=>rfl,λ_ _=>rfl⟩
 obtain⟨vs,xs,h1,h2,h3,h4,h5,h6,h7⟩:=ahh hs g hg.2.1 hg.2.2 fn.results.toList h;have hr:(results fn a.tmps).run P w= .ok (if h:vs.toArray.size=1 then vs.toArray[0]else .tuple vs.toArray) w:=by
  rw[hg.1,Sem.run_bind,Array.mapM_eq_mapM_toList];have e:∀X:Sem (apH apL),(Functor.map List.toArray X:Sem _)=X>>=λl=>pure l.toArray:=λ_=>rfl;rw[e,Sem.run_bind,h1];rfl
 have hv:=aoi vs xs h2 h3;exact⟨_,G.cut m,_,_,hr,qd _ _ _ _,ao3 _,NK hs.inv h4 h6,(hv.bn m).cut h5,h7⟩
theorem Gt{f:FuncId}{fn:Func}{c:Code}{args:apH AV}{h:apH an}{K:AV->apH an->Prop}(m:Nat)(hf:P.funcs[f]?=some fn)(hb:fn.body=some c)(hn:(fn.name== "runtime.NumGoroutine")=false)(hm:h.length<=m)
 (hw:bj P none h.length c (J1 P fn m K) {n:=args.length+(fn.ntmps-args.length),t:=mv 0 args,h:=h}):cx P f args h K:=by
 refine⟨by unfold EG;rw[hf];simp [hb];simpa using hn,λG w vs hi hl hr=> ?_⟩;refine callsIn_wide (n:=8).1 (callsIn_of_wp_marks (F:=Fence.wide) hf hb trivial ?_);have hs:cA {G with M:=w.heap.size} w {tmps:=vs++Array.replicate (fn.ntmps-vs.size) undef,defers:=[]} {n:=args.length+(fn.ntmps-args.length),t:=mv 0 args,h:=h}:=by
  refine⟨by simp [hl],λi=> ?_,hi.zm G.Z _ (λ_ h=>h) (ao3 _),se.nil _ _⟩;show aD _ _ _ (bp (mv 0 args) i);rw[Sa];simp only[Nat.zero_le,if_true,Nat.sub_zero];cases hx:args[i]? with
  |none=>exact .dead _
  |some x=>
   have aH:i<vs.size:=by rw[hl];exact(aoS.1 hx).1
   have:(vs++Array.replicate (fn.ntmps-vs.size) undef).getD i undef=vs[i]:=by
    simp [Array.getElem?_append_left aH,ape aH]
   simp only[this,Option.getD_some];exact(hr i _ x (ape aH) hx).zm G.Z _
 refine wpIn_mono (hw.run _ w _ 8 hs (by rw[hi.len];exact ao3 _)) λe a' w' hn=> ?_;obtain⟨G1,s1,hE,gu,e8,hq⟩:=hn;have key:sN P fn m K s1->LeavesInM Fence.wide 8 P fn a'.tmps (λe w'=>∃v G' r h',e= .returned v/\bx G.N G w G' w'/\G.N<=G'.N/\Inv G' w' h'/\aD G' w' v r/\K r h') a'.defers .returning w':=λhq=>by
  obtain⟨w2,G2,k1,k2,k3,k4⟩:=anS hE gu hi.z hi.gl.2 e8;obtain⟨v,G',r,h',r1,r2,r3,r4,r5,r6⟩:=alE (N0:=h.length) k4 hq;exact k1 _ _ _ _ _ ⟨v,r1,v,G',r,h',rfl,by rw[<-hi.len];exact k2.trans r2,by rw[<-hi.len];exact apa hm r3,r4,r5,r6⟩
 cases e with
 |normal=>exact key hq
 |ret=>exact key hq
 |_=>exact hq.elim
end
end Go.Proofs.YtmkmibahjanejaaGreatDoor
namespace Go.Proofs.YtmkmibahjanejaaGreatDoor
open Go.RowKit
section
variable {P:apK} {r:apJ Nat} {N0:Nat} {s:St} {Q:Exit->St->Prop}
end
theorem cx.frame{P:apK}{f:FuncId}{args:apH AV}{K:AV->Prop}(hc:cx P f args [] λr h=>h=[]/\K r)(ha:args.all (AV.aP 0)=true)(hK:∀r,K r->r.aP 0=true)(h:apH an):
 cx P f args h λr h'=>h'=h/\K r:=by
 refine⟨hc.1,λG w vs hi hl hr=> ?_⟩;have tH:Inv {G with N:=0,Z:=λb=>b<w.heap.size} w []:=⟨rfl,λb hb=>hb,hi.S,λn B hB=>by simp at hB,λm n b h1=>by simp [bB]at h1,hi.gl⟩;refine(hc.2 {G with N:=0,Z:=λb=>b<w.heap.size} w vs tH hl λi u c hu hx=> ?_).mono λe w' hp=> ?_
 ·have:=(hr i u c hu hx).cut (api.1 ha c (ao5 hx));clear hc;generalize hG:({G with N:=0,Z:=λb=>b<w.heap.size}:Gh)=G0;have e:∀{v y},aD (G.cut 0) w v y->aD G0 w v y:=by
   intro v y hv;subst hG
   induction hv with
   |agg vs cs hl _ ih=>exact .agg vs cs hl ih
   |bA vs cs hl _ ih=>exact .bA vs cs hl ih
   |fn f vs cs hl _ ih=>exact .fn f vs cs hl ih
   |own n xs h hp hle hf=>exact absurd h (apk _)
   |ptr n off h=>exact absurd h (apk _)
   |row n off len cap k h hl hm=>exact absurd h (apk _)
   |mp n h=>exact absurd h (apk _)
   |cO n h=>exact absurd h (apk _)
   |vec n o len L k h=>exact absurd h (apk _)
   |di n i j L k h=>exact absurd h (apk _)
   |hid h h1=>exact .hid h h1
   |d h=>exact .d h
   |bz xs i off b o u x hx hS hu=>exact .bz xs i off b o u x hx hS hu
   |full xs hp hf=>exact .full xs hp hf
   |dead u=>exact .dead u
  exact e this
 ·obtain⟨v,G',r,h',rfl,hE,hN,c7,hv,rfl,hk⟩:=hp;have aoO:G'.N=0:=c7.len.symm;have e7:∀b o,G'.S b o->G.S b o\/w.heap.size<=b:=λb o hs=>(hE.new b o hs).imp id Nat.le_of_not_lt;have gW:bx G.N G w {G with S:=G'.S} w':=
   ⟨hE.size,hE.S,hE.cell,λ_ _=>rfl,λ_ _=> .inl ⟨rfl,rfl⟩,fY rfl,λb hb=>hE.old b (hi.z b hb),hE.os,hE.tape,hE.output,λb o hs=>(e7 b o hs).imp id λjM hz=>by have:=hi.z b hz;omega⟩
  refine⟨v,{G with S:=G'.S},r,h,rfl,gW,ao3 _,⟨hi.len,λb hb=>apg (hi.z b hb) hE.size,c7.S,λn B hB=> ?_,λm n b h1 h2=>hi.inj m n b h1 h2,hi.gl.aS gW⟩,?_,rfl,hk⟩
  ·refine dB.aS (hi.lt hB) gW (ao3 _) ⟨rfl,rfl,rfl⟩ (λb hb=> ?_) (hi.cu n B hB);have aH:=hi.gx (n:=n) (b:=b) ((cZ hB).trans hb);refine⟨hE.old _ aH,λo jq hs=> ?_⟩;rcases e7 _ o hs with hs|hs
   ·exact jq hs
   ·omega
  ·have hr:=hK r hk;clear hk gW
   induction hv with
   |agg vs cs hl _ ih=>
    rw[AV.aP,mE,api]at hr;exact .agg vs cs hl λi u c hu hc=>ih i u c hu hc (hr c (ao5 hc))
   |bA vs cs hl _ ih=>
    rw[AV.aP,mE,api]at hr;exact .bA vs cs hl λi u c hu hc=>ih i u c hu hc (hr c (ao5 hc))
   |fn f vs cs hl _ ih=>
    rw[AV.aP,mE,api]at hr;exact .fn f vs cs hl λi u c hu hc=>ih i u c hu hc (hr c (ao5 hc))
   |own n xs h hp hle hf=>simp [AV.aP,b7]at hr
   |ptr n off h=>simp [AV.aP,b7]at hr
   |row n off len cap k h hl hm=>simp [AV.aP,b7]at hr
   |mp n h=>simp [AV.aP,b7]at hr
   |cO n h=>simp [AV.aP,b7]at hr
   |vec n o len L k h=>simp [AV.aP,b7]at hr
   |di n i j L k h=>simp [AV.aP,b7]at hr
   |hid h h1=>exact .hid h h1
   |d h=>exact .d h
   |bz xs i off b o u x hx hS hu=>exact .bz xs i off b o u x hx hS hu
   |full xs hp hf=>exact .full xs hp hf
   |dead u=>exact .dead u
def ic(P:apK)(f:FuncId)(args:apH AV)(K:AV->Prop):Prop:=cx P f args [] λr h=>h=[]/\K r
theorem ic.use{P:apK}{f:FuncId}{args:apH AV}{r:AV}{h:apH an}{C:AV->apH an->Prop}(hc:ic P f args (·=r))(ha:args.all (AV.aP 0)=true)(hr:r.aP 0=true)(hC:C r h):cx P f args h C:=
 (hc.frame ha (λ_ e=>e▸hr) h).mono λ_ _ ⟨e1,e2⟩=>by subst e1;subst e2;exact hC
def ah7:apH FuncId:=[267]
def afC:apH FuncId:=[68,70,170,208,209]
def qA:Operand->Bool
 | .func g=>ah7.any (·==g)
 |_=>false
def bZ(o:Oper):Nat:=
 match o.op with
 | .move _| .assign _| .pick .. | .nilCheck _| .fieldAddr .. | .field .. | .indexAddr .. | .index .. | .build .. | .buildSlice .. | .slice .. | .extract .. | .makeFunc .. | .binOp .. | .unOp .. | .convert .. =>0
 | .load .. | .lookup .. =>1
 | .alloc _| .box .. =>2
 | .store .. | .makeMap .. | .mapUpdate .. =>3
 | .call c=>match c.callee with
   | .builtin .len| .builtin .max| .builtin .min=>0
   | .builtin .append=>5
   | .value f=>bif qA f then 6 else 4
   |_=>9
 |_=>9
def QL(P:apK)(g:FuncId)(args:apH AV)(h:apH an)(C:AV->Prop):Prop:=∃r,C r/\∀e,cx P g args (h++e) λr' h'=>r'=r/\h'=h++e
def zO(P:apK)(o:Oper)(K:St->Prop)(s:St):Prop:=
 match o.op with
 | .call c=>match c.callee with
   | .value f=>match ev s f with
     | .fn g cU=>QL P g (c.args.toList.map (ev s)++cU) s.h λr=>K (s.put o.dst r)
     | .hid q=>∃g as,q.app (c.args.toList.map (ev s))=some (g,as)/\QL P g as s.h λr=>K (s.put o.dst r)
     |_=>False
   |_=>rC P o K s
 |_=>rC P o K s
def jl(o:Oper):Bool:=
 match o.op with
 | .indexAddr .. | .fieldAddr .. | .nilCheck .. | .load .. | .store .. =>true
 | .call c=>match c.callee with
   | .builtin .len=>true
   |_=>false
 |_=>false
def Iz(o:Oper):Bool:=match o.op with
 | .call c=>match c.callee with
   | .value (.tmp _)=>true
   | .value (.func g)=>afC.any (·==g)
   |_=>false
 |_=>false
def qC(o:Oper):Bool:=match o.op with
 | .call c=>match c.callee with
   | .builtin .append=>true
   |_=>false
 |_=>false
def nw(m:Bool)(o:Oper):Bool:=m&&(Iz o||qC o)
def yN(m:Bool)(P:apK)(o:Oper)(K:St->Prop)(s:St):Prop:=
 zO P o K s\/(nw m o=true/\∃x h1,K ((s.wh h1).put o.dst x)/\∀C:AV->apH an->Prop,C x h1->cm P o (ev s) s.h C)\/((jl o=true/\(m&&bZ o==0)=false\/(m&&qC o)=true)/\He P o K s)\/(bZ o=6/\∃x e0,K ((s.wh (s.h++e0)).put o.dst x)/\∀C:AV->apH an->Prop,C x (s.h++e0)->cm P o (ev s) s.h C)
def jv(P:apK)(o:Oper)(ρ:Operand->AV)(h:apH an)(C:AV->apH an->Prop):Prop:=
 cm P o ρ h C\/((jl o=true\/qC o=true)/\∃a x h' p,iq P o.op ρ h a=some (x,h',p)/\p/\C x h')
def vO(m:Bool)(P:apK)(ops:Array Oper):apH Oper->(St->Prop)->St->Prop
 |[],K,s=>K s
 |o::rest,K,s=>aGuard ops o s (yN m P o (vO m P ops rest K) s) (vO m P ops rest K (s.put o.dst (.d (.v undef))))
abbrev aaH(P:apK)(o:Oper)(K:St->Prop)(s:St):Prop:=yN false P o K s
abbrev Ef(P:apK)(ops:Array Oper)(l:apH Oper)(K:St->Prop)(s:St):Prop:=vO false P ops l K s
section
variable {P:apK} {o:Oper} {ρ ρ':Operand->AV} {h:apH an} {C:AV->apH an->Prop}
theorem QR(x:apJ Operand)(hx:∀y∈x.toArray,ρ y=ρ' y)(d:Nat)(F:Nat->Prop):jV ρ x d F=jV ρ' x d F:=by
 cases x with
 |none=>rfl
 |some y=>simp only[jV,hx y (by simp)]
theorem agJ(hρ:∀x∈o.op.operands,ρ x=ρ' x):cm P o ρ h C=cm P o ρ' h C:=by
 obtain⟨dst,op,type,pos,after,guard⟩:=o;have Zo:∀ps:Array (Nat×Operand),(∀x∈ps.map (·.2),ρ x=ρ' x)->(ps.toList.map λp=>(p.1,ρ p.2))=(ps.toList.map λp=>(p.1,ρ' p.2)):=λps hp=>
  apn λp hm=>by rw[hp p.2 (Array.mem_map.2 ⟨p,Array.mem_toList_iff.1 hm,rfl⟩)]
 have gh:∀l:Array Operand,(∀x∈l,ρ x=ρ' x)->l.toList.map ρ=l.toList.map ρ':=λl hl=>apn λx hm=>hl x (Array.mem_toList_iff.1 hm);cases op with
 |build t ps=>simp only[cm,Zo ps λx hx=>hρ x (by simpa [Op.operands]using hx)]
 |buildSlice t n ps=>simp only[cm,Zo ps λx hx=>hρ x (by simpa [Op.operands]using hx)]
 |makeFunc fn first captured=>
  cases fn with
  |func f=>simp only[cm,gh captured λx hx=>hρ x (by simp [Op.operands,hx]),gh first λx hx=>hρ x (by simp [Op.operands,hx])]
  |_=>rfl
 |slice t x lo hi mx=>
  have e1:ρ x=ρ' x:=hρ x (by simp [Op.operands]);have e2:=λd F=>QR (ρ:=ρ) (ρ':=ρ') lo (λy hy=>hρ y (by simp at hy;simp [Op.operands,hy])) d F;have e3:=λd F=>QR (ρ:=ρ) (ρ':=ρ') hi (λy hy=>hρ y (by simp at hy;simp [Op.operands,hy])) d F;have e4:=λd F=>QR (ρ:=ρ) (ρ':=ρ') mx (λy hy=>hρ y (by simp at hy;simp [Op.operands,hy])) d F;cases lo<;>cases hi<;>cases mx<;>simp only[cm,u6,e1,e2,e3,e4]
 |call c=>
  have ha:c.args.toList.map ρ=c.args.toList.map ρ':=gh c.args λx hx=>hρ x (by simp [Op.operands,Call.operands,hx]);have hm:∀x,x∈c.args.toList->ρ x=ρ' x:=λx hx=>hρ x (by simp [Op.operands,Call.operands];right;exact Array.mem_toList_iff.1 hx);cases hc:c.callee with
  |value f=>
   have hf:ρ f=ρ' f:=hρ f (by simp [Op.operands,Call.operands,hc]);simp only[cm,hc,hf,ha]
  |invoke=>simp only[cm,hc]
  |builtin b=>
   cases b with
   |len=>
    simp only[cm,hc];split
    ·rename_i x _ heq _
     rw[hm x (by rw[heq];simp)]
    ·rfl
   |append=>
    simp only[cm,hc];split
    ·rename_i x y _ _ heq _
     rw[hm x (by rw[heq];simp),hm y (by rw[heq];simp)]
    ·rfl
   |max=>simp only[cm,hc,ha]
   |min=>simp only[cm,hc,ha]
   |_=>simp only[cm,hc]
 |makeMap t r=>cases r<;>rfl
 |lookup t a b ok=>simp only[cm,pN,hρ a (by simp [Op.operands]),hρ b (by simp [Op.operands])]
 |mapUpdate t a b c=>simp only[cm,pN,hρ a (by simp [Op.operands]),hρ b (by simp [Op.operands]),hρ c (by simp [Op.operands])]
 |pick c a b=>simp only[cm,hρ c (by simp [Op.operands]),hρ a (by simp [Op.operands]),hρ b (by simp [Op.operands])]
 |store t a b=>simp only[cm,hρ a (by simp [Op.operands]),hρ b (by simp [Op.operands])]
 |binOp op t a b u=>simp only[cm,hρ a (by simp [Op.operands]),hρ b (by simp [Op.operands])]
 |indexAddr t a b=>simp only[cm,hρ a (by simp [Op.operands]),hρ b (by simp [Op.operands])]
 |index t a b=>simp only[cm,hρ a (by simp [Op.operands]),hρ b (by simp [Op.operands])]
 |move a|assign a|box t a|load t a|nilCheck a|fieldAddr t a f|field t a f|extract a i|unOp op t a|convert t u a=>simp only[cm,hρ a (by simp [Op.operands])]
 |_=>rfl
theorem ahy(hv:jl o=true\/qC o=true)(hρ:∀x∈o.op.operands,ρ x=ρ' x)(a:VA):iq P o.op ρ h a=iq P o.op ρ' h a:=by
 obtain⟨dst,op,type,pos,after,guard⟩:=o;cases op with
 |store t a b=>simp only[iq,hρ a (by simp [Op.operands]),hρ b (by simp [Op.operands])]
 |indexAddr t a b=>simp only[iq,hρ a (by simp [Op.operands]),hρ b (by simp [Op.operands])]
 |load t a|nilCheck a|fieldAddr t a f=>simp only[iq,hρ a (by simp [Op.operands])]
 |call c=>
  have hm:∀x,x∈c.args.toList->ρ x=ρ' x:=λx hx=>hρ x (by simp [Op.operands,Call.operands];right;exact Array.mem_toList_iff.1 hx);cases hc:c.callee with
  |builtin b=>
   cases b with
   |len=>
    simp only[iq,hc];split
    ·rename_i x _ heq _
     rw[hm x (by rw[heq];simp)]
    ·rfl
   |append=>
    simp only[iq,hc];split
    ·rename_i x y _ _ heq _
     rw[hm x (by rw[heq];simp),hm y (by rw[heq];simp)]
    ·rfl
   |_=>simp [jl,qC,hc]at hv
  |_=>simp [jl,qC,hc]at hv
 |_=>simp [jl,qC]at hv
theorem NV(hρ:∀x∈o.op.operands,ρ x=ρ' x):jv P o ρ h C=jv P o ρ' h C:=by
 unfold jv;rw[agJ hρ];by_cases hv:jl o=true\/qC o=true
 ·simp only[ahy hv hρ]
 ·simp only[hv,false_and]
end
def anm:an->Bool
 | .cells _| .map _| .vec .. =>true
 |_=>false
def ny:apJ an->apJ (Nat×Nat)
 |some (.vec _ k cs)=>some (k,cs.length)
 |_=>none
def iN(h h':apH an):Prop:=∀(m:Nat)(q:Nat×Nat),ny h[m]?=some q->ny h'[m]?=some q
def iE(h h':apH an):Prop:=∀m:Nat,ny h[m]?=ny h'[m]?
theorem iE.i{h h':apH an}(e:iE h h'):iN h h':=λm q hq=>by rw[<-e m];exact hq
theorem iE.j{h h':apH an}(e:iE h h'):iN h' h:=λm q hq=>by rw[e m];exact hq
theorem iN.refl(h:apH an):iN h h:=λ_ _ e=>e
theorem iN.trans{a b c:apH an}(x:iN a b)(y:iN b c):iN a c:=λm q e=>y m q (x m q e)
theorem iN.app(h e:apH an):iN h (h++e):=λm q hq=>by
 by_cases hl:m<h.length
 ·rw[ao2 hl];exact hq
 ·rw[apo (by omega)]at hq;cases hq
theorem iE.app{h:apH an}{B:an}(hB:ny (some B)=none):iE h (h++[B]):=λm=>by
 by_cases hl:m<h.length
 ·rw[ao2 hl]
 ·rw[ao8 (by omega),apo (by omega:h.length<=m)];by_cases h0:m-h.length=0
  ·rw[h0];exact hB.symm
  ·rw[apo (by simp;omega)]
theorem iE.set{h:apH an}{n:Nat}{B B':an}(hn:h[n]?=some B)(hB:ny (some B)=ny (some B')):iE h (h.set n B'):=λm=>by
 by_cases e:n=m
 ·subst e;rw[apl (aoS.1 hn).1,hn];exact hB
 ·rw[apr e]
def iS(h h':apH an):Prop:=∀(n:Nat)(B:an),h[n]?=some B->anm B=true->h'[n]?=some B
theorem iS.app(h e:apH an):iS h (h++e):=λn cs hn _=>by
 rw[ao2 (aoS.1 hn).1];exact hn
theorem iS.refl(h:apH an):iS h h:=λ_ _ hn _=>hn
theorem ak3{P:apK}{ρ:Operand->AV}{h h1:apH an}{T:TypeId}{m i:Operand}{ok:Bool}{x:AV}{p:Sd}(hx:pN P (.lookup T m i ok) ρ h=some (x,h1,p)):h1=h/\∀h',iS h h'->pN P (.lookup T m i ok) ρ h'=some (x,h',p):=by
 simp only[pN]at hx ⊢;split at hx
 ·next k e hT=>
  split at hx
  ·next z hz=>
   split at hx
   ·next b s' hm hi=>
    split at hx
    ·next kv hn=>
     cases hc:strT P k&&z.oneCell' with
     |false=>rw[hc]at hx;cases hx
     |true=>
      rw[hc]at hx;cases hx
      refine⟨rfl,λh' hh=> ?_⟩;rw[hh b _ hn rfl];simp only[cond_true]
    ·cases hx
   ·cases hx
  ·cases hx
 ·cases hx
theorem Vf{h:apH an}{n e k:Nat}{cs:apH (apH AV)}(hn:h[n]?=some (.vec e k cs)):ny h[n]?=some (k,cs.length):=by rw[hn];rfl
theorem Up{h:apH an}{n k l:Nat}(hq:ny h[n]?=some (k,l)):∃e cs,h[n]?=some (.vec e k cs)/\cs.length=l:=by
 unfold ny at hq;split at hq
 ·next e k' cs e1=>cases hq;exact⟨e,cs,e1,rfl⟩
 ·cases hq
theorem ak8{P:apK}{o:Oper}{ρ:Operand->AV}{h h1:apH an}{a:VA}{x:AV}{p:Prop}(hv:jl o=true)(hk:bZ o=0)(hx:iq P o.op ρ h a=some (x,h1,p))(hp:p):h1=h/\∀h',iN h h'->∃p',iq P o.op ρ h' a=some (x,h',p')/\p':=by
 obtain⟨dst,op,type,pos,after,guard⟩:=o;cases op with
 |indexAddr T y i=>
  simp only[iq]at hx ⊢;split at hx
  ·next n o len L k z e k' i' e1 e2 e3=>
   split at hx
   ·next e4 k2 cs hn=>
    obtain⟨hb,he⟩:=lZ hx;cases he
    rw[aoU,beq_iff_eq,beq_iff_eq]at hb;obtain⟨rfl,rfl⟩:=hb;refine⟨rfl,λh' hh=> ?_⟩;obtain⟨e5,cs5,q1,q2⟩:=Up (hh n _ (Vf hn));simp only[q1,apC,Bool.and_self,cond_true];exact⟨_,rfl,by rw[q2];exact hp.1,hp.2⟩
   ·cases hx
  ·cases hx
 |fieldAddr T y f=>
  simp only[iq]at hx ⊢;split at hx
  ·next e1 e2=>cases hx;exact⟨rfl,λh' _=>⟨_,rfl,trivial⟩⟩
  ·cases hx
 |nilCheck y=>
  simp only[iq]at hx ⊢;split at hx
  ·next e1=>cases hx;exact⟨rfl,λh' _=>⟨_,rfl,trivial⟩⟩
  ·cases hx
 |call c=>
  cases hc:c.callee with
  |builtin b=>
   cases b with
   |len=>
    simp only[iq,hc]at hx ⊢;split at hx
    ·split at hx
     ·next n o len L k e1=>
      split at hx
      ·next e2 k2 cs hn=>
       obtain⟨hb,he⟩:=lZ hx;cases he
       rw[aoU,beq_iff_eq]at hb;obtain⟨iL,rfl⟩:=hb;refine⟨rfl,λh' hh=> ?_⟩;obtain⟨e5,cs5,q1,q2⟩:=Up (hh n _ (Vf hn));simp only[q1,iL,apC,Bool.and_self,cond_true];exact⟨_,rfl,by rw[q2];exact hp⟩
      ·cases hx
     ·cases hx
    ·cases hx
   |_=>simp [jl,hc]at hv
  |_=>simp [jl,hc]at hv
 |load t y=>simp [bZ]at hk
 |store t y z=>simp [bZ]at hk
 |_=>simp [jl]at hv
theorem ae9{P:apK}{o:Oper}{ρ:Operand->AV}{h h1:apH an}{a:VA}{x:AV}{p:Prop}(hv:jl o=true)(hk:bZ o=1)(hx:iq P o.op ρ h a=some (x,h1,p))(hp:p):h1=h/\∀h',iS h h'->∃p',iq P o.op ρ h' a=some (x,h',p')/\p':=by
 obtain⟨dst,op,type,pos,after,guard⟩:=o;cases op with
 |load t y=>
  simp only[iq]at hx ⊢;split at hx
  ·next n i j L k c e1=>
   split at hx
   ·next e2 k' cs z hn hz=>
    obtain⟨hb,he⟩:=lZ hx;cases he
    refine⟨rfl,λh' hh=> ?_⟩;simp only[hh n _ hn rfl,hz,hb,cond_true];exact⟨_,rfl,hp⟩
   ·cases hx
  ·cases hx
 |indexAddr T y i=>simp [bZ]at hk
 |fieldAddr T y f=>simp [bZ]at hk
 |nilCheck y=>simp [bZ]at hk
 |call c=>
  cases hc:c.callee with
  |builtin b=>cases b<;>simp [bZ,hc]at hk
  |value f=>cases ml:qA f<;>simp [bZ,hc,ml]at hk
  |invoke=>simp [bZ,hc]at hk
 |store t y z=>simp [bZ]at hk
 |_=>simp [jl]at hv
theorem am5{P:apK}{o:Oper}{ρ:Operand->AV}{h h1:apH an}{a:VA}{x:AV}{p:Prop}(hv:jl o=true)(hk:bZ o=3)(hx:iq P o.op ρ h a=some (x,h1,p))(hp:p):iE h h1:=by
 obtain⟨dst,op,type,pos,after,guard⟩:=o;cases op with
 |store t y z=>
  simp only[iq]at hx;split at hx
  ·next n i j L k c bJ e1=>
   split at hx
   ·next e k' cs q hn hz=>
    obtain⟨hb,he⟩:=lZ hx;cases he
    simp only[aoU,beq_iff_eq]at hb;refine iE.set hn ?_;simp only[ny,List.length_set,hp.2.2,hb.1.1.1.1]
   ·cases hx
  ·cases hx
 |load t y=>simp [bZ]at hk
 |indexAddr T y i=>simp [bZ]at hk
 |fieldAddr T y f=>simp [bZ]at hk
 |nilCheck y=>simp [bZ]at hk
 |call c=>
  cases hc:c.callee with
  |builtin b=>cases b<;>simp [bZ,hc]at hk
  |value f=>cases ml:qA f<;>simp [bZ,hc,ml]at hk
  |invoke=>simp [bZ,hc]at hk
 |_=>simp [jl]at hv
def jo(m:Bool)(o:Oper):Nat:=bif nw m o then 7 else bZ o
def dT(m:Bool)(P:apK)(o:Oper)(ρ:Operand->AV)(h:apH an)(x:AV)(h1:apH an):Prop:=
 match jo m o with
 |0=>h1=h/\∀h',(m=true\/iN h h')->∀C:AV->apH an->Prop,C x h'->jv P o ρ h' C
 |1=>h1=h/\∀h',iS h h'->∀C:AV->apH an->Prop,C x h'->jv P o ρ h' C
 |2=>∃B,ny (some B)=none/\x= .ptr h.length 0/\h1=h++[B]/\∀h'(C:AV->apH an->Prop),C (.ptr h'.length 0) (h'++[B])->jv P o ρ h' C
 |3=>iE h h1/\∀C:AV->apH an->Prop,C x h1->jv P o ρ h C
 |4=>h1=h/\∀e(C:AV->apH an->Prop),C x (h++e)->jv P o ρ (h++e) C
 |5=>(iS h h1/\iS h1 h/\iE h h1)/\∀C:AV->apH an->Prop,C x h1->jv P o ρ h C
 |6=>∃e0,h1=h++e0/\∀C:AV->apH an->Prop,C x h1->jv P o ρ h C
 |7=>∀C:AV->apH an->Prop,C x h1->jv P o ρ h C
 |_=>False
section
variable {P:apK} {o:Oper} {ρ ρ':Operand->AV} {h:apH an} {C:AV->apH an->Prop}
theorem anq{p:AV}{K:apH AV->Nat->Prop}(hp:ux h p K):∃cs off,K cs off/\∀h',iS h h'->∀K':apH AV->Nat->Prop,K' cs off->ux h' p K':=by
 unfold ux at hp ⊢;split at hp
 ·rename_i n off
  split at hp
  ·rename_i cs gd
   refine⟨cs,off,hp,λh' hh K' hk=> ?_⟩;rw[hh n _ gd rfl];exact hk
  ·exact hp.elim
 ·rename_i xs i off
  split at hp
  ·rename_i cs gd
   refine⟨_,off,hp,λh' _ K' hk=> ?_⟩;exact hk
  ·exact hp.elim
 ·exact hp.elim
theorem aij{t:Nat}{p:AV}{K:AV->Prop}(hp:oI P t h p K):∃x,K x/\∀h',iS h h'->∀K':AV->Prop,K' x->oI P t h' p K':=by
 unfold oI at hp ⊢;obtain⟨cs,off,h1,h2⟩:=anq hp;split at h1
 ·rw[bN]at h1;refine⟨_,h1.2,λh' hh K' lF=>h2 h' hh _ ?_⟩;exact bN.2 ⟨h1.1,lF⟩
 ·split at h1
  ·rename_i c hc
   refine⟨c,h1,λh' hh K' lF=>h2 h' hh _ ?_⟩;simp only[hc];exact lF
  ·exact h1.elim
 ·exact h1.elim
theorem vV{x:apJ Operand}{d:Nat}{F:Nat->Prop}(hx:jV ρ x d F):∃m,F m/\∀F':Nat->Prop,F' m->jV ρ x d F':=by
 cases x with
 |none=>exact⟨d,hx,λ_ h=>h⟩
 |some y=>
  simp only[jV]at hx;split at hx
  ·rename_i z hz
   exact⟨_,hx.2,λF' hF=>by simp only[jV,hz];exact⟨hx.1,hF⟩⟩
  ·exact hx.elim
theorem aiz(hk:bZ o=0)(hc:cm P o ρ h C):∃x,C x h/\∀h'(C':AV->apH an->Prop),C' x h'->cm P o ρ h' C':=by
 have wG:∀(F:(AV->Prop)->Prop),(∀K,F K->∃x,K x/\∀K',K' x->F K')->F (λx=>C x h)->(∀h' C',cm P o ρ h' C'=F (λx=>C' x h'))->∃x,C x h/\∀h'(C':AV->apH an->Prop),C' x h'->cm P o ρ h' C':=λF hF h0 he=>by
  obtain⟨x,h1,h2⟩:=hF _ h0;exact⟨x,h1,λh' C' dh=>by rw[he];exact h2 _ dh⟩
 obtain⟨dst,op,type,pos,after,guard⟩:=o;cases op with
 |move a=>exact⟨ρ a,hc,λ_ _ h=>h⟩
 |assign a=>exact⟨ρ a,hc,λ_ _ h=>h⟩
 |pick c a b=>
  simp only[cm]at hc;split at hc
  ·rename_i t ht
   cases t with
   |true=>exact⟨ρ a,hc.1 rfl,λh' C' dh=>by simp only[cm,ht];exact⟨λ_=>dh,λe=>by cases e⟩⟩
   |false=>exact⟨ρ b,hc.2 rfl,λh' C' dh=>by simp only[cm,ht];exact⟨λe=>(by cases e),λ_=>dh⟩⟩
  ·exact hc.elim
 |nilCheck a=>
  simp only[cm]at hc;split at hc
  ·rename_i m off e;exact⟨_,hc,λh' C' dh=>by simp only[cm,e];exact dh⟩
  ·rename_i xs i off e;exact⟨_,hc,λh' C' dh=>by simp only[cm,e];exact dh⟩
  ·rename_i f cs e;exact⟨_,hc,λh' C' dh=>by simp only[cm,e];exact dh⟩
  ·exact hc.elim
 |fieldAddr t a f=>
  simp only[cm]at hc;split at hc
  ·rename_i fo k g hf
   split at hc
   ·rename_i m off e;exact⟨_,hc,λh' C' dh=>by simp only[cm,hf,e];exact dh⟩
   ·rename_i xs i off e;exact⟨_,hc,λh' C' dh=>by simp only[cm,hf,e];exact dh⟩
   ·exact hc.elim
  ·exact hc.elim
 |field t a f=>
  refine wG (x6 P t (ρ a) f) (λK hK=> ?_) hc (λ_ _=>rfl);unfold x6 at hK ⊢;split at hK
  ·rw[bN]at hK;exact⟨_,hK.2,λK' ep=>bN.2 ⟨hK.1,ep⟩⟩
  ·split at hK
   ·rename_i c im;exact⟨c,hK,λK' ep=>ep⟩
   ·exact hK.elim
  ·exact hK.elim
 |indexAddr t a b=>
  refine wG (tC P t (ρ a) (ρ b)) (λK hK=> ?_) hc (λ_ _=>rfl);unfold tC at hK ⊢;split at hK
  ·rename_i e k hT
   split at hK
   ·rename_i n off len cap k'
    split at hK
    ·rename_i z hz
     rw[bN]at hK;obtain⟨h1,h2,h3,h4⟩:=hK;exact⟨_,h4,λK' ep=>bN.2 ⟨h1,h2,h3,ep⟩⟩
    ·exact hK.elim
   ·split at hK
    ·rename_i xs z lJ hz
     obtain⟨h0,hK⟩:=hK;split at hK
     ·rename_i c im
      exact⟨_,hK.2,λK' ep=>⟨h0,hK.1,ep⟩⟩
     ·exact hK.elim
    ·exact hK.elim
  ·split at hK
   ·rename_i n e k b' off z hT hz
    obtain⟨h1,h2,h3⟩:=hK;exact⟨_,h3,λK' ep=>⟨h1,h2,ep⟩⟩
   ·rename_i n e k xs i' off z hT hz
    rw[bN]at hK;obtain⟨h0,h1,h2,h3⟩:=hK;split at h3
    ·rename_i c im
     split at h3
     ·rename_i d hd
      exact⟨_,h3,λK' ep=>bN.2 ⟨h0,h1,h2,ep⟩⟩
     ·exact h3.elim
    ·exact h3.elim
   ·exact hK.elim
 |index t a b=>
  simp only[cm]at hc;split at hc
  ·rename_i bb z e1 e2
   rw[bN]at hc;obtain⟨h1,h2,h3⟩:=hc;split at h3
   ·rename_i c im
    exact⟨_,h3,λh' C' dh=>by simp only[cm,e1,e2];exact bN.2 ⟨h1,h2,by simp only[im];exact dh⟩⟩
   ·exact h3.elim
  ·exact hc.elim
 |build t ps=>
  refine wG (yJ P t (ps.toList.map λp:Nat×Operand=>(p.1,ρ p.2))) (λK hK=> ?_) hc (λ_ _=>rfl);unfold yJ at hK ⊢;split at hK
  ·split at hK
   ·rename_i cs gd
    rw[bN]at hK;exact⟨_,hK.2,λK' ep=>bN.2 ⟨hK.1,ep⟩⟩
   ·exact hK.elim
  ·exact hK.elim
 |buildSlice t n ps=>
  refine wG (yo P t n (ps.toList.map λp:Nat×Operand=>(p.1,ρ p.2))) (λK hK=> ?_) hc (λ_ _=>rfl);unfold yo at hK ⊢;split at hK
  ·split at hK
   ·split at hK
    ·rename_i cs gd
     split at hK
     ·rename_i ds sF
      rw[bN]at hK;exact⟨_,hK.2,λK' ep=>bN.2 ⟨hK.1,ep⟩⟩
     ·exact hK.elim
    ·exact hK.elim
   ·exact hK.elim
  ·exact hK.elim
 |slice t a lo hi mx=>
  refine wG (u6 P t ρ (ρ a) lo hi mx) (λK hK=> ?_) hc (λ_ _=>rfl);unfold u6 at hK ⊢;split at hK
  ·split at hK
   ·rw[bN]at hK;obtain⟨h0,hK⟩:=hK;obtain⟨m1,hK,j1⟩:=vV hK;obtain⟨h1,hK⟩:=hK;obtain⟨m2,hK,j2⟩:=vV hK;obtain⟨h2,hK⟩:=hK;exact⟨_,hK,λK' ep=>bN.2 ⟨h0,j1 _ ⟨h1,j2 _ ⟨h2,ep⟩⟩⟩⟩
   ·split at hK
    ·rw[bN]at hK;obtain⟨h0,hK⟩:=hK;obtain⟨m1,hK,j1⟩:=vV hK;rw[bN]at hK;obtain⟨h1,hK⟩:=hK;obtain⟨m2,hK,j2⟩:=vV hK;rw[bN]at hK;obtain⟨h2,hK⟩:=hK;exact⟨_,hK,λK' ep=>by rw[bN];exact⟨h0,j1 _ (by rw[bN];exact⟨h1,j2 _ (by rw[bN];exact⟨h2,ep⟩)⟩)⟩⟩
    ·exact hK.elim
   ·split at hK
    ·obtain⟨h0,hK⟩:=hK;obtain⟨m1,hK,j1⟩:=vV hK;obtain⟨h1,hK⟩:=hK;obtain⟨m2,hK,j2⟩:=vV hK;obtain⟨h2,hK⟩:=hK;exact⟨_,hK,λK' ep=>⟨h0,j1 _ ⟨h1,j2 _ ⟨h2,ep⟩⟩⟩⟩
    ·exact hK.elim
  ·split at hK
   ·split at hK
    ·obtain⟨h0,hK⟩:=hK;obtain⟨m1,hK,j1⟩:=vV hK;obtain⟨h1,hK⟩:=hK;obtain⟨m2,hK,j2⟩:=vV hK;obtain⟨h2,hK⟩:=hK;exact⟨_,hK,λK' ep=>⟨h0,j1 _ ⟨h1,j2 _ ⟨h2,ep⟩⟩⟩⟩
    ·exact hK.elim
   ·exact hK.elim
 |extract a i=>
  simp only[cm]at hc;split at hc
  ·rename_i cs e
   split at hc
   ·rename_i c im;exact⟨c,hc,λh' C' dh=>by simp only[cm,e,im];exact dh⟩
   ·exact hc.elim
  ·exact hc.elim
 |makeFunc fn first cU=>
  cases fn with
  |func f=>
   simp only[cm]at hc;split at hc
   ·rename_i e;exact⟨_,hc,λh' C' dh=>by simp only[cm,e];exact dh⟩
   ·exact hc.elim
  |_=>exact hc.elim
 |binOp op t a b u=>
  refine wG (yz P t op (ρ a) (ρ b)) (λK hK=> ?_) hc (λ_ _=>rfl);unfold yz at hK ⊢;split at hK
  ·split at hK
   ·rw[bN]at hK;exact⟨_,hK.2.2,λK' ep=>bN.2 ⟨hK.1,hK.2.1,ep⟩⟩
   ·split at hK
    ·exact⟨_,hK.2,λK' ep=>⟨hK.1,ep⟩⟩
    ·split at hK
     ·rw[bN]at hK;exact⟨_,hK.2,λK' ep=>bN.2 ⟨hK.1,ep⟩⟩
     ·exact hK.elim
  ·split at hK
   ·exact⟨_,hK,λK' ep=>ep⟩
   ·split at hK
    ·exact⟨_,hK.2,λK' ep=>⟨hK.1,ep⟩⟩
    ·exact hK.elim
  ·split at hK
   ·rw[bN]at hK;exact⟨_,hK.2,λK' ep=>bN.2 ⟨hK.1,ep⟩⟩
   ·exact hK.elim
  ·split at hK
   ·split at hK
    ·exact⟨_,hK,λK' ep=>ep⟩
    ·exact hK.elim
   ·exact hK.elim
  ·exact hK.elim
 |unOp op t a=>
  refine wG (xc op (ρ a)) (λK hK=> ?_) hc (λ_ _=>rfl);unfold xc at hK ⊢;split at hK
  ·split at hK
   ·exact⟨_,hK,λK' ep=>ep⟩
   ·exact hK.elim
  ·exact hK.elim
 |convert t u a=>
  refine wG (w6 P t u (ρ a)) (λK hK=> ?_) hc (λ_ _=>rfl);unfold w6 at hK ⊢;split at hK
  ·split at hK
   ·exact⟨_,hK,λK' ep=>ep⟩
   ·exact hK.elim
  ·rw[bN]at hK;exact⟨_,hK.2,λK' ep=>bN.2 ⟨hK.1,ep⟩⟩
  ·split at hK
   ·rw[bN]at hK;obtain⟨h1,ns,h2,h3⟩:=hK;exact⟨_,h3,λK' ep=>bN.2 ⟨h1,ns,h2,ep⟩⟩
   ·exact hK.elim
 |call c=>
  simp only[bZ]at hk;cases fa:c.callee with
  |value f=>cases ml:qA f<;>simp [fa,ml]at hk
  |invoke=>simp [fa]at hk
  |builtin b=>
   cases b with
   |len=>
    simp only[cm,fa]at hc;split at hc
    ·rename_i x T e1 e2
     have key:∀F:Nat->Prop,sV P T (ρ x) F->∃m,F m/\∀F':Nat->Prop,F' m->sV P T (ρ x) F':=λF hF=>by
      unfold sV at hF ⊢;split at hF
      ·rw[bN]at hF;exact⟨_,hF.2,λF' ly=>bN.2 ⟨hF.1,ly⟩⟩
      ·rw[bN]at hF;exact⟨_,hF.2,λF' ly=>bN.2 ⟨hF.1,ly⟩⟩
      ·split at hF
       ·rw[bN]at hF;exact⟨_,hF.2,λF' ly=>bN.2 ⟨hF.1,ly⟩⟩
       ·exact hF.elim
     obtain⟨m,h1,h2⟩:=key _ hc;exact⟨_,h1,λh' C' dh=>by simp only[cm,fa,e1,e2];exact h2 _ dh⟩
    ·exact hc.elim
   |max=>
    simp only[cm,fa]at hc;split at hc
    ·rename_i e1
     exact⟨_,hc,λh' C' dh=>by simp only[cm,fa,e1];exact dh⟩
    ·exact hc.elim
   |min=>
    simp only[cm,fa]at hc;split at hc
    ·rename_i e1
     exact⟨_,hc,λh' C' dh=>by simp only[cm,fa,e1];exact dh⟩
    ·exact hc.elim
   |_=>simp [fa]at hk
 |_=>simp [bZ]at hk
theorem aly(hk:bZ o=2)(hc:cm P o ρ h C):∃B,ny (some B)=none/\C (.ptr h.length 0) (h++[B])/\∀h'(C':AV->apH an->Prop),C' (.ptr h'.length 0) (h'++[B])->cm P o ρ h' C':=by
 obtain⟨dst,op,type,pos,after,guard⟩:=o;cases op with
 |alloc e=>
  simp only[cm]at hc;split at hc
  ·rename_i z hz;exact⟨_,rfl,hc,λh' C' dh=>by simp only[cm,hz];exact dh⟩
  ·exact hc.elim
 |box e x=>
  simp only[cm]at hc;rw[bN]at hc;exact⟨_,rfl,hc.2,λh' C' dh=>by simp only[cm];rw[bN];exact⟨hc.1,dh⟩⟩
 |call c=>
  simp only[bZ]at hk;cases fa:c.callee with
  |value f=>cases ml:qA f<;>simp [fa,ml]at hk
  |invoke=>simp [fa]at hk
  |builtin b=>cases b<;>simp [fa]at hk
 |_=>simp [bZ]at hk
theorem aex(hk:bZ o=3)(hc:cm P o ρ h C):∃x h1,C x h1/\iE h h1/\∀C':AV->apH an->Prop,C' x h1->cm P o ρ h C':=by
 obtain⟨dst,op,type,pos,after,guard⟩:=o;cases op with
 |store t a b=>
  simp only[cm]at hc;have key:∀F:apH an->Prop,yt P t h (ρ a) (ρ b) F->∃h1,F h1/\iE h h1/\∀F':apH an->Prop,F' h1->yt P t h (ρ a) (ρ b) F':=λF hF=>by
   unfold yt at hF ⊢;split at hF
   ·split at hF
    ·next hn=>
     split at hF
     ·rw[bN]at hF;exact⟨_,hF.2,iE.set hn rfl,λF' ly=>bN.2 ⟨hF.1,ly⟩⟩
     ·exact hF.elim
    ·exact hF.elim
   ·exact hF.elim
  obtain⟨h1,k1,kv,k2⟩:=key _ hc;exact⟨_,h1,k1,kv,λC' dh=>by simp only[cm];exact k2 _ dh⟩
 |makeMap t r=>
  simp only[cm]at hc;split at hc
  ·rename_i x h' p hx
   refine⟨x,h',hc.2,?_,λC' dh=>by simp only[cm,hx];exact⟨hc.1,dh⟩⟩;unfold pN at hx;cases r with
   |none=>
    simp only at hx;split at hx
    ·cases hx;exact iE.app rfl
    ·cases hx
   |some r=>cases hx
  ·exact hc.elim
 |mapUpdate t a b c=>
  simp only[cm]at hc;split at hc
  ·rename_i x h' p hx
   refine⟨x,h',hc.2,?_,λC' dh=>by simp only[cm,hx];exact⟨hc.1,dh⟩⟩;unfold pN at hx;simp only at hx;split at hx
   ·split at hx
    ·split at hx
     ·next hn=>
      obtain⟨hb,he⟩:=lZ hx;cases he
      exact iE.set hn rfl
     ·cases hx
    ·cases hx
   ·cases hx
  ·exact hc.elim
 |call c=>
  simp only[bZ]at hk;cases fa:c.callee with
  |value f=>cases ml:qA f<;>simp [fa,ml]at hk
  |invoke=>simp [fa]at hk
  |builtin b=>cases b<;>simp [fa]at hk
 |_=>simp [bZ]at hk
theorem Wj{n:Nat}{e:TypeId}{k l e' k' l':Nat}(hn:h[n]?=some (.front e' k' l')):iS h (h.set n (.front e k l))/\iS (h.set n (.front e k l)) h:=by
 refine⟨λm cs hm hc=> ?_,λm cs hm hc=> ?_⟩
 ·have:n≠m:=λe=>by subst e;rw[hn]at hm;cases hm;cases hc
  rw[apr this];exact hm
 ·by_cases e:n=m
  ·subst e;rw[apl (aoS.1 hn).1]at hm;cases hm;cases hc
  ·rw[apr e]at hm;exact hm
theorem IV{e:TypeId}{k l:Nat}:iS h (h++[.front e k l])/\iS (h++[.front e k l]) h:=by
 refine⟨iS.app _ _,λm cs hm hc=> ?_⟩;by_cases hl:m<h.length
 ·rw[ao2 hl]at hm;exact hm
 ·rw[ao8 (by omega)]at hm;by_cases h0:m-h.length=0
  ·rw[h0]at hm;cases hm;cases hc
  ·rw[apo (by simp;omega)]at hm;cases hm
theorem afG(hk:bZ o=5)(hc:cm P o ρ h C):∃x h1,C x h1/\(iS h h1/\iS h1 h/\iE h h1)/\∀C':AV->apH an->Prop,C' x h1->cm P o ρ h C':=by
 obtain⟨dst,op,type,pos,after,guard⟩:=o;cases op with
 |call c=>
  simp only[bZ]at hk;cases fa:c.callee with
  |value f=>cases ml:qA f<;>simp [fa,ml]at hk
  |invoke=>simp [fa]at hk
  |builtin b=>
   cases b with
   |append=>
    simp only[cm,fa]at hc;split at hc
    ·rename_i x y T U e1 e2
     rw[bN]at hc;have aeb:∀(k:Nat)(y:AV)(F:apH (apH D)->Prop),uH h k y F->∃ys,F ys/\∀F':apH (apH D)->Prop,F' ys->uH h k y F':=λk y F hF=>by
       unfold uH at hF ⊢;split at hF
       ·split at hF
        ·split at hF
         ·rw[bN]at hF;exact⟨_,hF.2,λF' ly=>bN.2 ⟨hF.1,ly⟩⟩
         ·exact hF.elim
        ·exact hF.elim
       ·split at hF
        ·exact⟨_,hF.2,λF' ly=>⟨hF.1,ly⟩⟩
        ·exact hF.elim
     have key:∀F:AV->apH an->Prop,uW P T h (ρ x) (ρ y) F->∃v h1,F v h1/\(iS h h1/\iS h1 h/\iE h h1)/\∀F':AV->apH an->Prop,F' v h1->uW P T h (ρ x) (ρ y) F':=λF hF=>by
      unfold uW at hF ⊢;split at hF
      ·split at hF
       ·rw[bN]at hF;obtain⟨h0,hF⟩:=hF;obtain⟨ys,hF,hs⟩:=aeb _ _ _ hF;split at hF
        ·split at hF
         ·rename_i hn
          rw[bN]at hF;obtain⟨g1,g2,g3,g4,g5,g6⟩:=hF;exact⟨_,_,g6,⟨(Wj hn).1,(Wj hn).2,iE.set hn rfl⟩,λF' ly=>bN.2 ⟨h0,hs _ (bN.2 ⟨g1,g2,g3,g4,g5,ly⟩)⟩⟩
         ·exact hF.elim
        ·obtain⟨g4,g5,g6⟩:=hF;exact⟨_,_,g6,⟨IV.1,IV.2,iE.app rfl⟩,λF' ly=>bN.2 ⟨h0,hs _ ⟨g4,g5,ly⟩⟩⟩
        ·obtain⟨g3,g4,g5,g6⟩:=hF;exact⟨_,_,g6,⟨IV.1,IV.2,iE.app rfl⟩,λF' ly=>bN.2 ⟨h0,hs _ ⟨g3,g4,g5,ly⟩⟩⟩
        ·exact hF.elim
       ·exact hF.elim
      ·exact hF.elim
     obtain⟨v,h1,k1,c1,k2⟩:=key _ hc.2;exact⟨v,h1,k1,c1,λC' dh=>by simp only[cm,fa,e1,e2];rw[bN];exact⟨hc.1,k2 _ dh⟩⟩
    ·exact hc.elim
   |_=>simp [fa]at hk
 |_=>simp [bZ]at hk
theorem WI{m:Bool}(j6:nw m o=false){s:St}{K:St->Prop}(hd:zO P o K s):∃x h1,dT m P o (ev s) s.h x h1/\K ((s.wh h1).put o.dst x):=by
 have km:jo m o=bZ o:=by unfold jo;rw[j6];rfl
 have plain:rC P o K s->bZ o≠4->bZ o≠6->∃x h1,dT m P o (ev s) s.h x h1/\K ((s.wh h1).put o.dst x):=λha YT Cs=>by
  unfold rC at ha;by_cases h0:bZ o=0
  ·obtain⟨x,h1,h2⟩:=aiz h0 ha;exact⟨x,s.h,by unfold dT;rw[km,h0];exact⟨rfl,λh' _ C' dh=> .inl (h2 h' C' dh)⟩,h1⟩
  ·by_cases h1:bZ o=1
   ·obtain⟨dst,op,type,pos,after,guard⟩:=o;cases op with
    |load t a=>
     simp only[cm]at ha;obtain⟨x,k1,k2⟩:=aij ha;exact⟨x,s.h,by unfold dT;rw[km,h1];exact⟨rfl,λh' hh C' dh=> .inl (by simp only[cm];exact k2 h' hh _ dh)⟩,k1⟩
    |lookup t a b ok=>
     simp only[cm]at ha;split at ha
     ·rename_i x h' p hx
      obtain⟨rfl,k2⟩:=ak3 hx;exact⟨x,s.h,by unfold dT;rw[km,h1];exact⟨rfl,λh' hh C' dh=> .inl (by simp only[cm,k2 h' hh];exact⟨ha.1,dh⟩)⟩,ha.2⟩
     ·exact ha.elim
    |call c=>
     simp only[bZ]at h1;cases fa:c.callee with
     |value f=>cases ml:qA f<;>simp [fa,ml]at h1
     |invoke=>simp [fa]at h1
     |builtin b=>cases b<;>simp [fa]at h1
    |_=>simp [bZ]at h1
   ·by_cases h2:bZ o=2
    ·obtain⟨B,kB,k1,k2⟩:=aly h2 ha;exact⟨_,_,by unfold dT;rw[km,h2];exact⟨B,kB,rfl,rfl,λh' C' dh=> .inl (k2 h' C' dh)⟩,k1⟩
    ·by_cases h3:bZ o=3
     ·obtain⟨x,rT,k1,kv,k2⟩:=aex h3 ha;exact⟨x,rT,by unfold dT;rw[km,h3];exact⟨kv,λC' dh=> .inl (k2 C' dh)⟩,k1⟩
     ·by_cases h5:bZ o=5
      ·obtain⟨x,rT,k1,c1,k2⟩:=afG h5 ha;exact⟨x,rT,by unfold dT;rw[km,h5];exact⟨c1,λC' dh=> .inl (k2 C' dh)⟩,k1⟩
      exfalso;obtain⟨dst,op,type,pos,after,guard⟩:=o;cases op with
      |call c=>
       simp only[bZ]at h0 h3 YT Cs h5;simp only[cm]at ha;cases fa:c.callee with
       |value f=>cases ml:qA f<;>simp [fa,ml]at YT Cs
       |invoke=>simp only[fa]at ha
       |builtin b=>cases b<;>simp only[fa]at ha h0 h3 h5<;>first|exact ha|exact absurd rfl h0|exact absurd rfl h3|exact absurd rfl h5|exact h3 trivial|exact h0 trivial|exact h5 trivial
      |_=>first|exact absurd rfl h0|exact absurd rfl h1|exact absurd rfl h2|exact absurd rfl h3|exact ha
 unfold zO at hd;split at hd
 ·rename_i c hop
  split at hd
  ·rename_i f fa
   have fin:∀x:AV,(∀e,∀C':AV->apH an->Prop,C' x (s.h++e)->cm P o (ev s) (s.h++e) C')->dT m P o (ev s) s.h x s.h:=λx hx=>by
    have hk:bZ o=4\/bZ o=6:=by
     unfold bZ;simp only[hop,fa];cases qA f<;>simp
    unfold dT;rw[km];rcases hk with hk|hk
    ·rw[hk];exact⟨rfl,λe C' dh=> .inl (hx e C' dh)⟩
    ·rw[hk];refine⟨[],(apd _).symm,λC' dh=> .inl ?_⟩;have:=hx [] C' (by rw[apd];exact dh)
     rwa [apd]at this
   split at hd
   ·rename_i g cU hg
    obtain⟨x,hK,jr⟩:=hd;refine⟨x,s.h,fin x λe C' dh=> ?_,hK⟩;unfold cm;simp only[hop,fa,hg];exact(jr e).mono λr' h' ⟨e1,e2⟩=>by subst e1;subst e2;exact dh
   ·rename_i q hg
    obtain⟨g,as,eq,x,hK,jr⟩:=hd;refine⟨x,s.h,fin x λe C' dh=> ?_,hK⟩;unfold cm;simp only[hop,fa,hg];exact⟨g,as,eq,(jr e).mono λr' h' ⟨e1,e2⟩=>by subst e1;subst e2;exact dh⟩
   ·exact hd.elim
  ·rename_i fa
   exact plain hd (by
    unfold bZ;simp only[hop];cases hc:c.callee with
    |value f=>exact absurd hc (fa f)
    |invoke=>simp
    |builtin b=>cases b<;>simp) (by
    unfold bZ;simp only[hop];cases hc:c.callee with
    |value f=>exact absurd hc (fa f)
    |invoke=>simp
    |builtin b=>cases b<;>simp)
 ·rename_i hop
  exact plain hd (by
   unfold bZ;split<;>first|(rename_i c hc;exact(hop c hc).elim)|simp) (by
   unfold bZ;split<;>first|(rename_i c hc;exact(hop c hc).elim)|simp)
theorem Yj{m:Bool}{h1:apH an}{x:AV}(h0:dT m P o ρ h x h1):∀C:AV->apH an->Prop,C x h1->jv P o ρ h C:=λC hC=>by
 unfold dT at h0;split at h0
 ·obtain⟨e,h0⟩:=h0;subst e;exact h0 _ (.inr (iN.refl _)) _ hC
 ·obtain⟨e,h0⟩:=h0;subst e;exact h0 _ (iS.refl _) _ hC
 ·obtain⟨B,_,rfl,rfl,h0⟩:=h0;exact h0 _ _ hC
 ·exact h0.2 _ hC
 ·obtain⟨e,h0⟩:=h0;subst e;have:=h0 [] C (by rw[apd];exact hC)
  rwa [apd]at this
 ·exact h0.2 _ hC
 ·obtain⟨e0,_,h0⟩:=h0;exact h0 _ hC
 ·exact h0 _ hC
 ·exact h0.elim
theorem QO{m:Bool}{s:St}{K:St->Prop}(hd:yN m P o K s):∃x h1,dT m P o (ev s) s.h x h1/\K ((s.wh h1).put o.dst x):=by
 cases j6:nw m o with
 |true=>
  have k7:jo m o=7:=by unfold jo;rw[j6];rfl
  rcases hd with hd|⟨_,x,h1,hK,hc⟩|⟨hv,a,x,h',p,hx,hp,hK⟩|⟨_,x,e0,hK,hc⟩
  ·obtain⟨x,h1,h2,hK⟩:=WI (m:=false) rfl hd;refine⟨x,h1,?_,hK⟩;have:=Yj h2;unfold dT;rw[k7];exact this
  ·exact⟨x,h1,by unfold dT;rw[k7];exact λC hC=> .inl (hc C hC),hK⟩
  ·exact⟨x,h',by unfold dT;rw[k7];exact λC hC=> .inr ⟨hv.imp (·.1) (λe=>(aoU _ _▸e).2),a,x,h',p,hx,hp,hC⟩,hK⟩
  ·exact⟨x,_,by unfold dT;rw[k7];exact λC hC=> .inl (hc C hC),hK⟩
 |false=>
 have km:jo m o=bZ o:=by unfold jo;rw[j6];rfl
 rcases hd with hd|⟨hb,_⟩|⟨hv,a,x,h',p,hx,hp,hK⟩|⟨hk,x,e0,hK,hc⟩
 ·exact WI j6 hd
 ·rw[j6]at hb;cases hb
 ·obtain⟨hv,hm0⟩:jl o=true/\(m&&bZ o==0)=false:=hv.resolve_right λe=>by
   rw[aoU]at e;unfold nw at j6;rw[e.1,e.2]at j6;simp at j6
  have hk:bZ o=0\/bZ o=1\/bZ o=3:=by
   unfold jl at hv;unfold bZ;split at hv
   all_goals first|(next e=>simp only[e];simp)|skip
   ·next c e=>
    split at hv
    ·next e2=>simp only[e,e2];simp
    ·cases hv
   ·cases hv
  rcases hk with hk|hk|hk
  ·obtain⟨rfl,h2⟩:=ak8 hv hk hx hp;refine⟨x,_,?_,hK⟩;unfold dT;rw[km,hk];exact⟨rfl,λh' hh C hC=> .inr ⟨.inl hv,a,x,h',by obtain⟨p',q1,q2⟩:=h2 h' (hh.resolve_left λe=>by rw[e,hk]at hm0;cases hm0);exact⟨p',q1,q2,hC⟩⟩⟩
  ·obtain⟨rfl,h2⟩:=ae9 hv hk hx hp;refine⟨x,_,?_,hK⟩;unfold dT;rw[km,hk];exact⟨rfl,λh' hh C hC=> .inr ⟨.inl hv,a,x,h',by obtain⟨p',q1,q2⟩:=h2 h' hh;exact⟨p',q1,q2,hC⟩⟩⟩
  ·refine⟨x,h',?_,hK⟩;unfold dT;rw[km,hk];exact⟨am5 hv hk hx hp,λC hC=> .inr ⟨.inl hv,a,x,h',p,hx,hp,hC⟩⟩
 ·refine⟨x,_,?_,hK⟩;unfold dT;rw[km,hk];exact⟨e0,rfl,λC hC=> .inl (hc C hC)⟩
end
structure jc(s s':St):Prop where
 n:s.n=s'.n
 h:s.h=s'.h
 t:∀i,bp s.t i=bp s'.t i
theorem jc.refl(s:St):jc s s:=⟨rfl,rfl,λ_=>rfl⟩
theorem jc.symm{s s':St}(h:jc s s'):jc s' s:=⟨h.n.symm,h.h.symm,λi=>(h.t i).symm⟩
theorem jc.trans{a b c:St}(h:jc a b)(k:jc b c):jc a c:=⟨h.n.trans k.n,h.h.trans k.h,λi=>(h.t i).trans (k.t i)⟩
theorem ss(s:St)(d:apJ Nat)(x:AV)(i:Nat):bp (s.put d x).t i=if d=some i/\i<s.n then x else bp s.t i:=by
 cases d with
 |none=>simp [St.put]
 |some k=>
  by_cases hk:k<s.n
  ·rw[rG hk,mX];by_cases hi:i=k
   ·subst hi;simp [hk]
   ·rw[if_neg hi,if_neg (by simp;intro e;exact absurd e.symm hi)]
  ·rw[Ds hk];rw[if_neg (by rintro⟨e,aH⟩;cases e;exact hk aH)]
theorem ri(s:St)(d:apJ Nat)(x:AV):(s.put d x).n=s.n:=by
 cases d with
 |none=>rfl
 |some k=>
  by_cases hk:k<s.n
  ·rw[rG hk]
  ·rw[Ds hk]
theorem Gp(s:St)(d:apJ Nat)(x:AV):(s.put d x).h=s.h:=by
 cases d with
 |none=>rfl
 |some k=>
  by_cases hk:k<s.n
  ·rw[rG hk]
  ·rw[Ds hk]
theorem jc.put{s s':St}(h:jc s s')(h1:apH an)(d:apJ Nat)(x:AV):jc ((s.wh h1).put d x) ((s'.wh h1).put d x):=
 ⟨by rw[ri,ri];exact h.n,by rw[Gp,Gp];rfl,λi=>by
  rw[ss,ss];show(if d=some i/\i<s.n then x else bp s.t i)=(if d=some i/\i<s'.n then x else bp s'.t i);rw[h.n,h.t]⟩
theorem aeH(s:St)(h1 rT h2:apH an){d d':apJ Nat}(x x':AV)(cp:∀k,d=some k->d'≠some k):jc ((((s.wh h1).put d x).wh h2).put d' x') ((((s.wh rT).put d' x').wh h2).put d x):=by
 refine⟨by simp only[ri];show((s.wh h1).put d x).n=((s.wh rT).put d' x').n;simp only[ri];rfl,by simp only[Gp];rfl,λi=> ?_⟩;rw[ss,ss];show(if d'=some i/\i<((s.wh h1).put d x).n then x' else bp ((s.wh h1).put d x).t i)=(if d=some i/\i<((s.wh rT).put d' x').n then x else bp ((s.wh rT).put d' x').t i);rw[ri,ri,ss,ss];show(if d'=some i/\i<s.n then x' else(if d=some i/\i<s.n then x else bp s.t i))=(if d=some i/\i<s.n then x else(if d'=some i/\i<s.n then x' else bp s.t i));by_cases a:d=some i
 ·have:=cp i a;simp [a,this]
 ·simp [a]
section
variable {P:apK} {ops:Array Oper}
def nI(m:Bool)(P:apK)(ops:Array Oper)(o:Oper)(s:St)(x:AV)(h1:apH an):Prop:=
 (aGuard ops o s True False/\dT m P o (ev s) s.h x h1)\/(aGuard ops o s False True/\x= .d (.v undef)/\h1=s.h)
theorem Pf{o:Oper}{s:St}{yes no:Prop}(h:aGuard ops o s yes no):(aGuard ops o s True False/\yes)\/(aGuard ops o s False True/\no):=by
 unfold aGuard at h ⊢;split at h
 ·exact .inl ⟨trivial,h⟩
 ·rename_i j want hg
  split at h
  ·rename_i d hd
   split at h
   ·rename_i b hb
    by_cases xr:b=want
    ·exact .inl ⟨⟨λ_=>trivial,λe=>by subst xr;cases b<;>cases e⟩,h.1 xr⟩
    ·have DG:b= !want:=by cases b<;>cases want<;>simp_all
     exact .inr ⟨⟨λe=>(xr e).elim,λ_=>trivial⟩,h.2 DG⟩
   ·exact .inr ⟨trivial,h⟩
   ·exact h.elim
  ·exact h.elim
theorem wT{o:Oper}{s s':St}{yes no:Prop}(ht:∀d,d∈o.looksAt ops->bp s'.t d=bp s.t d)(h:aGuard ops o s yes no):aGuard ops o s' yes no:=by
 unfold aGuard at h ⊢;split at h
 ·exact h
 ·rename_i j want hg
  split at h
  ·rename_i d hd
   have:bp s'.t d=bp s.t d:=ht d (by unfold Oper.looksAt;rw[hg];simp [hd]);rw[this];exact h
  ·exact h.elim
theorem RE{m:Bool}{o:Oper}{s s':St}{x:AV}{h1:apH an}(ht:∀d,d∈o.looksAt ops->bp s'.t d=bp s.t d)(hh:s'.h=s.h)(h:nI m P ops o s x h1):nI m P ops o s' x h1:=by
 have c6:∀y∈o.op.operands,ev s y=ev s' y:=λy hy=>by
  cases y with
  |tmp t=>exact(ht t (by unfold Oper.looksAt;refine apv.2 (.inl (List.mem_filterMap.2 ⟨.tmp t,Array.mem_toList_iff.2 hy,rfl⟩)))).symm
  |_=>rfl
 rcases h with⟨g,hc⟩|⟨g,e1,e2⟩
 ·refine .inl ⟨wT ht g,?_⟩;rw[hh];have vW:∀h C,jv P o (ev s) h C=jv P o (ev s') h C:=λh C=>NV c6;unfold dT at hc ⊢;split at hc
  ·exact⟨hc.1,λh' hh C hC=>vW h' C▸hc.2 h' hh C hC⟩
  ·exact⟨hc.1,λh' hh C hC=>vW _ C▸hc.2 h' hh C hC⟩
  ·obtain⟨B,kB,a,b,c⟩:=hc;exact⟨B,kB,a,b,λh' C hC=>vW h' C▸c h' C hC⟩
  ·exact⟨hc.1,λC hC=>vW _ C▸hc.2 C hC⟩
  ·exact⟨hc.1,λe C hC=>vW _ C▸hc.2 e C hC⟩
  ·exact⟨hc.1,λC hC=>vW _ C▸hc.2 C hC⟩
  ·obtain⟨e0,a,b⟩:=hc;exact⟨e0,a,λC hC=>vW _ C▸b C hC⟩
  ·exact λC hC=>vW _ C▸hc C hC
  ·exact hc.elim
 ·exact .inr ⟨wT ht g,e1,e2.trans hh.symm⟩
theorem aaR{o:Oper}(h:bZ o=7):False:=by
 unfold bZ at h
 repeat' (first|(split at h)|cases h)
 all_goals (cases hg:qA _<;>rw[hg]at h<;>cases h)
theorem ahX{m:Bool}{o:Oper}{ρ:Operand->AV}{h h1:apH an}{x:AV}(h7:nw m o=false)(h0:dT m P o ρ h x h1):iN h h1:=by
 unfold dT at h0;unfold jo at h0;rw[h7]at h0;simp only[cond_false]at h0;split at h0
 ·rw[h0.1];exact iN.refl _
 ·rw[h0.1];exact iN.refl _
 ·obtain⟨B,kB,_,e,_⟩:=h0;rw[e];exact(iE.app kB).i
 ·exact h0.1.i
 ·rw[h0.1];exact iN.refl _
 ·exact h0.1.2.2.i
 ·obtain⟨e0,e,_⟩:=h0;rw[e];exact iN.app _ _
 ·next e=>exact(aaR e).elim
 ·exact h0.elim
theorem air{m:Bool}{o:Oper}{ρ:Operand->AV}{h h1:apH an}{x:AV}(h7:nw m o=false)(hk:bZ o≠6)(h0:dT m P o ρ h x h1):iN h1 h:=by
 unfold dT at h0;unfold jo at h0;rw[h7]at h0;simp only[cond_false]at h0;split at h0
 ·rw[h0.1];exact iN.refl _
 ·rw[h0.1];exact iN.refl _
 ·obtain⟨B,kB,_,e,_⟩:=h0;rw[e];exact(iE.app kB).j
 ·exact h0.1.j
 ·rw[h0.1];exact iN.refl _
 ·exact h0.1.2.2.j
 ·next e=>exact(hk e).elim
 ·next e=>exact(aaR e).elim
 ·exact h0.elim
def BO(m:Bool)(a b:Oper):Bool:=(m&&((qC a&&(!nw m b&&bZ b==0))||(qC b&&(!nw m a&&bZ a==0))))|| !nw m a&& !nw m b&&(bZ a==0||(bZ b==0&& !(bZ a==6))||((bZ a==1||bZ a==4)&&(bZ b==1||bZ b==4||bZ b==2||bZ b==6))||(bZ a==1&&bZ b==5)||(bZ a==5&&bZ b==1))
theorem aox{m:Bool}{oi oj:Oper}{s:St}{xi xj:AV}{hi hj:apH an}(Jb:oi.apart ops oj=true)(iI:BO m oi oj=true)(h1:nI m P ops oi s xi hi)(h2:nI m P ops oj ((s.wh hi).put oi.dst xi) xj hj):
 ∃iC,nI m P ops oj s xj iC/\nI m P ops oi ((s.wh iC).put oj.dst xj) xi hj:=by
 obtain⟨a1,a2,a3⟩:=Oper.apart_spec Jb;have tj:∀d,d∈oj.looksAt ops->bp s.t d=bp ((s.wh hi).put oi.dst xi).t d:=λd hd=>by
  rw[ss,if_neg (λe=>a1 d e.1 hd)];rfl
 have ti:∀(h':apH an) d,d∈oi.looksAt ops->bp ((s.wh h').put oj.dst xj).t d=bp s.t d:=λh' d hd=>by
  rw[ss,if_neg (λe=>a3 d e.1 hd)];rfl
 have e8:((s.wh hi).put oi.dst xi).h=hi:=by rw[Gp];rfl
 have nr:∀h',((s.wh h').put oj.dst xj).h=h':=λh'=>by rw[Gp];rfl
 have same:hi=s.h->nI m P ops oj s xj hj:=λe=>RE tj (by rw[e8,e]) h2;have evi:∀h',∀y∈oi.op.operands,ev ((s.wh h').put oj.dst xj) y=ev s y:=λh' y hy=>by
  cases y with
  |tmp t=>exact ti h' t (by unfold Oper.looksAt;refine apv.2 (.inl (List.mem_filterMap.2 ⟨.tmp t,Array.mem_toList_iff.2 hy,rfl⟩)))
  |_=>rfl
 have evj:∀y∈oj.op.operands,ev ((s.wh hi).put oi.dst xi) y=ev s y:=λy hy=>by
  cases y with
  |tmp t=>exact(tj t (by unfold Oper.looksAt;refine apv.2 (.inl (List.mem_filterMap.2 ⟨.tmp t,Array.mem_toList_iff.2 hy,rfl⟩)))).symm
  |_=>rfl
 have ci:∀h' h C,jv P oi (ev ((s.wh h').put oj.dst xj)) h C=jv P oi (ev s) h C:=λh' h C=>NV (evi h');have cj:∀h C,jv P oj (ev ((s.wh hi).put oi.dst xi)) h C=jv P oj (ev s) h C:=λh C=>NV evj;unfold BO at iI;rw[Bool.or_eq_true]at iI;rcases h1 with⟨g1,o1⟩|⟨g1,e1,e2⟩
 ·rcases h2 with⟨g2,o2⟩|⟨g2,f1,f2⟩
  ·rcases iI with iI|iI
   ·
    rw[aoU,Bool.or_eq_true,aoU,aoU,aoU,aoU,Bool.not_eq_true',Bool.not_eq_true',beq_iff_eq,beq_iff_eq]at iI;obtain⟨hm,iI⟩:=iI;have wy:∀h',aGuard ops oi ((s.wh h').put oj.dst xj) True False:=λh'=>wT (ti h') g1;have LO:aGuard ops oj s True False:=wT tj g2;rcases iI with⟨hai,lj,kj⟩|⟨haj,li,ki⟩
    ·have oc:jo m oj=0:=by unfold jo;rw[lj];exact kj
     have kX:jo m oi=7:=by unfold jo nw;rw[hm,hai,Bool.or_true];rfl
     unfold dT at o1 o2;rw[kX]at o1;rw[oc]at o2;simp only at o1 o2;obtain⟨e,o2⟩:=o2;rw[e8]at e;refine⟨s.h, .inl ⟨LO,?_⟩, .inl ⟨wy s.h,?_⟩⟩
     ·unfold dT;rw[oc];exact⟨rfl,λh' _ C hC=>by rw[<-cj];exact o2 h' (.inl hm) C hC⟩
     ·unfold dT;rw[kX,nr];exact λC hC=>by rw[ci];exact o1 C (e▸hC)
    ·have kX:jo m oi=0:=by unfold jo;rw[li];exact ki
     have oc:jo m oj=7:=by unfold jo nw;rw[hm,haj,Bool.or_true];rfl
     unfold dT at o1;rw[kX]at o1;simp only at o1;obtain⟨e,o1⟩:=o1;refine⟨hj,same e, .inl ⟨wy hj,?_⟩⟩;unfold dT;rw[kX];exact⟨(nr hj).symm,λh' _ C hC=>by rw[ci];exact o1 h' (.inl hm) C hC⟩
   rw[aoU,aoU,Bool.not_eq_true',Bool.not_eq_true']at iI;obtain⟨⟨li,lj⟩,iI⟩:=iI;have kX:jo m oi=bZ oi:=by unfold jo;rw[li];rfl
   have oc:jo m oj=bZ oj:=by unfold jo;rw[lj];rfl
   have wy:∀h',aGuard ops oi ((s.wh h').put oj.dst xj) True False:=λh'=>wT (ti h') g1;have LO:aGuard ops oj s True False:=wT tj g2;by_cases k0:bZ oi=0
   ·unfold dT at o1;rw[kX,k0]at o1;simp only at o1;obtain⟨e,o1⟩:=o1;refine⟨hj,same e, .inl ⟨wy hj,?_⟩⟩;unfold dT;rw[kX,k0];have hv:iN s.h hj:=by
     have:=ahX lj o2;rw[e8,e]at this;exact this
    exact⟨(nr hj).symm,λh' hh C hC=>by rw[nr]at hh;rw[ci];exact o1 h' (hh.imp id λhh=>hv.trans hh) C hC⟩
   ·by_cases k1:bZ oj=0
    ·unfold dT at o2;rw[oc,k1]at o2;simp only at o2;obtain⟨e,o2⟩:=o2;rw[e8]at e o2;have k6:bZ oi≠6:=λk6=>by
      simp [k6,k1]at iI
     have hv:=air li k6 o1;refine⟨s.h, .inl ⟨LO,?_⟩, .inl ⟨wy s.h,?_⟩⟩
     ·unfold dT;rw[oc,k1];exact⟨rfl,λh' hh C hC=>by rw[<-cj];exact o2 h' (hh.imp id λhh=>hv.trans hh) C hC⟩
     ·rw[e];unfold dT at o1 ⊢;rw[nr];simp only[ci];exact o1
    ·by_cases k15:bZ oi=1/\bZ oj=5
     ·obtain⟨ka,kb⟩:=k15;unfold dT at o1 o2;rw[kX,ka]at o1;rw[oc,kb]at o2;simp only at o1 o2;obtain⟨e,o1⟩:=o1;obtain⟨⟨c1,c2,_⟩,o2⟩:=o2;rw[e8,e]at c1 c2;refine⟨hj,same e, .inl ⟨wy hj,?_⟩⟩;unfold dT;rw[kX,ka];simp only;refine⟨(nr hj).symm,λh' hh C hC=> ?_⟩;rw[nr]at hh;rw[ci];exact o1 h' (λn cs hn hq=>hh n cs (c1 n cs hn hq) hq) C hC
     by_cases k51:bZ oi=5/\bZ oj=1
     ·obtain⟨ka,kb⟩:=k51;unfold dT at o1 o2;rw[kX,ka]at o1;rw[oc,kb]at o2;simp only at o1 o2;obtain⟨⟨c1,c2,c3⟩,o1⟩:=o1;obtain⟨e,o2⟩:=o2;rw[e8]at e o2;refine⟨s.h, .inl ⟨LO,?_⟩, .inl ⟨wy s.h,?_⟩⟩
      ·unfold dT;rw[oc,kb];simp only;exact⟨trivial,λh' hh C hC=>by rw[<-cj];exact o2 h' (λn cs hn hq=>hh n cs (c2 n cs hn hq) hq) C hC⟩
      ·rw[e];unfold dT;rw[kX,ka];simp only;rw[nr];exact⟨⟨c1,c2,c3⟩,λC hC=>by rw[ci];exact o1 C hC⟩
     have hc:(bZ oi=1\/bZ oi=4)/\(bZ oj=1\/bZ oj=4\/bZ oj=2\/bZ oj=6):=by
      simp only[Bool.or_eq_true,aoU,beq_iff_eq,k0,k1,false_or,false_and]at iI;rcases iI with(iI|iI)|iI
      ·refine⟨iI.1,?_⟩;rcases iI.2 with((h|h)|h)|h
       ·exact .inl h
       ·exact .inr (.inl h)
       ·exact .inr (.inr (.inl h))
       ·exact .inr (.inr (.inr h))
      ·exact absurd iI k15
      ·exact absurd iI k51
     have q1:hi=s.h/\∀e(C:AV->apH an->Prop),C xi (s.h++e)->jv P oi (ev s) (s.h++e) C:=by
      unfold dT at o1;rcases hc.1 with k|k
      ·rw[kX,k]at o1;exact⟨o1.1,λe C hC=>o1.2 _ (iS.app _ _) C hC⟩
      ·rw[kX,k]at o1;exact o1
     have q2:∃e0,hj=s.h++e0:=by
      have sR:=o2;unfold dT at sR;rcases hc.2 with k|k|k|k
      ·rw[oc,k]at sR;exact⟨[],by rw[sR.1,e8,q1.1,apd]⟩
      ·rw[oc,k]at sR;exact⟨[],by rw[sR.1,e8,q1.1,apd]⟩
      ·rw[oc,k]at sR;obtain⟨B,_,_,b,_⟩:=sR;exact⟨[B],by rw[b,e8,q1.1]⟩
      ·rw[oc,k]at sR;obtain⟨e0,b,_⟩:=sR;exact⟨e0,by rw[b,e8,q1.1]⟩
     obtain⟨e0,Dt⟩:=q2;refine⟨hj,same q1.1, .inl ⟨wy hj,?_⟩⟩;have:∀e(C:AV->apH an->Prop),C xi (hj++e)->jv P oi (ev ((s.wh hj).put oj.dst xj)) (hj++e) C:=λe C hC=>by
      rw[ci,Dt,ao9];rw[Dt,ao9]at hC;exact q1.2 _ C hC
     unfold dT;rw[nr];rcases hc.1 with k|k
     ·rw[kX,k];simp only;refine⟨trivial,λh' hh C hC=> ?_⟩;rw[ci];unfold dT at o1;rw[kX,k]at o1;exact o1.2 h' (λn cs hn hq=>hh n cs (by rw[Dt];exact iS.app _ _ n cs hn hq) hq) C hC
     ·rw[kX,k];exact⟨rfl,this⟩
  ·
   subst f1;rw[e8]at f2;refine⟨s.h, .inr ⟨wT tj g2,rfl,rfl⟩,?_⟩;rw[f2];exact RE (ti s.h) (by rw[nr]) (.inl ⟨g1,o1⟩)
 ·
  subst e1;refine⟨hj,same e2, .inr ⟨wT (ti hj) g1,rfl,(nr hj).symm⟩⟩
def wa(K:St->Prop):Prop:=∀s s',jc s s'->K s->K s'
def pw(m:Bool)(P:apK)(ops:Array Oper)(K:St->Prop):Nat->Array Bool->St->Prop
 |0,listed,s=>Region.ready .any ops listed=[]/\K s
 |fuel+1,listed,s=>
  (Region.ready .any ops listed=[]->K s)/\
  ∀i∈Region.ready .any ops listed,∀o,ops[i]?=some o->∃x h1,nI m P ops o s x h1/\pw m P ops K fuel (listed.setIfInBounds i true) ((s.wh h1).put o.dst x)
theorem aaG{m:Bool}{K:St->Prop}(hK:wa K):∀(fuel:Nat)(listed:Array Bool)(s s':St),jc s s'->pw m P ops K fuel listed s->pw m P ops K fuel listed s'
 |0,_,s,s',hs,h=>⟨h.1,hK s s' hs h.2⟩
 |fuel+1,_,s,s',hs,h=>⟨λh0=>hK s s' hs (h.1 h0),λi hi o ho=>by
  obtain⟨x,h1,h2,h3⟩:=h.2 i hi o ho;exact⟨x,h1,RE (λd _=>(hs.t d).symm) hs.h.symm h2,aaG hK fuel _ _ _ (hs.put h1 o.dst x) h3⟩⟩
def sJ(M:Array Nat)(ops:Array Oper):Bool:=
 (List.range ops.size).all λj=>(List.range ops.size).all λi=> !(M.getD j 0).testBit i||match ops[j]? with
  |some o=>o.after.any λe=>Region.binds .any e&&decide (e.on<j)&&(e.on==i||(M.getD e.on 0).testBit i)
  |none=>false
def Dn(ops:Array Oper)(listed:Array Bool):Prop:=∀(j:Nat)(o:Oper),ops[j]?=some o->listed.getD j false=true->∀e∈o.after,Region.binds .any e=true->listed.getD e.on false=true
theorem anx{M:Array Nat}(hM:sJ M ops=true){listed:Array Bool}(hD:Dn ops listed):∀(j i:Nat)(o:Oper),i<ops.size->ops[j]?=some o->(∀e∈o.after,Region.binds .any e=true->listed.getD e.on false=true)->(M.getD j 0).testBit i=true->listed.getD i false=true:=by
 intro j
 induction j using Nat.strongRecOn with
 |_ j ih=>
  intro i o hi ho hp hb;unfold sJ at hM;simp only[api,List.mem_range]at hM;have h1:=hM j (ao7.1 ho).1 i hi;rw[hb,ho]at h1;simp only[Bool.not_true,Bool.false_or]at h1;rw[Array.any_eq_true']at h1;obtain⟨e,he,h2⟩:=h1;simp only[aoU,decide_eq_true_eq,Bool.or_eq_true,beq_iff_eq]at h2;obtain⟨⟨PL,aH⟩,h3⟩:=h2;have hl:=hp e he PL;rcases h3 with h3|h3
  ·rw[<-h3];exact hl
  ·have HU:e.on<ops.size:=Nat.lt_trans aH (ao7.1 ho).1;exact ih e.on aH i ops[e.on] hi (ape HU) (hD e.on _ (ape HU) hl) h3
theorem Dn.set{listed:Array Bool}(hD:Dn ops listed){i:Nat}(hr:i∈Region.ready .any ops listed):Dn ops (listed.setIfInBounds i true):=by
 intro j o ho hj e he hb;refine getD_set_true ?_;by_cases nG:i=j
 ·subst nG;obtain⟨_,o',Xe,eK⟩:=mem_ready.1 hr;rw[ho]at Xe;cases Xe;exact eK e he hb
 ·rw[getD_set_ne false nG]at hj;exact hD j o ho hj e he hb
theorem OO{m:Bool}{K:St->Prop}(hK:wa K){M:Array Nat}(hM:sJ M ops=true){i:Nat}{oi:Oper}{x:AV}{h1:apH an}(hi:ops[i]?=some oi):
 ∀(fuel:Nat)(listed:Array Bool)(s:St),Dn ops listed->
  (∀j oj,ops[j]?=some oj->j≠i->listed.getD j true=false->(M.getD j 0).testBit i=false->oi.apart ops oj=true/\BO m oi oj=true)->
  i∈Region.ready .any ops listed->nI m P ops oi s x h1->pw m P ops K fuel (listed.setIfInBounds i true) ((s.wh h1).put oi.dst x)->pw m P ops K (fuel+1) listed s:=by
 intro fuel
 induction fuel generalizing x h1 with
 |zero=>
  intro listed s _ _ hr hy H;refine⟨λh=>(by rw[h]at hr;cases hr),λj hj o ho=> ?_⟩;by_cases uD:j=i
  ·subst uD;rw[hi]at ho;cases ho;exact⟨x,h1,hy,H⟩
  ·have:=ready_mono hj uD;rw[H.1]at this;cases this
 |succ fuel ih=>
  intro listed s hD Vx hr hy H;refine⟨λh=>(by rw[h]at hr;cases hr),λj hj oj A9=> ?_⟩;by_cases uD:j=i
  ·subst uD;rw[hi]at A9;cases A9;exact⟨x,h1,hy,H⟩
  ·obtain⟨xj,hj1,R1,H2⟩:=H.2 j (ready_mono hj uD) oj A9;obtain⟨UD,oj',acj,eK⟩:=mem_ready.1 hj;rw[A9]at acj;cases acj;have amd:=(ao7.1 hi).1;have tP:listed.getD i false=false:=by
    have h0:=(mem_ready.1 hr).1;rcases Nat.lt_or_ge i listed.size with h'|h'
    ·simpa [h']using h0
    ·simp [Array.getElem?_eq_none h']at h0
   have fW:(M.getD j 0).testBit i=false:=by
    cases hb:(M.getD j 0).testBit i with
    |false=>rfl
    |true=>rw[anx hM hD j i oj amd A9 eK hb]at tP;cases tP
   obtain⟨Jb,iI⟩:=Vx j oj A9 uD UD fW;obtain⟨iC,s1,s2⟩:=aox Jb iI hy R1;obtain⟨_,a2,_⟩:=Oper.apart_spec Jb;refine⟨xj,iC,s1,ih (listed.setIfInBounds j true) _ (hD.set hj) (λk ok hk Oz Yh yj=> ?_) (ready_mono hr (Ne.symm uD)) s2 ?_⟩
   ·refine Vx k ok hk Oz ?_ yj;by_cases Jm:j=k
    ·subst Jm;exact UD
    ·rw[getD_set_ne true Jm]at Yh;exact Yh
   ·rw[Array.setIfInBounds_comm _ _ uD];exact aaG hK _ _ _ _ (aeH s h1 iC hj1 x xj (λk hk=>a2 k hk)) H2
def Xt(M:Array Nat)(ops:Array Oper)(k:Nat):Bool:=
 match ops[k]? with
 |none=>false
 |some oi=>(List.range ops.size).all λj=>decide (j<=k)||(M.getD j 0).testBit k||match ops[j]? with
  |some oj=>oi.apart ops oj&&BO false oi oj
  |none=>true
def DA(M:Array Nat)(ops:Array Oper):Nat->Nat->Array Bool->Bool
 |0,_,listed=>(Region.ready .any ops listed).isEmpty
 |fuel+1,k,listed=>(Region.ready .any ops listed).contains k&&Xt M ops k&&DA M ops fuel (k+1) (listed.setIfInBounds k true)
def vA(ops:Array Oper):Bool:=sJ (Region.before ops) ops&&DA (Region.before ops) ops ops.size 0 (Array.replicate ops.size false)
theorem V3{K K':St->Prop}(hK:wa K')(C9:∀s,K s->K' s){M:Array Nat}(hM:sJ M ops=true):∀(l:apH Oper)(k:Nat)(listed:Array Bool)(s:St),(∀j,l[j]?=ops[k+j]?)->(∀j,j<k->listed.getD j true=true)->Dn ops listed->
 DA M ops l.length k listed=true->Ef P ops l K s->pw false P ops K' l.length listed s
 |[],_,_,_,_,_,_,hB,h=>⟨by simpa [DA]using hB,C9 _ h⟩
 |o::l,k,listed,s,hl,pG,hD,hB,h=>by
  have h0:ops[k]?=some o:=by simpa using (hl 0).symm
  simp only[aoV,DA,aoU]at hB;obtain⟨⟨hr,hf⟩,dD⟩:=hB;have qp:k∈Region.ready .any ops listed:=by simpa using hr
  have pH:∀j,l[j]?=ops[k+1+j]?:=λj=>by have:=hl (j+1);simpa [Nat.add_assoc,Nat.add_comm 1 j]using this
  have aoo:∀j,j<k+1->(listed.setIfInBounds k true).getD j true=true:=λj hj=>by
   by_cases e:k=j
   ·subst e;rcases Nat.lt_or_ge k listed.size with h'|h'
    ·simp [h']
    ·have:(listed.setIfInBounds k true)[k]?=none:=Array.getElem?_eq_none (by simpa using h');rw[Array.getD_eq_getD_getElem?,this];rfl
   ·rw[getD_set_ne true e];exact pG j (by omega)
  obtain⟨x,h1,hy,zZ⟩:∃x h1,nI false P ops o s x h1/\Ef P ops l K ((s.wh h1).put o.dst x):=by
   rcases Pf h with⟨g,hd⟩|⟨g,hd⟩
   ·obtain⟨x,h1,h2,h3⟩:=QO hd;exact⟨x,h1, .inl ⟨g,h2⟩,h3⟩
   ·exact⟨_,s.h, .inr ⟨g,rfl,rfl⟩,hd⟩
  refine OO hK hM h0 l.length listed s hD (λj oj hj cp tP yj=> ?_) qp hy (V3 hK C9 hM l (k+1) _ _ pH aoo (hD.set qp) dD zZ);unfold Xt at hf;rw[h0]at hf;simp only[api,List.mem_range]at hf;have:=hf j (ao7.1 hj).1;rw[yj,hj]at this;simp only[Bool.or_false,Bool.or_eq_true,aoU,decide_eq_true_eq]at this;rcases this with this|this
  ·exfalso;have:=pG j (by omega);rw[this]at tP;cases tP
  ·exact this
def ZU(ops:Array Oper):Nat->Array Bool->apH Nat
 |0,_=>[]
 |f+1,listed=>match (Region.ready .any ops listed).find? (λk=>match ops[k]? with|some o=> !(bZ o==6)&& !Iz o|none=>false)with
  |some k=>k::ZU ops f (listed.setIfInBounds k true)
  |none=>match Region.ready .any ops listed with
   |k::_=>k::ZU ops f (listed.setIfInBounds k true)
   |[]=>[]
def DE(m:Bool)(M:Array Nat)(ops:Array Oper):apH Nat->Array Bool->Bool
 |[],listed=>(Region.ready .any ops listed).isEmpty
 |k::l,listed=>(Region.ready .any ops listed).contains k&&(match ops[k]? with
  |none=>false
  |some oi=>(List.range ops.size).all λj=>j==k||listed.getD j true||(M.getD j 0).testBit k||match ops[j]? with
   |some oj=>oi.apart ops oj&&BO m oi oj
   |none=>true)&&DE m M ops l (listed.setIfInBounds k true)
def yi(m:Bool)(ops:Array Oper)(p:apH Nat):Bool:=sJ (Region.before ops) ops&&DE m (Region.before ops) ops p (Array.replicate ops.size false)
def tK(ops:Array Oper):apH Nat->apH Oper
 |[]=>[]
 |k::l=>match ops[k]? with
  |some o=>o::tK ops l
  |none=>tK ops l
theorem Zr{m:Bool}{K K':St->Prop}(hK:wa K')(C9:∀s,K s->K' s){M:Array Nat}(hM:sJ M ops=true):∀(l:apH Nat)(listed:Array Bool)(s:St),Dn ops listed->
 DE m M ops l listed=true->vO m P ops (tK ops l) K s->pw m P ops K' l.length listed s
 |[],_,_,_,hB,h=>⟨by simpa [DE]using hB,C9 _ h⟩
 |k::l,listed,s,hD,hB,h=>by
  simp only[DE,aoU]at hB;obtain⟨⟨hr,hf⟩,dD⟩:=hB;have qp:k∈Region.ready .any ops listed:=by simpa using hr
  obtain⟨_,o,h0,_⟩:=mem_ready.1 qp;rw[h0]at hf;simp only[api,List.mem_range]at hf;simp only[tK,h0]at h;obtain⟨x,h1,hy,zZ⟩:∃x h1,nI m P ops o s x h1/\vO m P ops (tK ops l) K ((s.wh h1).put o.dst x):=by
   rcases Pf h with⟨g,hd⟩|⟨g,hd⟩
   ·obtain⟨x,h1,h2,h3⟩:=QO hd;exact⟨x,h1, .inl ⟨g,h2⟩,h3⟩
   ·exact⟨_,s.h, .inr ⟨g,rfl,rfl⟩,hd⟩
  refine OO hK hM h0 l.length listed s hD (λj oj hj cp tP yj=> ?_) qp hy (Zr hK C9 hM l _ _ (hD.set qp) dD zZ);have:=hf j (ao7.1 hj).1;rw[yj,tP,hj]at this;simp only[Bool.or_false,Bool.or_eq_true,aoU,beq_iff_eq]at this;rcases this with this|this
  ·exact absurd this cp
  ·exact this
end
section
variable {P:apK} {r:apJ Nat} {n N0:Nat} {G:Gh} {w:apM} {a:Act} {s:St} {o:Oper} {Q:Exit->St->Prop}
theorem cA.drew(hs:cA G w a s):bx G.N G w G {w with drawn:=w.drawn+1}/\cA G {w with drawn:=w.drawn+1} a s:=by
 have hE:bx G.N G w G {w with drawn:=w.drawn+1}:=⟨ao3 _,λ_ _ h=>h,λ_ _ _=>rfl,λ_ _=>rfl,λ_ _=> .inl ⟨rfl,rfl⟩,fY rfl,λ_ _=>rfl,rfl,rfl,rfl,λ_ _ h=> .inl h⟩;have hi:Inv G {w with drawn:=w.drawn+1} s.h:=⟨hs.inv.len,hs.inv.z,hs.inv.S,λn B hB=>dB.aS (hs.inv.lt hB) hE (ao3 _) ⟨rfl,rfl,rfl⟩ (λ_ _=>⟨rfl,λ_ h=>h⟩) (hs.inv.cu n B hB),hs.inv.inj,hs.inv.gl.aS hE⟩;exact⟨hE,hs.move hE (ao3 _) hi⟩
theorem aeN{m:Bool}{x:AV}{h1:apH an}(h:dT m P o (ev s) s.h x h1):jv P o (ev s) s.h (λx' h'=>(s.wh h').put o.dst x'=(s.wh h1).put o.dst x):=Yj h _ rfl
theorem FA{m:Bool}{ops:Array Oper}{K:St->Prop}{Q':Exit->Act->apM->Prop}(hQ:∀a' w',iQ N0 G w K a' w'->Q' .normal a' w'):∀(fuel:Nat)(listed:Array Bool)(G1:Gh)(w1:apM)(a:Act)(s:St),
 bx N0 G w G1 w1->N0<=G1.N->cA G1 w1 a s->pw m P ops K fuel listed s->wpAnyIn (WF r) n P .any ops Q' fuel listed a w1
 |0,_,G1,w1,a,s,hE,hN,hs,h=>⟨h.1,hQ _ _ ⟨G1,s,hE,hN,hs,h.2⟩⟩
 |fuel+1,listed,G1,w1,a,s,hE,hN,hs,h=>by
  refine⟨λh0=>hQ _ _ ⟨G1,s,hE,hN,hs,h.1 h0⟩,λi hi=> ?_⟩;obtain⟨_,o,ho,_⟩:=mem_ready.1 hi;obtain⟨x,h1,hy,zZ⟩:=h.2 i hi o ho;unfold wpOpIn;rw[ho];simp only;rcases hy with⟨g,hc⟩|⟨g,rfl,rfl⟩
  ·have hg:=N2 hs g;split at hg
   ·rename_i hw
    rw[if_pos hw];refine Oper.wpIn_mono (λa' w' hn=> ?_) ((aeN hc).elim (λk=>U5 (K:=λs'=>s'=(s.wh h1).put o.dst x) (r:=r) (n:=n) (N0:=N0) (Q:=Q') hs hN k) fun⟨_,va,x',h',p,k1,k2,k3⟩=>YI (K:=λs'=>s'=(s.wh h1).put o.dst x) (r:=r) (n:=n) (N0:=N0) (Q:=Q') hs hN ⟨va,x',h',p,k1,k2,k3⟩);obtain⟨G2,s2,e2,n2,Px,rfl⟩:=hn;exact FA hQ fuel _ G2 w' a' _ (hE.trans e2) n2 Px zZ
   ·exact hg.elim
  ·have hg:=N2 hs g;split at hg
   ·exact hg.elim
   ·rename_i hw
    rw[if_neg hw];exact⟨λ_ _=>trivial,FA hQ fuel _ G1 w1 _ _ hE hN (hs.put (.d (.v undef)) o.dst) zZ⟩
theorem NU{id:Nat}{l:apH Oper}(hm:P.follows .mixedOrders=true)(hl:vA l.toArray=true)(h:Ef P l.toArray l (Q .normal) s):bj P r N0 (.region id l.toArray true) Q s:=by
 constructor
 intro G w a n hs hN;unfold vA at hl;rw[aoU]at hl;obtain⟨d1,d2⟩:=hs.drew;refine wpIn_region_any hm ?_;have hC:wa (λs=>∃s',jc s' s/\Q .normal s'):=λs s' e ⟨s0,e0,h0⟩=>⟨s0,e0.trans e,h0⟩;have:=V3 (K:=Q .normal) hC (λs h=>⟨s,jc.refl s,h⟩) hl.1 l 0 (Array.replicate l.toArray.size false) s (by simp) (λj hj=>absurd hj (apk _)) (λj o ho hj=>by
  exfalso;rw[Array.getD_eq_getD_getElem?]at hj;rw[Array.getElem?_replicate]at hj;split at hj<;>simp at hj) (by simpa using hl.2) h
 refine FA (G:=G) (w:=w) (N0:=N0) (K:=λs=>∃s',jc s' s/\Q .normal s') (λa' w' hn=> ?_) l.toArray.size _ G _ a s (d1.less hN) hN d2 (by simpa using this);obtain⟨G',s',x1,x2,x3,s0,e0,x4⟩:=hn;refine⟨G',s0,x1,x2,⟨x3.size.trans e0.n.symm,λi=>by rw[e0.t i];exact x3.tmp i,by rw[e0.h];exact x3.inv,x3.df⟩,x4⟩
theorem Ns{m:Bool}{id:Nat}{ops:Array Oper}(p:apH Nat)(hm:P.follows .mixedOrders=true)(hz:p.length=ops.size)(hl:yi m ops p=true)(h:vO m P ops (tK ops p) (Q .normal) s):bj P r N0 (.region id ops true) Q s:=by
 constructor
 intro G w a n hs hN;unfold yi at hl;rw[aoU]at hl;obtain⟨d1,d2⟩:=hs.drew;refine wpIn_region_any hm ?_;have hC:wa (λs=>∃s',jc s' s/\Q .normal s'):=λs s' e ⟨s0,e0,h0⟩=>⟨s0,e0.trans e,h0⟩;have:=Zr (K:=Q .normal) hC (λs h=>⟨s,jc.refl s,h⟩) hl.1 p (Array.replicate ops.size false) s (λj o ho hj=>by
  exfalso;rw[Array.getD_eq_getD_getElem?]at hj;rw[Array.getElem?_replicate]at hj;split at hj<;>simp at hj) hl.2 h
 rw[hz]at this;refine FA (G:=G) (w:=w) (N0:=N0) (K:=λs=>∃s',jc s' s/\Q .normal s') (λa' w' hn=> ?_) ops.size _ G _ a s (d1.less hN) hN d2 this;obtain⟨G',s',x1,x2,x3,s0,e0,x4⟩:=hn;refine⟨G',s0,x1,x2,⟨x3.size.trans e0.n.symm,λi=>by rw[e0.t i];exact x3.tmp i,by rw[e0.h];exact x3.inv,x3.df⟩,x4⟩
end
def aoH(want:Bool):AV->Bool
 | .d (.v (.bool b))=>b==want
 |_=>false
def gNo(want:Bool):AV->Bool
 | .d (.v (.bool b))=>b== !want
 | .d (.v (.tuple _))=>true
 |_=>false
def alC(t:apH (Nat×AV)):apJ Nat->AV
 |some d=>bp t d
 |none=> .dead
def uK(ops:Array Oper)(j:Nat)(t:apH (Nat×AV)):AV:=alC t ((ops[j]?).bind (·.dst))
section
variable {P:apK} {ops:Array Oper} {dst:apJ Nat} {op:Op} {ty:TypeId} {pos:String} {after:Array Edge} {j:Nat} {w:Bool} {s:St} {rest:apH Oper} {K:St->Prop} {y n:Prop}
theorem H3:aGuard ops ⟨dst,op,ty,pos,after,some (j,w)⟩ s y n=(match uK ops j s.t with
 | .d (.v (.bool b))=>(b=w->y)/\(b= !w->n)
 | .d (.v (.tuple _))=>n
 |_=>False):=by
 show(match (ops[j]?).bind (·.dst)with
  |some d=>match bp s.t d with
   | .d (.v (.bool b))=>(b=w->y)/\(b= !w->n)
   | .d (.v (.tuple _))=>n
   |_=>False
  |none=>False)=_
 unfold uK;cases (ops[j]?).bind (·.dst)<;>rfl
end
section
variable {P:apK} {r:apJ Nat} {n N0:Nat} {G:Gh} {w:apM} {a:Act} {s:St} {o:Oper} {Q:Exit->St->Prop}
theorem dJ{K:St->Prop}(h:K s):gp K Q .normal s:=h
theorem vP{K:St->Prop}{i:Nat}(h:Q (.exit i) s):gp K Q (.exit i) s:=h
theorem jU{K:St->Prop}(h:Q .ret s):gp K Q .ret s:=h
theorem jz{id:Nat}(h:Q .normal s):qX id Q .normal s:=h
theorem lz{id:Nat}(h:Q .ret s):qX id Q .ret s:=h
theorem Cf{id i:Nat}(e:(i==id)=true)(h:Q .normal s):qX id Q (.exit i) s:=by simpa only[qX,e,cond_true]using h
theorem aip{id i:Nat}(e:(i==id)=false)(h:Q (.exit i) s):qX id Q (.exit i) s:=by simpa only[qX,e,cond_false]using h
theorem qN{c:Operand}{x y:Code}(hc:ev s c= .d (.v (.bool true)))(h:bj P r N0 x Q s):bj P r N0 (.cond c x y) Q s:=E3 hc (λ_=>h) λh=>Bool.noConfusion h
theorem ra{c:Operand}{x y:Code}(hc:ev s c= .d (.v (.bool false)))(h:bj P r N0 y Q s):bj P r N0 (.cond c x y) Q s:=E3 hc (λh=>Bool.noConfusion h) λ_=>h
theorem jA{c:Operand}{x y:Code}{t:Bool}(hc:ev s c= .d (.v (.bool t)))(e:t=true)(h:bj P r N0 x Q s):bj P r N0 (.cond c x y) Q s:=qN (by rw[hc,e]) h
theorem jg{c:Operand}{x y:Code}{t:Bool}(hc:ev s c= .d (.v (.bool t)))(e:t=false)(h:bj P r N0 y Q s):bj P r N0 (.cond c x y) Q s:=ra (by rw[hc,e]) h
theorem UI{c:Code}(k:Nat)(e:TypeId)(sz:Nat)(xs:apH (apH D))(hx:bp s.t k= .full xs\/(bp s.t k= .d (.v (.slice none 0 0))/\xs=[]))
 (h:bj P r N0 c Q ⟨s.n,(k, .own s.h.length xs)::s.t,s.h++[.front e sz xs.length]⟩):bj P r N0 c Q s:=by
 constructor
 intro G w a n hs hN;have hp:dd G.S w (a.tmps.getD k undef) (.sl xs)/\∃A,a.tmps.getD k undef= .slice A xs.length xs.length:=by
  have hv:=hs.tmp k;revert hv;generalize a.tmps.getD k undef=u;intro hv;rcases hx with hx|⟨hx,rfl⟩
  ·rw[hx]at hv;cases hv with|full _ hp hf=>exact⟨hp,hf⟩
  ·rw[hx]at hv;rw[hv.val];exact⟨EH,none,rfl⟩
 obtain⟨a1,a2,a3,a4⟩:=Qw hs.inv hp.1 hp.2 e sz;have b8:cA (G.ia (a.tmps.getD k undef) xs.length) w a ⟨s.n,(k, .own s.h.length xs)::s.t,s.h++[.front e sz xs.length]⟩:=by
  refine⟨hs.size,λi=> ?_,a3,hs.df.aS a1⟩;show aD _ _ _ (bp ((k, .own s.h.length xs)::s.t) i);rw[mX];split
  ·next e=>exact e▸a4
  ·exact(hs.tmp i).aS a1 a2
 exact wpIn_mono (h.run _ w a n b8 (apa hN a2)) λ_ _ _ hn=>hn.trans (a1.less hN)
end
theorem QC{G:Gh}{w:apM}{h:apH an}{b:Nat}{cs bJ:apH AV}(hi:Inv G w h)(hb:h[b]?=some (.cells cs))(hl:bJ.length=cs.length)
 (hc:∀(vs:Array apL)(T:TypeId),w.heap[G.aI b]?=some (.cells vs T (0,0))->∀(i:Nat)(u:apL)(c:AV),vs[i]?=some u->bJ[i]?=some c->aD G w u c):Inv G w (h.set b (an.cells bJ)):=by
 have ho:∀n,bB (h.set b (an.cells bJ)) G n=bB h G n:=λn=>by
  have aH:=(aoS.1 hb).1;unfold bB;by_cases e:b=n
  ·subst e;rw[apl aH,hb];rfl
  ·rw[apr e]
 refine⟨by rw[List.length_set];exact hi.len,hi.z,hi.S,λn B hB=> ?_,λm n x hm hn=>hi.inj m n x (by rw[<-ho];exact hm) (by rw[<-ho];exact hn),hi.gl⟩;have aH:=(aoS.1 hb).1;by_cases e:b=n
 ·subst e;rw[apl aH]at hB;cases hB
  obtain⟨h1,h2,vs,T,h3,h4,_⟩:=hi.cu _ _ hb;exact⟨h1,h2,vs,T,h3,h4.trans hl.symm,hc vs T h3⟩
 ·rw[apr e]at hB;exact hi.cu n B hB
theorem X6{P:apK}{r:apJ Nat}{N0:Nat}{s:St}{Q:Exit->St->Prop}{c:Code}(b i:Nat)(e:TypeId)(sz:Nat)(xs:apH (apH D)){cs:apH AV}(hb:s.h[b]?=some (.cells cs))(hx:cs[i]?=some (.full xs)\/(cs[i]?=some (.d (.v (.slice none 0 0)))/\xs=[]))
 (h:bj P r N0 c Q ⟨s.n,s.t,(s.h++[an.front e sz xs.length]).set b (an.cells (cs.set i (AV.own s.h.length xs)))⟩):bj P r N0 c Q s:=by
 constructor
 intro G w a n hs hN;obtain⟨h1,h2,vs,T,h3,h4,h5⟩:=hs.inv.cu _ _ hb;have hi:i<cs.length:=by rcases hx with hx|⟨hx,_⟩<;>exact(aoS.1 hx).1
 have hv:vs[i]?=some vs[i]:=ape (by omega);have hp:dd G.S w vs[i] (.sl xs)/\∃A,vs[i]= .slice A xs.length xs.length:=by
  rcases hx with hx|⟨hx,rfl⟩
  ·have:=h5 i _ _ hv hx;generalize vs[i]=u at this;cases this with|full _ hp hf=>exact⟨hp,hf⟩
  ·have:=h5 i _ _ hv hx;rw[this.val];exact⟨EH,none,rfl⟩
 obtain⟨a1,a2,a3,a4⟩:=Qw hs.inv hp.1 hp.2 e sz;have aH:=(aoS.1 hb).1;have b8:cA (G.ia vs[i] xs.length) w a ⟨s.n,s.t,(s.h++[an.front e sz xs.length]).set b (an.cells (cs.set i (AV.own s.h.length xs)))⟩:=by
  refine⟨hs.size,λj=>(hs.tmp j).aS a1 a2,QC a3 (by rw[ao2 aH];exact hb) (by rw[List.length_set]) λdZ T' qu j u c hu hc=> ?_,hs.df.aS a1⟩;have e1:(G.ia vs[i] xs.length).aI b=G.aI b:=by
   have:b≠G.N:=by have:=hs.inv.len;omega
   simp [Gh.ia]
  rw[e1,h3]at qu;cases qu
  by_cases e2:i=j
  ·subst e2;rw[apl hi]at hc;cases hc
   rw[hv]at hu;cases hu
   exact a4
  ·rw[apr e2]at hc;exact(h5 j u c hu hc).aS a1 a2
 exact wpIn_mono (h.run _ w a n b8 (apa hN a2)) λ_ _ _ hn=>hn.trans (a1.less hN)
theorem ic.q{P:apK}{f:FuncId}{args:apH AV}{r:AV}{h:apH an}{C:AV->Prop}(hc:ic P f args (·=r))(ha:args.all (AV.aP 0)=true)(hr:r.aP 0=true)(hC:C r):QL P f args h C:=
 ⟨r,hC,λ_=>hc.use ha hr ⟨rfl,rfl⟩⟩
def AV.Le(x y:AV):Prop:=∀(G:Gh)(w:apM)(u:apL),aD G w u x->aD G w u y
theorem AV.Le.refl(x:AV):AV.Le x x:=λ_ _ _ h=>h
theorem AV.Le.full(xs:apH (apH D)):AV.Le (.full xs) (.d (.sl xs)):=λ_ _ _ h=>by
 cases h with|full _ hp _=>exact .d hp
theorem AV.Le.nil:AV.Le (.d (.v (.slice none 0 0))) (.d (.sl [])):=λ_ _ _ h=>by
 rw[h.val];exact .d EH
theorem AV.Le.agg{cs ds:apH AV}(hl:cs.length=ds.length)(h:∀(i:Nat)(c d:AV),cs[i]?=some c->ds[i]?=some d->AV.Le c d):AV.Le (.agg cs) (.agg ds):=λG w u hu=>by
 cases hu with
 |agg vs _ pH hv=>
  refine .agg vs ds (pH.trans hl) λi u d hui hd=> ?_;have aH:i<cs.length:=by rw[hl];exact(aoS.1 hd).1
  exact h i _ d (aoW aH) hd G w u (hv i u _ hui (aoW aH))
set_option linter.unusedSimpArgs false
set_option linter.unusedVariables false
def rn:apH Nat->Nat->Nat->Nat
 |[],base,i=>base+i
 |j::_,_,0=>j
 |_::l,base,i+1=>rn l base i
theorem Am:∀(l:apH Nat)(base i:Nat)(j:Nat),l[i]?=some j->rn l base i=j
 |[],_,i,j,h=>by simp at h
 |a::l,base,0,j,h=>by simpa [rn]using h
 |a::l,base,i+1,j,h=>by rw[rn];exact Am l base i j (by simpa using h)
theorem Hx:∀(l:apH Nat)(base i:Nat),l.length<=i->rn l base i=base+(i-l.length)
 |[],base,i,_=>by simp [rn]
 |a::l,base,0,h=>by simp at h
 |a::l,base,i+1,h=>by rw[rn,Hx l base i (by simpa using h)];simp
mutual
def AV.aK(σ:Nat->Nat):AV->AV
 | .ptr n off=> .ptr (σ n) off
 | .own n xs=> .own (σ n) xs
 | .row n off len cap k=> .row (σ n) off len cap k
 | .mp n=> .mp (σ n)
 | .cO n=> .cO (σ n)
 | .vec n o len L k=> .vec (σ n) o len L k
 | .di n i j L k=> .di (σ n) i j L k
 | .agg cs=> .agg (AV.dP σ cs)
 | .bA cs=> .bA (AV.dP σ cs)
 | .fn f cs=> .fn f (AV.dP σ cs)
 | .d x=> .d x
 | .bz xs i off=> .bz xs i off
 | .full xs=> .full xs
 | .hid c=> .hid c
 | .dead=> .dead
def AV.dP(σ:Nat->Nat):apH AV->apH AV
 |[]=>[]
 |x::l=>x.aK σ::AV.dP σ l
end
theorem gk(σ:Nat->Nat):∀l,AV.dP σ l=l.map (AV.aK σ)
 |[]=>by simp [AV.dP]
 |x::l=>by simp [AV.dP,gk σ l]
def an.aK(σ:Nat->Nat):an->an
 | .cells cs=> .cells (AV.dP σ cs)
 | .lp ls p as bd cs=> .lp ls p as bd (AV.dP σ cs)
 | .it sn cs=> .it sn (AV.dP σ cs)
 | .aT T cs=> .aT T (AV.dP σ cs)
 | .vec e k cs=> .vec e k (cs.map (AV.dP σ))
 | .front e k len=> .front e k len
 | .bg e b=> .bg e b
 | .map kv=> .map kv
 | .fR kv=> .fR kv
 | .gone=> .gone
def gV:apH Nat->apH an->apH an->apH an
 |[],Bs,h=>h++Bs
 |_::_,[],h=>h
 |i::l,B::Bs,h=>gV l Bs (h.set i B)
structure qI(σ:Nat->Nat)(G G2:Gh):Prop where
 lt:∀n,n<G.N->σ n<G2.N
 aI:∀n,n<G.N->G2.aI (σ n)=G.aI n
 sg:∀n,n<G.N->G2.sg (σ n)=G.sg n
 fl:∀n,n<G.N->G2.fl (σ n)=G.fl n
 ow:∀n,n<G.N->G2.ow (σ n)=G.ow n
 S:∀b o,G2.S b o↔G.S b o
theorem dd.vG{S S':Nat->Nat->Prop}{w:apM}(hS:∀b o,S b o->S' b o){u:apL}{x:D}(h:dd S w u x):dd S' w u x:=h.aS hS (λ_ _ _=>rfl)
theorem aD.aK{σ:Nat->Nat}{G G2:Gh}{w:apM}(hR:qI σ G G2){u:apL}{x:AV}(h:aD G w u x):aD G2 w u (x.aK σ):=by
 have hS:∀b o,G.S b o->G2.S b o:=λb o h=>(hR.S b o).2 h;have gh:∀(vs:Array apL)(cs:apH AV),(∀(i:Nat)(u:apL)(c:AV),vs[i]?=some u->cs[i]?=some c->aD G2 w u (c.aK σ))->∀(i:Nat)(u:apL)(c:AV),vs[i]?=some u->(AV.dP σ cs)[i]?=some c->aD G2 w u c:=by
  intro vs cs ih i u c hu hc;rw[gk,aoZ]at hc;cases hx:cs[i]? with
  |none=>rw[hx]at hc;cases hc
  |some x=>rw[hx]at hc;cases hc;exact ih i u x hu hx
 induction h with
 |agg vs cs hl _ ih=>rw[AV.aK];exact .agg vs _ (by rw[gk,aoX];exact hl) (gh vs cs ih)
 |bA vs cs hl _ ih=>rw[AV.aK];exact .bA vs _ (by rw[gk,aoX];exact hl) (gh vs cs ih)
 |fn f vs cs hl _ ih=>rw[AV.aK];exact .fn f vs _ (by rw[gk,aoX];exact hl) (gh vs cs ih)
 |d h=>rw[AV.aK];exact .d (h.vG hS)
 |full xs hp hf=>rw[AV.aK];exact .full xs (hp.vG hS) hf
 |ptr n off h=>rw[AV.aK,<-hR.aI n h];exact .ptr _ off (hR.lt n h)
 |row n off len cap k h hl hm=>rw[AV.aK,<-hR.aI n h];exact .row _ off len cap k (hR.lt n h) hl hm
 |mp n h=>rw[AV.aK,<-hR.aI n h];exact .mp _ (hR.lt n h)
 |cO n h=>rw[AV.aK,<-hR.aI n h];exact .cO _ (hR.lt n h)
 |own n xs h hp hle hf=>rw[AV.aK];exact .own _ xs (hR.lt n h) (hp.vG hS) (by rw[hR.fl n h];exact hle) (by rw[hR.fl n h,hR.sg n h];exact hf)
 |vec n o len L k h hs hL hf=>rw[AV.aK];exact .vec _ o len L k (hR.lt n h) hs (by rw[hR.fl n h];exact hL) (by rw[hR.fl n h,hR.sg n h];exact hf)
 |di n i j L k h hs hL hf=>rw[AV.aK];exact .di _ i j L k (hR.lt n h) hs (by rw[hR.fl n h];exact hL) (by rw[hR.fl n h,hR.sg n h];exact hf)
 |bz xs i off b o u x hx q8 hu=>rw[AV.aK];exact .bz xs i off b o u x hx (λj hj=>⟨hS _ _ (q8 j hj).1,(q8 j hj).2⟩) (λj d hd=>(hu j d hd).vG hS)
 |hid h h1=>rw[AV.aK];exact .hid (h.aS hS (λ_ _ _=>rfl)) h1
 |dead u=>rw[AV.aK];exact .dead u
theorem aD.sM{σ:Nat->Nat}{G G2:Gh}{w:apM}(hR:qI σ G G2){u:apL}{y:AV}(h:aD G2 w u y):∀x:AV,x.aK σ=y->x.aP G.N=true->aD G w u x:=by
 have hS:∀b o,G2.S b o->G.S b o:=λb o h=>(hR.S b o).1 h;have lt:∀n,(!b7 G.N n)=true->n<G.N:=λn h=>by rw[Bool.not_eq_true',<-Bool.not_eq_true,dI]at h;omega
 have gh:∀(vs:Array apL)(cs xs:apH AV),(∀(i:Nat)(u:apL)(c:AV),vs[i]?=some u->cs[i]?=some c->∀x:AV,x.aK σ=c->x.aP G.N=true->aD G w u x)->AV.dP σ xs=cs->AV.nF G.N xs=true->∀(i:Nat)(u:apL)(c:AV),vs[i]?=some u->xs[i]?=some c->aD G w u c:=by
  intro vs cs xs ih e hb i u c hu hc;subst e;rw[mE,api]at hb;exact ih i u (c.aK σ) hu (by rw[gk,aoZ,hc];rfl) c rfl (hb c (ao5 hc))
 induction h with
 |agg vs cs hl _ ih=>
  intro x e hb;cases x<;>simp only[AV.aK,AV.agg.injEq,reduceCtorEq]at e
  next xs=>
   rw[AV.aP]at hb;exact .agg vs xs (by rw[hl,<-e,gk,aoX]) (gh vs cs xs ih e hb)
 |bA vs cs hl _ ih=>
  intro x e hb;cases x<;>simp only[AV.aK,AV.bA.injEq,reduceCtorEq]at e
  next xs=>
   rw[AV.aP]at hb;exact .bA vs xs (by rw[hl,<-e,gk,aoX]) (gh vs cs xs ih e hb)
 |fn f vs cs hl _ ih=>
  intro x e hb;cases x<;>simp only[AV.aK,AV.fn.injEq,reduceCtorEq]at e
  next g xs=>
   obtain⟨rfl,e⟩:=e;rw[AV.aP]at hb;exact .fn _ vs xs (by rw[hl,<-e,gk,aoX]) (gh vs cs xs ih e hb)
 |d h=>
  intro x e hb;cases x<;>simp only[AV.aK,AV.d.injEq,reduceCtorEq]at e
  next y=>subst e;exact .d (h.vG hS)
 |full xs hp hf=>
  intro x e hb;cases x<;>simp only[AV.aK,AV.full.injEq,reduceCtorEq]at e
  next y=>subst e;exact .full y (hp.vG hS) hf
 |ptr n off h=>
  intro x e hb;cases x<;>simp only[AV.aK,AV.ptr.injEq,reduceCtorEq]at e
  next m o=>
   obtain⟨e1,rfl⟩:=e;rw[AV.aP]at hb;have hm:=lt _ hb;rw[<-e1,hR.aI _ hm];exact .ptr _ _ hm
 |row n off len cap k h hl jf=>
  intro x e hb;cases x<;>simp only[AV.aK,AV.row.injEq,reduceCtorEq]at e
  next m o l c q=>
   obtain⟨e1,rfl,rfl,rfl,rfl⟩:=e;rw[AV.aP]at hb;have hm:=lt _ hb;rw[<-e1,hR.aI _ hm];exact .row _ _ _ _ _ hm hl jf
 |mp n h=>
  intro x e hb;cases x<;>simp only[AV.aK,AV.mp.injEq,reduceCtorEq]at e
  next m=>
   rw[AV.aP]at hb;have hm:=lt _ hb;rw[<-e,hR.aI _ hm];exact .mp _ hm
 |cO n h=>
  intro x e hb;cases x<;>simp only[AV.aK,AV.cO.injEq,reduceCtorEq]at e
  next m=>
   rw[AV.aP]at hb;have hm:=lt _ hb;rw[<-e,hR.aI _ hm];exact .cO _ hm
 |own n xs h hp hle hf=>
  intro x e hb;cases x<;>simp only[AV.aK,AV.own.injEq,reduceCtorEq]at e
  next m l=>
   obtain⟨e1,rfl⟩:=e;rw[AV.aP]at hb;have hm:=lt _ hb;rw[<-e1]at hle hf;exact .own _ _ hm (hp.vG hS) (by rw[<-hR.fl _ hm];exact hle) (by rw[<-hR.fl _ hm,<-hR.sg _ hm];exact hf)
 |vec n o len L k h hs hL hf=>
  intro x e hb;cases x<;>simp only[AV.aK,AV.vec.injEq,reduceCtorEq]at e
  next m a1 a2 a3 a4=>
   obtain⟨e1,rfl,rfl,rfl,rfl⟩:=e;rw[AV.aP]at hb;have hm:=lt _ hb;rw[<-e1]at hL hf;exact .vec _ _ _ _ _ hm hs (by rw[<-hR.fl _ hm];exact hL) (by rw[<-hR.fl _ hm,<-hR.sg _ hm];exact hf)
 |di n i j L k h hs hL hf=>
  intro x e hb;cases x<;>simp only[AV.aK,AV.di.injEq,reduceCtorEq]at e
  next m a1 a2 a3 a4=>
   obtain⟨e1,rfl,rfl,rfl,rfl⟩:=e;rw[AV.aP]at hb;have hm:=lt _ hb;rw[<-e1]at hL hf;exact .di _ _ _ _ _ hm hs (by rw[<-hR.fl _ hm];exact hL) (by rw[<-hR.fl _ hm,<-hR.sg _ hm];exact hf)
 |bz xs i off b o u y hx q8 hu=>
  intro x e hb;cases x<;>simp only[AV.aK,AV.bz.injEq,reduceCtorEq]at e
  next a1 a2 a3=>
   obtain⟨rfl,rfl,rfl⟩:=e;exact .bz _ _ _ b o u y hx (λj hj=>⟨hS _ _ (q8 j hj).1,(q8 j hj).2⟩) (λj d hd=>(hu j d hd).vG hS)
 |hid h h1=>
  intro x e hb;cases x<;>simp only[AV.aK,AV.hid.injEq,reduceCtorEq]at e
  next c=>subst e;exact .hid (h.aS hS (λ_ _ _=>rfl)) h1
 |dead u=>
  intro x e hb;cases x<;>simp only[AV.aK,reduceCtorEq]at e
  exact .dead u
theorem SG{σ:Nat->Nat}{G G2:Gh}(hR:qI σ G G2){n:Nat}(hn:n<G.N)(B:an):(B.aK σ).dC G2 (σ n)=B.dC G n:=by
 cases B<;>simp only[an.aK,an.dC,hR.aI n hn,hR.ow n hn]
theorem dB.aK{σ:Nat->Nat}{G G2:Gh}{w:apM}(hR:qI σ G G2){n:Nat}(hn:n<G.N){B:an}(hz:∀b,B.dC G n=some b->¬G2.Z b)(h:dB G w n B):dB G2 w (σ n) (B.aK σ):=by
 have hS:∀b o,¬G.S b o->¬G2.S b o:=λb o h h2=>h ((hR.S b o).1 h2);cases B with
 |gone=>trivial
 |cells cs=>
  obtain⟨h1,h2,vs,T,h3,h4,h5⟩:=h;rw[an.aK];refine⟨by rw[hR.aI n hn];exact hz _ rfl,by rw[hR.aI n hn];exact λo=>hS _ _ (h2 o),vs,T,by rw[hR.aI n hn];exact h3,by rw[gk,aoX];exact h4,λi u c hu hc=> ?_⟩;rw[gk,aoZ]at hc;cases hx:cs[i]? with
  |none=>rw[hx]at hc;cases hc
  |some x=>rw[hx]at hc;cases hc;exact(h5 i u x hu hx).aK hR
 |lp ls p as bd cs=>
  obtain⟨h1,h2,fn,vs,T,h3,h4,h5⟩:=h;rw[an.aK];refine⟨by rw[hR.aI n hn];exact hz _ rfl,by rw[hR.aI n hn];exact λo=>hS _ _ (h2 o),fn,vs,T,by rw[hR.aI n hn];exact h3,by rw[gk,aoX];exact h4,λi u c hu hc=> ?_⟩;rw[gk,aoZ]at hc;cases hx:cs[i]? with
  |none=>rw[hx]at hc;cases hc
  |some x=>rw[hx]at hc;cases hc;exact(h5 i u x hu hx).aK hR
 |it sn cs=>
  obtain⟨h1,h2,fn,vs,T,h3,h4,h5⟩:=h;rw[an.aK];refine⟨by rw[hR.aI n hn];exact hz _ rfl,by rw[hR.aI n hn];exact λo=>hS _ _ (h2 o),fn,vs,T,by rw[hR.aI n hn];exact h3,by rw[gk,aoX];exact h4,λi u c hu hc=> ?_⟩;rw[gk,aoZ]at hc;cases hx:cs[i]? with
  |none=>rw[hx]at hc;cases hc
  |some x=>rw[hx]at hc;cases hc;exact(h5 i u x hu hx).aK hR
 |aT T0 cs=>
  obtain⟨h1,h2,fn,vs,T,h3,h4,h5⟩:=h;rw[an.aK];refine⟨by rw[hR.aI n hn];exact hz _ rfl,by rw[hR.aI n hn];exact λo=>hS _ _ (h2 o),fn,vs,T,by rw[hR.aI n hn];exact h3,by rw[gk,aoX,hR.aI n hn];exact h4,λi u c hu hc=> ?_⟩;rw[gk,aoZ]at hc;cases hx:cs[i]? with
  |none=>rw[hx]at hc;cases hc
  |some x=>rw[hx]at hc;cases hc;exact(h5 i u x hu hx).aK hR
 |map kv=>
  obtain⟨h1,h2,es,c,h3,h4⟩:=h;exact⟨by rw[hR.aI n hn];exact hz _ rfl,by rw[hR.aI n hn];exact λo=>hS _ _ (h2 o),es,c,by rw[hR.aI n hn];exact h3,h4.aS (λb o h=>(hR.S b o).2 h) (λ_ _ _=>rfl)⟩
 |fR kv=>
  obtain⟨h1,h2,es,c,h3,h4⟩:=h;exact⟨by rw[hR.aI n hn];exact hz _ rfl,by rw[hR.aI n hn];exact λo=>hS _ _ (h2 o),es,c,by rw[hR.aI n hn];exact h3,h4.aS (λb o h=>(hR.S b o).2 h) (λ_ _ _=>rfl)⟩
 |bg e b=>
  obtain⟨h1,hm,h2⟩:=h;refine⟨(hR.fl n hn).trans h1,hm,?_⟩;rcases h2 with⟨h2,h0,A,h3⟩|⟨g,cap,cur,h2,h3,h4,h5,h6,h7,h8,h9,bM⟩
  ·exact .inl ⟨(hR.ow n hn).trans h2,h0,A,(hR.sg n hn).trans h3⟩
  ·exact .inr ⟨g,cap,cur,(hR.ow n hn).trans h2,(hR.sg n hn).trans h3,hz g h2,h5,h6,h7,h8,λo=>hS _ _ (h9 o),bM⟩
 |front e k len=>
  obtain⟨h1,hm,h2⟩:=h;refine⟨(hR.fl n hn).trans h1,hm,?_⟩;rcases h2 with⟨h2,A,h3⟩|⟨g,cap,cur,h2,h3,h4,h5,h6,h7,h8,h9⟩
  ·exact .inl ⟨(hR.ow n hn).trans h2,A,(hR.sg n hn).trans h3⟩
  ·exact .inr ⟨g,cap,cur,(hR.ow n hn).trans h2,(hR.sg n hn).trans h3,hz g h2,h5,h6,h7,h8,λo ho=>hS _ _ (h9 o ho)⟩
 |vec e k cs=>
  obtain⟨h1,hm,hk,h2⟩:=h;rw[an.aK];refine⟨by rw[aoX];exact(hR.fl n hn).trans h1,by rw[aoX];exact hm,λc hc=> ?_,?_⟩
  ·obtain⟨x,hx,rfl⟩:=List.mem_map.1 hc;rw[gk,aoX];exact hk x hx
  ·rcases h2 with⟨h2,e2,A,h3⟩|⟨g,cap,cur,h2,h3,h4,h5,h6,h7,h8,h9,bM⟩
   ·exact .inl ⟨(hR.ow n hn).trans h2,by rw[e2];rfl,A,(hR.sg n hn).trans h3⟩
   ·refine .inr ⟨g,cap,cur,(hR.ow n hn).trans h2,by rw[aoX];exact(hR.sg n hn).trans h3,hz g h2,h5,by rw[aoX];exact h6,h7,h8,λo=>hS _ _ (h9 o),λi j c x u hc hx hu=> ?_⟩;rw[aoZ]at hc;cases hy:cs[i]? with
    |none=>rw[hy]at hc;cases hc
    |some y=>
     rw[hy]at hc;cases hc
     rw[gk,aoZ]at hx;cases hw:y[j]? with
     |none=>rw[hw]at hx;cases hx
     |some z=>rw[hw]at hx;cases hx;exact(bM i j y z u hy hw hu).aK hR
theorem dB.sM{σ:Nat->Nat}{G G2:Gh}{w:apM}(hR:qI σ G G2){n:Nat}(hn:n<G.N){B:an}(hb:B.aP G.N=true)(hz:∀b,B.dC G n=some b->¬G.Z b)(h:dB G2 w (σ n) (B.aK σ)):dB G w n B:=by
 have hS:∀b o,¬G2.S b o->¬G.S b o:=λb o h h2=>h ((hR.S b o).2 h2);cases B with
 |gone=>trivial
 |cells cs=>
  rw[an.aK]at h;obtain⟨h1,h2,vs,T,h3,h4,h5⟩:=h;rw[hR.aI n hn]at h2 h3;rw[gk,aoX]at h4;simp only[an.aP,api]at hb;exact⟨hz _ rfl,λo=>hS _ _ (h2 o),vs,T,h3,h4,λi u c hu hc=>aD.sM hR (h5 i u (c.aK σ) hu (by rw[gk,aoZ,hc];rfl)) c rfl (hb c (ao5 hc))⟩
 |lp ls p as bd cs=>
  rw[an.aK]at h;obtain⟨h1,h2,fn,vs,T,h3,h4,h5⟩:=h;rw[hR.aI n hn]at h2 h3;rw[gk,aoX]at h4;simp only[an.aP,api]at hb;exact⟨hz _ rfl,λo=>hS _ _ (h2 o),fn,vs,T,h3,h4,λi u c hu hc=>aD.sM hR (h5 i u (c.aK σ) hu (by rw[gk,aoZ,hc];rfl)) c rfl (hb c (ao5 hc))⟩
 |it sn cs=>
  rw[an.aK]at h;obtain⟨h1,h2,fn,vs,T,h3,h4,h5⟩:=h;rw[hR.aI n hn]at h2 h3;rw[gk,aoX]at h4;simp only[an.aP,api]at hb;exact⟨hz _ rfl,λo=>hS _ _ (h2 o),fn,vs,T,h3,h4,λi u c hu hc=>aD.sM hR (h5 i u (c.aK σ) hu (by rw[gk,aoZ,hc];rfl)) c rfl (hb c (ao5 hc))⟩
 |aT T0 cs=>
  rw[an.aK]at h;obtain⟨h1,h2,fn,vs,T,h3,h4,h5⟩:=h;rw[hR.aI n hn]at h2 h3 h4;rw[gk,aoX]at h4;simp only[an.aP,api]at hb;exact⟨hz _ rfl,λo=>hS _ _ (h2 o),fn,vs,T,h3,h4,λi u c hu hc=>aD.sM hR (h5 i u (c.aK σ) hu (by rw[gk,aoZ,hc];rfl)) c rfl (hb c (ao5 hc))⟩
 |map kv=>
  obtain⟨h1,h2,es,c,h3,h4⟩:=h;rw[hR.aI n hn]at h2 h3;exact⟨hz _ rfl,λo=>hS _ _ (h2 o),es,c,h3,h4.aS (λb o h=>(hR.S b o).1 h) (λ_ _ _=>rfl)⟩
 |fR kv=>
  obtain⟨h1,h2,es,c,h3,h4⟩:=h;rw[hR.aI n hn]at h2 h3;exact⟨hz _ rfl,λo=>hS _ _ (h2 o),es,c,h3,h4.aS (λb o h=>(hR.S b o).1 h) (λ_ _ _=>rfl)⟩
 |bg e b=>
  obtain⟨h1,hm,h2⟩:=h;rw[hR.fl n hn]at h1;rw[hR.ow n hn,hR.sg n hn]at h2;refine⟨h1,hm,?_⟩;rcases h2 with⟨h2,h0,A,h3⟩|⟨g,cap,cur,h2,h3,h4,h5,h6,h7,h8,h9,bM⟩
  ·exact .inl ⟨h2,h0,A,h3⟩
  ·exact .inr ⟨g,cap,cur,h2,h3,hz g h2,h5,h6,h7,h8,λo=>hS _ _ (h9 o),bM⟩
 |front e k len=>
  obtain⟨h1,hm,h2⟩:=h;rw[hR.fl n hn]at h1;rw[hR.ow n hn,hR.sg n hn]at h2;refine⟨h1,hm,?_⟩;rcases h2 with⟨h2,A,h3⟩|⟨g,cap,cur,h2,h3,h4,h5,h6,h7,h8,h9⟩
  ·exact .inl ⟨h2,A,h3⟩
  ·exact .inr ⟨g,cap,cur,h2,h3,hz g h2,h5,h6,h7,h8,λo ho=>hS _ _ (h9 o ho)⟩
 |vec e k cs=>
  rw[an.aK]at h;obtain⟨h1,hm,hk,h2⟩:=h;rw[hR.fl n hn,aoX]at h1;rw[aoX]at hm;rw[hR.ow n hn,hR.sg n hn,aoX]at h2;simp only[an.aP,api]at hb;refine⟨h1,hm,λc hc=> ?_,?_⟩
  ·have:=hk _ (List.mem_map.2 ⟨c,hc,rfl⟩)
   rwa [gk,aoX]at this
  ·rcases h2 with⟨h2,e2,A,h3⟩|⟨g,cap,cur,h2,h3,h4,h5,h6,h7,h8,h9,bM⟩
   ·exact .inl ⟨h2,List.map_eq_nil_iff.1 e2,A,h3⟩
   ·refine .inr ⟨g,cap,cur,h2,h3,hz g h2,h5,h6,h7,h8,λo=>hS _ _ (h9 o),λi j c x u hc hx hu=> ?_⟩;exact aD.sM hR (bM i j (AV.dP σ c) (x.aK σ) u (by rw[aoZ,hc];rfl) (by rw[gk,aoZ,hx];rfl) hu) x rfl (hb c (ao5 hc) x (ao5 hx))
theorem Tw:∀(l:apH Nat)(Bs h:apH an),l.length<=Bs.length->(gV l Bs h).length=h.length+(Bs.length-l.length)
 |[],Bs,h,_=>by simp [gV]
 |j::l,[],h,hl=>by simp at hl
 |j::l,B::Bs,h,hl=>by rw[gV,Tw l Bs _ (by simpa using hl),List.length_set];simp
theorem Tg:∀(l:apH Nat)(Bs h:apH an)(n:Nat),l.length<=Bs.length->n<h.length->n ∉ l->(gV l Bs h)[n]?=h[n]?
 |[],Bs,h,n,_,hn,_=>by rw[gV,ao2 hn]
 |j::l,[],h,n,hl,_,_=>by simp at hl
 |j::l,B::Bs,h,n,hl,hn,hm=>by
  simp only[apm,not_or]at hm;rw[gV,Tg l Bs _ n (by simpa using hl) (by rw[List.length_set];exact hn) hm.2,apr (Ne.symm hm.1)]
theorem Yu:∀(l:apH Nat)(Bs h:apH an)(i:Nat),l.length<=Bs.length->l.Nodup->(∀j∈l,j<h.length)->i<Bs.length->(gV l Bs h)[rn l h.length i]?=Bs[i]?
 |[],Bs,h,i,_,_,_,hi=>by rw[gV,rn,ao8 (apy _ _),Nat.add_sub_cancel_left]
 |j::l,[],h,i,hl,_,_,_=>by simp at hl
 |j::l,B::Bs,h,0,hl,hd,aH,_=>by
  rw[List.nodup_cons]at hd;rw[gV,rn,Tg l Bs _ j (by simpa using hl) (by rw[List.length_set];exact aH j (by simp)) hd.1,apl (aH j (by simp))];rfl
 |j::l,B::Bs,h,i+1,hl,hd,aH,hi=>by
  rw[List.nodup_cons]at hd;have:=Yu l Bs (h.set j B) i (by simpa using hl) hd.2 (λx hx=>by rw[List.length_set];exact aH x (by simp [hx])) (by simpa using hi);rw[List.length_set]at this;rw[gV,rn,this];simp
def x9(l:apH Nat)(base n:Nat):apJ Nat:=if n∈l then some (l.idxOf n)else if base<=n then some (l.length+(n-base))else none
theorem QN{l:apH Nat}{base:Nat}(hd:l.Nodup)(aH:∀j∈l,j<base)(i:Nat):x9 l base (rn l base i)=some i:=by
 unfold x9;by_cases hi:i<l.length
 ·have e:l[i]?=some l[i]:=aoW hi;rw[Am l base i _ e,if_pos (List.getElem_mem _),List.Nodup.idxOf_getElem hd i hi]
 ·rw[Hx l base i (by omega),if_neg (λh=>by have:=aH _ h;omega),if_pos (apy _ _)]
  congr 1;omega
theorem P0{l:apH Nat}{base n i:Nat}(h:x9 l base n=some i):rn l base i=n:=by
 unfold x9 at h;split at h
 ·rename_i hm
  cases h
  have aH:=List.idxOf_lt_length_of_mem hm;refine Am l base _ n ?_;rw[aoW aH,List.getElem_idxOf]
 ·split at h
  ·cases h
   rw[Hx _ _ _ (by omega)];omega
  ·cases h
theorem amN{l:apH Nat}{base n:Nat}(h:x9 l base n=none):n<base/\n ∉ l:=by
 unfold x9 at h;split at h
 ·cases h
 ·split at h
  ·cases h
  ·rename_i h1 h2;exact⟨by omega,h1⟩
def tk{α:Type}(o:apJ Nat)(f:Nat->α)(d:α):α:=match o with|some i=>f i|none=>d
theorem Vo{H:apH an}{l:apH Nat}{h:apH an}
 (hd:l.Nodup) (aH:∀j∈l,j<h.length) (hH:∀(i j:Nat),l[i]?=some j->h[j]?=(H[i]?).map (an.aK (rn l h.length))) (hk:l.length=H.length)
 (hb:H.all (an.aP H.length)=true) {G:Gh} {w:apM} (hi:Inv G w h):
 ∃G0:Gh,G0.N=H.length/\Inv G0 w H/\qI (rn l h.length) G0 G/\∀(G1:Gh)(w':apM)(H':apH an),bx H.length G0 w G1 w'->H.length<=G1.N->Inv G1 w' H'->
  ∃G2:Gh,bx G.N G w G2 w'/\G.N<=G2.N/\Inv G2 w' (gV l (H'.map (an.aK (rn l h.length))) h)/\qI (rn l h.length) G1 G2:=by
 obtain⟨σ,hσ⟩:∃σ,σ=rn l h.length:=⟨_,rfl⟩;rw[<-hσ]at hH ⊢;have Ii:h.length=G.N:=hi.len;obtain⟨own,dQ⟩:∃own:Nat->Prop,own=λb=>∃j∈l,bB h G j=some b:=⟨_,rfl⟩;obtain⟨G0,je⟩:∃G0:Gh,G0={N:=H.length,Z:=λb=>b<w.heap.size/\¬own b,S:=G.S,aI:=λi=>G.aI (σ i),sg:=λi=>G.sg (σ i),ow:=λi=>G.ow (σ i),fl:=λi=>G.fl (σ i),M:=G.M}:=⟨_,rfl⟩;have J4:∀i,i<H.length->∃j,l[i]?=some j/\σ i=j/\j∈l:=λi c7=>by
  have kd:i<l.length:=by rw[hk];exact c7
  exact⟨l[i],aoW kd,by rw[hσ];exact Am l _ i _ (aoW kd),List.getElem_mem _⟩
 have tR:qI σ G0 G:=by
  subst je;refine⟨λn hn=> ?_,λ_ _=>rfl,λ_ _=>rfl,λ_ _=>rfl,λ_ _=>rfl,λ_ _=>Iff.rfl⟩;obtain⟨j,_,e,hj⟩:=J4 n hn;rw[e,<-Ii];exact aH j hj
 have b6:G0.N=H.length:=by rw[je]
 have YA:∀(i:Nat)(B:an),H[i]?=some B->h[σ i]?=some (B.aK σ):=λi B hB=>by
  obtain⟨j,e1,e2,_⟩:=J4 i (aoS.1 hB).1;rw[e2,hH i j e1,hB];rfl
 have SN:∀(i:Nat)(B:an)(b:Nat),H[i]?=some B->B.dC G0 i=some b->bB h G (σ i)=some b:=λi B b hB fj=>by
  rw[cZ (YA i B hB),SG tR (by rw[b6];exact(aoS.1 hB).1) B];exact fj
 have tw:∀(i:Nat)(B:an)(b:Nat),H[i]?=some B->B.dC G0 i=some b->¬G0.Z b:=λi B b hB fj hz=>by
  rw[je]at hz;refine hz.2 ?_;rw[dQ];obtain⟨j,_,e2,hj⟩:=J4 i (aoS.1 hB).1;exact⟨j,hj,by rw[<-e2];exact SN i B b hB fj⟩
 have ahb:∀i i',σ i=σ i'->i=i':=λi i' e=>by
  have h1:=QN hd aH i;have h2:=QN hd aH i';rw[hσ]at e;rw[e,h2]at h1;exact(apb h1).symm
 have tH:Inv G0 w H:=by
  refine⟨b6.symm,λb hz=> ?_,λb o hs=> ?_,λi B hB=> ?_,λm n b h1 h2=> ?_,by rw[je];exact hi.gl⟩
  ·rw[je]at hz;exact hz.1
  ·rw[je]at hs;exact hi.S b o hs
  ·have hiN:i<G0.N:=by rw[b6];exact(aoS.1 hB).1
   rw[api]at hb;exact dB.sM tR hiN (by rw[b6];exact hb B (ao5 hB)) (λb fj=>tw i B b hB fj) (hi.cu (σ i) _ (YA i B hB))
  ·obtain⟨B1,wz,iL⟩:=nL h1;obtain⟨B2,OW,jS⟩:=nL h2;exact ahb m n (hi.inj _ _ b (SN m B1 b wz iL) (SN n B2 b OW jS))
 refine⟨G0,b6,tH,tR,λG1 w' H' hE gu jN=> ?_⟩;have Fy:H'.length=G1.N:=jN.len;obtain⟨ps,Es⟩:∃ps,ps=x9 l h.length:=⟨_,rfl⟩;obtain⟨G2,iu⟩:∃G2:Gh,G2={N:=G.N+(G1.N-H.length),Z:=G.Z,S:=G1.S,aI:=λn=>tk (ps n) G1.aI (G.aI n),sg:=λn=>tk (ps n) G1.sg (G.sg n),ow:=λn=>tk (ps n) G1.ow (G.ow n),fl:=λn=>tk (ps n) G1.fl (G.fl n),M:=G.M}:=⟨_,rfl⟩;have Lj:∀i,ps (σ i)=some i:=λi=>by rw[Es,hσ];exact QN hd aH i
 have JQ:∀i,H.length<=i->σ i=G.N+(i-H.length):=λi jM=>by rw[hσ,Hx l _ i (by omega),Ii,hk]
 have aib:∀i,i<H.length->σ i<G.N:=λi HU=>by
  obtain⟨j,_,e,hj⟩:=J4 i HU;rw[e,<-Ii];exact aH j hj
 have SY:qI σ G1 G2:=by
  subst iu;refine⟨λn hn=> ?_,λn _=>by simp only[Lj];rfl,λn _=>by simp only[Lj];rfl,λn _=>by simp only[Lj];rfl,λn _=>by simp only[Lj];rfl,λ_ _=>Iff.rfl⟩;show σ n<G.N+(G1.N-H.length);by_cases ee:n<H.length
  ·have:=aib n ee;omega
  ·rw[JQ n (by omega)];omega
 have V8:∀b,G0.Z b->G1.Z b:=hE.Z.1.1;have O1:∀b,G.Z b->G0.Z b:=λb hz=>by
  rw[je];refine⟨hi.z b hz,λho=> ?_⟩;rw[dQ]at ho;obtain⟨j,_,ho⟩:=ho;obtain⟨B,hB,fj⟩:=nL ho;exact(hi.cu j B hB).lB fj hz
 have gW:bx G.N G w G2 w':=by
  refine⟨hE.size,λb o hs=> ?_,λb o hs=> ?_,λn hn=> ?_,λn hn=> ?_,fY (by rw[iu]) (by rw[iu]),λb hz=>hE.old b (O1 b hz),hE.os,hE.tape,hE.output,λb o hs=> ?_⟩
  ·rw[iu];exact hE.S b o (by rw[je];exact hs)
  ·exact hE.cell b o (by rw[je];exact hs)
  ·rw[iu];show tk (ps n) G1.aI (G.aI n)=G.aI n;cases hp:ps n with
   |none=>rfl
   |some i=>
    have e:σ i=n:=by rw[hσ];rw[Es]at hp;exact P0 hp
    have c7:i<H.length:=Nat.lt_of_not_le λjM=>by rw[JQ i jM]at e;omega
    show G1.aI i=G.aI n;rw[hE.aI i c7,je,<-e]
  ·rw[iu];show(tk (ps n) G1.fl (G.fl n)=G.fl n/\tk (ps n) G1.sg (G.sg n)=G.sg n)\/G.fl n<tk (ps n) G1.fl (G.fl n);cases hp:ps n with
   |none=>exact .inl ⟨rfl,rfl⟩
   |some i=>
    have e:σ i=n:=by rw[hσ];rw[Es]at hp;exact P0 hp
    have c7:i<H.length:=Nat.lt_of_not_le λjM=>by rw[JQ i jM]at e;omega
    have:=hE.fr i c7;rw[je]at this;simp only[e]at this;exact this
  ·rw[iu]at hs;rcases hE.new b o hs with h1|h1
   ·rw[je]at h1;exact .inl h1
   ·exact .inr λhz=>h1 (O1 b hz)
 have hlen:(gV l (H'.map (an.aK σ)) h).length=G2.N:=by
  rw[Tw _ _ _ (by rw[aoX,hk,Fy];omega),aoX,Fy,hk,Ii,iu]
 have ala:∀i,i<G1.N->(gV l (H'.map (an.aK σ)) h)[σ i]?=(H'[i]?).map (an.aK σ):=λi c7=>by
  rw[<-aoZ,hσ];exact Yu l _ h i (by rw[aoX,hk,Fy];omega) hd aH (by rw[aoX,Fy];exact c7)
 have L8:∀(n:Nat)(B:an),(gV l (H'.map (an.aK σ)) h)[n]?=some B->(∃i B',i<G1.N/\n=σ i/\H'[i]?=some B'/\B=B'.aK σ)\/(ps n=none/\n ∉ l/\h[n]?=some B):=λn B hB=>by
  have YM:n<G2.N:=by rw[<-hlen];exact(aoS.1 hB).1
  cases hp:ps n with
  |none=>
   rw[Es]at hp;obtain⟨h1,h2⟩:=amN hp;exact .inr ⟨rfl,h2,by rw[<-Tg l (H'.map (an.aK σ)) h n (by rw[aoX,hk,Fy];omega) h1 h2];exact hB⟩
  |some i=>
   have e:σ i=n:=by rw[hσ];rw[Es]at hp;exact P0 hp
   have c7:i<G1.N:=Nat.lt_of_not_le λjM=>by
    rw[JQ i (by omega)]at e;rw[iu]at YM;have:n<G.N+(G1.N-H.length):=YM;omega
   rw[<-e,ala i c7]at hB;cases hx:H'[i]? with
   |none=>rw[hx]at hB;cases hB
   |some B'=>rw[hx]at hB;cases hB;exact .inl ⟨i,B',c7,e.symm,hx,rfl⟩
 have hold:∀(n b:Nat),n ∉ l->bB h G n=some b->G0.Z b:=λn b hn fj=>by
  rw[je];refine⟨hi.gx fj,λho=> ?_⟩;rw[dQ]at ho;obtain⟨j,hj,ho⟩:=ho;exact hn ((hi.inj n j b fj ho)▸hj)
 have EZ:∀(n b:Nat),bB (gV l (H'.map (an.aK σ)) h) G2 n=some b->(∃i,n=σ i/\bB H' G1 i=some b/\¬G0.Z b)\/(n ∉ l/\bB h G n=some b/\G0.Z b):=λn b fj=>by
  obtain⟨B,hB,iL⟩:=nL fj;rcases L8 n B hB with⟨i,B',c7,rfl,dD,rfl⟩|⟨hp,hn,dD⟩
  ·rw[SG SY c7]at iL;exact .inl ⟨i,rfl,(cZ dD).trans iL,λhz=>(jN.cu i B' dD).lB iL (V8 _ hz)⟩
  ·have e:B.dC G2 n=B.dC G n:=by
    subst iu;cases B<;>simp only[an.dC,hp,tk]
   have:=(cZ dD).trans (e▸iL);exact .inr ⟨hn,this,hold n b hn this⟩
 refine⟨G2,gW,by rw[iu];exact apy _ _,⟨hlen,λb hz=> ?_,λb o hs=> ?_,λn B hB=> ?_,λm n b h1 h2=> ?_,hi.gl.aS gW⟩,SY⟩
 ·rw[iu]at hz;exact apg (hi.z b hz) hE.size
 ·rw[iu]at hs;exact jN.S b o hs
 ·rcases L8 n B hB with⟨i,B',c7,rfl,dD,rfl⟩|⟨hp,hn,dD⟩
  ·refine dB.aK SY c7 (λb fj hz=> ?_) (jN.cu i B' dD);have:=(jN.cu i B' dD).lB fj;rw[iu]at hz;exact this (V8 b (O1 b hz))
  ·have py:n<G.N:=by rw[<-hi.len];exact(aoS.1 dD).1
   refine dB.aS py gW (by rw[iu];exact apy _ _) (by rw[iu];simp only[hp];exact⟨rfl,rfl,rfl⟩) (λb fj=> ?_) (hi.cu n B dD);have hz:=hold n b hn ((cZ dD).trans fj);refine⟨hE.old b hz,λo jq hs=> ?_⟩;rw[iu]at hs;rcases hE.new b o hs with h1|h1
   ·rw[je]at h1;exact jq h1
   ·exact h1 hz
 ·rcases EZ m b h1 with⟨i,rfl,a1,a2⟩|⟨a0,a1,a2⟩<;>rcases EZ n b h2 with⟨j,rfl,b1,b2⟩|⟨b0,b1,b2⟩
  ·rw[jN.inj i j b a1 b1]
  ·exact absurd b2 a2
  ·exact absurd a2 b2
  ·exact hi.inj m n b a1 b1
theorem cx.W1{P:apK}{f:FuncId}{args:apH AV}{H:apH an}{K:AV->apH an->Prop}(hc:cx P f args H K){l:apH Nat}{h:apH an}
 (hd:l.Nodup) (aH:∀j∈l,j<h.length) (hH:∀(i j:Nat),l[i]?=some j->h[j]?=(H[i]?).map (an.aK (rn l h.length))) (hk:l.length=H.length)
 (ha:args.all (AV.aP H.length)=true) (hb:H.all (an.aP H.length)=true):
 cx P f (args.map (AV.aK (rn l h.length))) h λr' h'=>∃r H',K r H'/\r'=r.aK (rn l h.length)/\h'=gV l (H'.map (an.aK (rn l h.length))) h:=by
 refine⟨hc.1,λG w vs hi yg hvr=> ?_⟩;obtain⟨G0,b6,tH,tR,M0⟩:=Vo hd aH hH hk hb hi;refine(hc.2 G0 w vs tH (by rw[yg,aoX]) λi u c hu hx=> ?_).mono λe w' hp=> ?_
 ·rw[api]at ha;exact aD.sM tR (hvr i u (c.aK (rn l h.length)) hu (by rw[aoZ,hx];rfl)) c rfl (by rw[b6];exact ha c (ao5 hx))
 ·obtain⟨v,G1,r,H',rfl,hE,gu,jN,hv,hK⟩:=hp;rw[b6]at gu hE;obtain⟨G2,e1,e2,e3,e4⟩:=M0 G1 w' H' hE gu jN;exact⟨v,G2,r.aK _,_,rfl,e1,e2,e3,hv.aK e4,r,H',hK,rfl,rfl⟩
mutual
theorem yQ{σ τ:Nat->Nat}{k:Nat}(h:∀i,i<k->σ i=τ i):∀x:AV,x.aP k=true->x.aK σ=x.aK τ
 | .ptr n off,hb=>by rw[AV.aP]at hb;rw[AV.aK,AV.aK,h n (by rw[Bool.not_eq_true',<-Bool.not_eq_true,dI]at hb;omega)]
 | .own n xs,hb=>by rw[AV.aP]at hb;rw[AV.aK,AV.aK,h n (by rw[Bool.not_eq_true',<-Bool.not_eq_true,dI]at hb;omega)]
 | .row n off len cap q,hb=>by rw[AV.aP]at hb;rw[AV.aK,AV.aK,h n (by rw[Bool.not_eq_true',<-Bool.not_eq_true,dI]at hb;omega)]
 | .mp n,hb=>by rw[AV.aP]at hb;rw[AV.aK,AV.aK,h n (by rw[Bool.not_eq_true',<-Bool.not_eq_true,dI]at hb;omega)]
 | .cO n,hb=>by rw[AV.aP]at hb;rw[AV.aK,AV.aK,h n (by rw[Bool.not_eq_true',<-Bool.not_eq_true,dI]at hb;omega)]
 | .vec n o len L q,hb=>by rw[AV.aP]at hb;rw[AV.aK,AV.aK,h n (by rw[Bool.not_eq_true',<-Bool.not_eq_true,dI]at hb;omega)]
 | .di n i j L q,hb=>by rw[AV.aP]at hb;rw[AV.aK,AV.aK,h n (by rw[Bool.not_eq_true',<-Bool.not_eq_true,dI]at hb;omega)]
 | .agg cs,hb=>by rw[AV.aP]at hb;rw[AV.aK,AV.aK,sO h cs hb]
 | .bA cs,hb=>by rw[AV.aP]at hb;rw[AV.aK,AV.aK,sO h cs hb]
 | .fn f cs,hb=>by rw[AV.aP]at hb;rw[AV.aK,AV.aK,sO h cs hb]
 | .d x,_=>by rw[AV.aK,AV.aK]
 | .bz xs i off,_=>by rw[AV.aK,AV.aK]
 | .full xs,_=>by rw[AV.aK,AV.aK]
 | .hid c,_=>by rw[AV.aK,AV.aK]
 | .dead,_=>by rw[AV.aK,AV.aK]
theorem sO{σ τ:Nat->Nat}{k:Nat}(h:∀i,i<k->σ i=τ i):∀l:apH AV,AV.nF k l=true->AV.dP σ l=AV.dP τ l
 |[],_=>by rw[AV.dP,AV.dP]
 |x::l,hb=>by
  rw[AV.nF,aoU]at hb;rw[AV.dP,AV.dP,yQ h x hb.1,sO h l hb.2]
end
theorem M4{σ τ:Nat->Nat}{k:Nat}(h:∀i,i<k->σ i=τ i)(B:an)(hb:B.aP k=true):B.aK σ=B.aK τ:=by
 cases B with
 |cells cs=>rw[an.aK,an.aK,sO h cs (by rw[mE];exact hb)]
 |lp ls p as bd cs=>rw[an.aK,an.aK,sO h cs (by rw[mE];exact hb)]
 |it sn cs=>rw[an.aK,an.aK,sO h cs (by rw[mE];exact hb)]
 |aT T0 cs=>rw[an.aK,an.aK,sO h cs (by rw[mE];exact hb)]
 |vec e q cs=>
  rw[an.aK,an.aK]
  congr 1
  refine apn λc hc=>sO h c ?_;simp only[an.aP,api]at hb;rw[mE,api];exact hb c hc
 |_=>rfl
theorem Tn:∀(l:apH Nat)(b c i:Nat),i<l.length->rn l b i=rn l c i
 |[],b,c,i,h=>by simp at h
 |a::l,b,c,0,_=>by rw[rn,rn]
 |a::l,b,c,i+1,h=>by rw[rn,rn];exact Tn l b c i (by simpa using h)
def rO:apH Nat->Bool
 |[]=>true
 |a::l=> !l.any (·==a)&&rO l
theorem ZN:∀{l:apH Nat},rO l=true->l.Nodup
 |[],_=>List.nodup_nil
 |a::l,h=>by
  rw[rO,aoU,Bool.not_eq_true',<-Bool.not_eq_true]at h;rw[List.nodup_cons];exact⟨λhm=>h.1 (List.any_eq_true.2 ⟨a,hm,by simp⟩),ZN h.2⟩
theorem Tq:∀(l:apH Nat)(h Bs:apH an),l.map (λj=>h[j]?)=Bs.map some->gV l Bs h=h
 |[],h,Bs,e=>by
  cases Bs with
  |nil=>rw[gV,apd]
  |cons=>simp at e
 |j::l,h,Bs,e=>by
  cases Bs with
  |nil=>simp at e
  |cons B Bs=>
   rw[aph,aph]at e;injection e with e1 e2;have hs:h.set j B=h:=by
     refine List.ext_getElem? λm=> ?_;by_cases em:j=m
     ·subst em;rw[apl (aoS.1 e1).1,e1]
     ·rw[apr em]
   rw[gV,hs];exact Tq l h Bs e2
section
variable {P:apK} {f:FuncId} {eX:apH AV} {H:apH an} {l:apH Nat} {h:apH an}
theorem VX{l:apH Nat}{h H:apH an}{σ:Nat->Nat}(hb:l.map (λj=>h[j]?)=H.map λB=>some (B.aK σ)):l.length=H.length/\(∀j∈l,j<h.length)/\∀(i j:Nat),l[i]?=some j->h[j]?=(H[i]?).map (an.aK σ):=by
 have h1:l.length=H.length:=by simpa using congrArg List.length hb
 have key:∀(i j:Nat),l[i]?=some j->∃B,H[i]?=some B/\h[j]?=some (B.aK σ):=λi j e=>by
  have aH:i<H.length:=by rw[<-h1];exact(aoS.1 e).1
  have:=congrArg (·[i]?) hb;simp only[aoZ,e,aoW aH,Option.map_some,Option.some.injEq]at this;exact⟨_,aoW aH,this⟩
 refine⟨h1,λj hj=> ?_,λi j e=> ?_⟩
 ·obtain⟨i,hi⟩:=List.mem_iff_getElem?.1 hj;obtain⟨B,_,h2⟩:=key i j hi;exact(aoS.1 h2).1
 ·obtain⟨B,h2,h3⟩:=key i j e;rw[h2,h3];rfl
theorem cx.nB{r:AV}{H':apH an}(hc:cx P f eX H λr1 h1=>r1=r/\h1=H')(hd:rO l=true)(hb:l.map (λj=>h[j]?)=H.map λB=>some (B.aK (rn l h.length)))(hl:(eX.all (AV.aP H.length)&&H.all (an.aP H.length))=true):
 cx P f (eX.map (AV.aK (rn l h.length))) h λr1 h1=>r1=r.aK (rn l h.length)/\h1=gV l (H'.map (an.aK (rn l h.length))) h:=by
 rw[aoU]at hl;obtain⟨h1,h2,h3⟩:=VX hb;exact(hc.W1 (ZN hd) h2 h3 h1 hl.1 hl.2).mono λr1 h1 ⟨r2,H2,⟨e1,e2⟩,e3,e4⟩=>by subst e1;subst e2;exact⟨e3,e4⟩
theorem cx.rq{r:AV}(hc:cx P f eX H λr1 h1=>r1=r/\h1=H)(hd:rO l=true)(hb:l.map (λj=>h[j]?)=H.map λB=>some (B.aK (rn l 0)))(hl:(eX.all (AV.aP H.length)&&H.all (an.aP H.length)&&r.aP H.length)=true)(e:apH an):
 cx P f (eX.map (AV.aK (rn l 0))) (h++e) λr1 h1=>r1=r.aK (rn l 0)/\h1=h++e:=by
 rw[aoU,aoU]at hl;obtain⟨⟨l1,l2⟩,l3⟩:=hl;obtain⟨h1,h2,_⟩:=VX hb;have Qa:∀i,i<H.length->rn l (h++e).length i=rn l 0 i:=λi hi=>Tn l _ _ i (by rw[h1];exact hi);have iL:H.map (λB=>some (B.aK (rn l (h++e).length)))=H.map λB=>some (B.aK (rn l 0)):=by
   refine apn λB hB=> ?_;rw[api]at l2;rw[M4 Qa B (l2 B hB)]
 have jS:l.map (λj=>(h++e)[j]?)=H.map λB=>some (B.aK (rn l (h++e).length)):=by
  rw[iL,<-hb];refine apn λj hj=> ?_;rw[ao2 (h2 j hj)]
 have:=hc.nB hd jS (by rw[l1,l2];rfl);have ha:eX.map (AV.aK (rn l (h++e).length))=eX.map (AV.aK (rn l 0)):=by
  refine apn λx hx=> ?_;rw[api]at l1;exact yQ Qa x (l1 x hx)
 rw[ha,yQ Qa r l3]at this;refine this.mono λr1 h1 ⟨e1,e2⟩=>⟨e1,?_⟩;rw[e2];refine Tq l _ _ ?_;rw[jS,List.map_map];rfl
end
end Go.Proofs.YtmkmibahjanejaaGreatDoor
