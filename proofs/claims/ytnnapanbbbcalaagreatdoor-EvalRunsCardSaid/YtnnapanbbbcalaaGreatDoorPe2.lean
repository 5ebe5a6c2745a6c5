/-
  Part 2 of the proof: AbsLeave, AbsLoop, AbsZero, AbsIter, AbsCode, AbsWalk, GrowF, AbsDraw, AbsFrame.
-/
import Derived.Test.YtnnapanbbbcalaaGreatDoorPe1
import Derived.Lib.AppendZeros
import Derived.Maps.RangeRun
set_option linter.defProp false
namespace Go.Proofs.YtnnapanbbbcalaaGreatDoor
open Go.RowKit
def aQ.zm{G:Gh}{w:Zy}{u:kd}{x:AV}(Z:Nat->Prop)(M:Nat)(h:aQ G w u x):aQ {G with Z:=Z,M:=M} w u x:=by
 induction h with
 |agg m p e _ q=>exact .agg m p e q
 |bq m p e _ q=>exact .bq m p e q
 |fn f m p e _ q=>exact .fn f m p e q
 |own n t h v z g=>exact .own n t h v z g
 |ptr n c h=>exact .ptr (G:={G with Z:=Z,M:=M}) n c h
 |row n c len cap k h e E=>exact .row (G:={G with Z:=Z,M:=M}) n c len cap k h e E
 |mp n h=>exact .mp (G:={G with Z:=Z,M:=M}) n h
 |cU n h=>exact .cU (G:={G with Z:=Z,M:=M}) n h
 |vec n o len L k h A B g=>exact .vec (G:={G with Z:=Z,M:=M}) n o len L k h A B g
 |eH n i j L k h A B g=>exact .eH (G:={G with Z:=Z,M:=M}) n i j L k h A B g
 |hid h F=>exact .hid h F
 |d h=>exact .d h
 |bM t i c b o u x J N R=>exact .bM t i c b o u x J N R
 |full t v g=>exact .full t v g
 |dead u=>exact .dead u
def fb.zm{G:Gh}{w:Zy}{n:Nat}{B:ar}(Z:Nat->Prop)(M:Nat)(A:∀b,Z b->G.Z b)(h:fb G w n B):fb {G with Z:=Z,M:=M} w n B:=by
 cases B with
 |gone=>trivial
 |cells R=>
  obtain⟨m,d,J,T,q,t,v⟩:=h;exact⟨λk=>m (A _ k),d,J,T,q,t,λi u c E F=>(v i u c E F).zm Z M⟩
 |lp ls p as bd R=>
  obtain⟨m,d,L,J,T,q,t,v⟩:=h;exact⟨λk=>m (A _ k),d,L,J,T,q,t,λi u c E F=>(v i u c E F).zm Z M⟩
 |it sn R=>
  obtain⟨m,d,L,J,T,q,t,v⟩:=h;exact⟨λk=>m (A _ k),d,L,J,T,q,t,λi u c E F=>(v i u c E F).zm Z M⟩
 |fM T0 R=>
  obtain⟨m,d,L,J,T,q,t,v⟩:=h;exact⟨λk=>m (A _ k),d,L,J,T,q,t,λi u c E F=>(v i u c E F).zm Z M⟩
 |map W=>
  obtain⟨m,d,S,c,q,t⟩:=h;exact⟨λk=>m (A _ k),d,S,c,q,t⟩
 |jX W=>
  obtain⟨m,d,S,c,q,t⟩:=h;exact⟨λk=>m (A _ k),d,S,c,q,t⟩
 |front e k len=>
  obtain⟨m,N,d⟩:=h;refine⟨m,N,?_⟩;rcases d with d|⟨g,cap,z,d,q,t,v⟩
  ·exact .inl d
  ·exact .inr ⟨g,cap,z,d,q,λk=>t (A _ k),v⟩
 |jE e b2=>
  obtain⟨m,N,d⟩:=h;refine⟨m,N,?_⟩;rcases d with d|⟨g,cap,z,d,q,t,v⟩
  ·exact .inl d
  ·exact .inr ⟨g,cap,z,d,q,λk=>t (A _ k),v⟩
 |vec e k R=>
  obtain⟨m,N,hk,d⟩:=h;refine⟨m,N,hk,?_⟩;rcases d with d|⟨g,cap,z,d,q,t,v,h6,h7,h8,h9,aU⟩
  ·exact .inl d
  ·exact .inr ⟨g,cap,z,d,q,λk=>t (A _ k),v,h6,h7,h8,h9,λi j c x u F hx E=>(aU i j c x u F hx E).zm Z M⟩
def On{h:I ar}{G:Gh}{n:Nat}(Z:Nat->Prop)(M:Nat):cr h {G with Z:=Z,M:=M} n=cr h G n:=by
 unfold cr;cases h[n]? with
 |none=>rfl
 |some B=>cases B<;>rfl
def cu.zm{G:Gh}{w:Zy}{h:I ar}(hi:cu G w h)(Z:Nat->Prop)(M:Nat)(c:∀b,Z b->G.Z b)(d:M<=w.heap.size):cu {G with Z:=Z,M:=M} w h:=
 ⟨hi.len,λb e=>hi.z b (c b e),hi.S,λn B g=>(hi.dM n B g).zm Z M c,λm n b i k=>hi.inj m n b (by rw[<-On Z M];exact i) (by rw[<-On Z M];exact k),⟨hi.gl.1,d⟩⟩
def tB(l:I Nat)(w:Zy):Zy:=l.foldl (λw D=>w.putObj D (.deferred none)) w
def YG:∀(l:I Nat)(w:Zy),(∀D∈l,w.heap[D]?=some (.deferred (some [])))->l.Nodup->
 (tB l w).heap.size=w.heap.size/\(∀b,b ∉ l->(tB l w).heap[b]?=w.heap[b]?)/\(∀b o,(tB l w).cell? ⟨b,o,none⟩=w.cell? ⟨b,o,none⟩)/\(tB l w).os=w.os/\(tB l w).tape=w.tape/\(tB l w).output=w.output
 |[],w,_,_=>⟨rfl,λ_ _=>rfl,λ_ _=>rfl,rfl,rfl,rfl⟩
 |D::l,w,d,c=>by
  rw[List.nodup_cons]at c;have g:=d D Zq;have m:=(ZT.1 g).1;obtain⟨p,q,t,u,v,x⟩:=YG l (w.putObj D (.deferred none)) (λE i=>by
    have z:E≠D:=λe=>c.1 (e▸i);rw[World.putObj_heap_other z];exact d E (Zg _ i)) c.2
  refine⟨p.trans (by simp),λb k=> ?_,λb o=> ?_,u,v,x⟩;{exact(q b λh=>k (Zg _ h)).trans (World.putObj_heap_other λe=>k (e▸Zq))}
  ·refine(t b o).trans ?_;by_cases e:b=D
   ·subst e;unfold World.cell?;simp only[World.putObj_heap_same m,g]
   ·exact World.cell?_of_block (World.putObj_heap_other e)
def YE{F:Fence}{n:Nat}{P:dg}{fn:Func}{tmps:Array kd}{R:Ending->Zy->Prop}:∀(l:I Nat)(w:Zy),(∀D∈l,w.heap[D]?=some (.deferred (some [])))->l.Nodup->
 LeavesIn F n P fn tmps R [] .returning (tB l w)->LeavesInM F n P fn tmps R (l.map λD=>{target:= .collected D,args:= #[]}) .returning w
 |[],w,_,_,h=>h
 |D::l,w,c,b,h=>by
  rw[List.nodup_cons]at b;exact⟨by simp,.inl ⟨D,_,rfl,run_takeDeferred (c D Zq),YE l _ (λE d=>by
    have g:E≠D:=λe=>b.1 (e▸d);rw[World.putObj_heap_other g];exact c E (Zg _ d)) b.2 h⟩⟩
def aqp{N0:Nat}{G G1:Gh}{w w':Zy}{a':Act}{s1:St}(c:cq N0 {G with M:=w.heap.size} w G1 w')(T:N0<=G1.N)(W:∀b,G.Z b->b<w.heap.size)(q:G.M<=w.heap.size)(k:dx G1 w' a' s1):
 ∃(m:Zy)(G2:Gh),(∀(F:Fence)(n:Nat)(P:dg)(fn:Func)(R:Ending->Zy->Prop),(∃v,(results fn a'.tmps).run P m= .ok v m/\R (.returned v) m)->LeavesInM F n P fn a'.tmps R a'.defers .returning w')/\
  cq N0 G w G2 m/\G2.N=G1.N/\dx G2 m {a' with defers:=[]} s1:=by
 obtain⟨l,E,l2,t⟩:=k.df;have J:∀D∈l,w'.heap[D]?=some (.deferred (some [])):=λD hD=>(t D hD).2.2;obtain⟨u,L,h3,h4,h5,h6⟩:=YG l w' J E;have hM:G1.M=w.heap.size:=c.Z.2;have kR:∀b,G.Z b->b ∉ l:=λb d x=>by
  have:=(t b x).1;have:=W b d;omega
 obtain⟨G2,e⟩:∃G2:Gh,G2={G1 with Z:=G.Z,M:=G.M}:=⟨_,rfl⟩;have vy:∀b,G.Z b->G1.Z b:=c.Z.1.1;have g:cu G2 w' s1.h:=by rw[e];exact k.inv.zm _ _ vy (Zc q c.size)
 have jb:cq N0 G w G2 w':=by
  rw[e];exact⟨c.size,c.S,c.cell,c.bg,c.fr,iX rfl,c.old,c.os,c.tape,c.output,c.new⟩
 have p:cq G2.N G2 w' G2 (tB l w'):=⟨by rw[u];exact Zv _,λ_ _ h=>h,λb o _=>h3 b o,λ_ _=>rfl,λ_ _=>.inl ⟨rfl,rfl⟩,iX rfl,λb d=>L b (kR b (by rw[e]at d;exact d)),h4,h5,h6,λ_ _ h=>.inl h⟩;have Nw:cu G2 (tB l w') s1.h:=⟨g.len,λb d=>by rw[u];exact g.z b d,λb o d=>by rw[u];exact g.S b o d,λn B A=>fb.keep (g.lt A) p (Zv _) ⟨rfl,rfl,rfl⟩ (λb d=>⟨L b λx=>(k.inv.dM n B A).mz (by rw[e]at d;cases B<;>exact d) (t b x).2.1,λ_ h=>h⟩) (g.dM n B A),g.inj,g.gl.keep p⟩;refine⟨tB l w',G2,λF n P fn R h=> ?_,jb.trans (p.less (by rw[e];exact T)),by rw[e],⟨k.size,λi=>aQ.keep p (Zv _) (by rw[e];exact(k.tmp i).zm _ _),Nw,tI.nil _ _⟩⟩;rw[l2];exact YE l w' J E h
section
variable {G:Gh} {w:Zy} {h:I ar}
def alx(hi:cu G w h)(fn:FuncId)(k:Array kd)(D p:Nat)(as g:Code)(cs:I AV)(R:k.size=cs.length)(T:∀(i:Nat)(u:kd)(c:AV),k[i]?=some u->cs[i]?=some c->aQ G w u c):cq G.N G w (G.dA w.heap.size) (w.alloc (.loop {state:= .ready,pending:=none,fn:=fn,tmps:=k,params:= #[p],assign:=as,body:=g,defers:=D}))/\cu (G.dA w.heap.size) (w.alloc (.loop {state:= .ready,pending:=none,fn:=fn,tmps:=k,params:= #[p],assign:=as,body:=g,defers:=D})) (h++[.lp .ready p as g cs])/\aQ (G.dA w.heap.size) (w.alloc (.loop {state:= .ready,pending:=none,fn:=fn,tmps:=k,params:= #[p],assign:=as,body:=g,defers:=D})) (.func (.yield w.heap.size) #[] #[]) (.cU h.length):=by
 have q:=vn G w hi.z hi.S (.loop {state:= .ready,pending:=none,fn:=fn,tmps:=k,params:= #[p],assign:=as,body:=g,defers:=D});have L:G.N<=(G.dA w.heap.size).N:=ba _;have v:(G.dA w.heap.size).bg h.length=w.heap.size:=by simp [Gh.dA,hi.len]
 have W:∀n(B:ar),n<G.N->B.eZ (G.dA w.heap.size) n=B.eZ G n:=λn B d=>by
  cases B<;>simp [ar.eZ,Gh.dA,Nat.ne_of_lt d]
 have gd:∀n,n<G.N->cr (h++[.lp .ready p as g cs]) (G.dA w.heap.size) n=cr h G n:=λn d=>by
  have x:n<h.length:=by rw[hi.len];exact d
  unfold cr;rw[ZX x,Ze x];exact W n _ d
 have uu:cr (h++[.lp .ready p as g cs]) (G.dA w.heap.size) h.length=some w.heap.size:=by
  rw[eG (B:= .lp .ready p as g cs) (by simp)];exact congrArg some v
 refine⟨q,⟨by simp [Gh.dA,hi.len],λb E=>ZU (hi.z b E) q.size,λb o F=>ZU (hi.S b o F) q.size,λn B t=> ?_,λm n b hm d=> ?_,hi.gl.keep q⟩,?_⟩
 ·by_cases d:n<h.length
  ·rw[ZX d]at t;have J:n<G.N:=hi.len▸d;exact fb.keep J q L ⟨rfl,rfl,rfl⟩ (λb E=>⟨Below.heap_alloc w _ _ (hi.iO (n:=n) ((eG t).trans E)),λo h=>h⟩) (hi.dM n B t)
  ·have lO:n=h.length:=by
    have:=(Zo.1 t).1;simp at this;omega
   subst lO;simp at t;subst t;exact⟨by rw[v];exact λhz=>Z4 _ (hi.z _ hz),λo F=>by rw[v]at F;exact Z4 _ (hi.S _ _ F),fn,k,D,by rw[v];exact World.alloc_heap_new w _,R,λi u c hu hc=>(T i u c hu hc).keep q L⟩
 ·have A:∀n b,cr (h++[.lp .ready p as g cs]) (G.dA w.heap.size) n=some b->(n<G.N/\cr h G n=some b)\/(n=h.length/\b=w.heap.size):=λn b d=>by
   by_cases x:n<G.N;{exact .inl ⟨x,by rw[<-gd n x];exact d⟩}
   ·by_cases e:n=h.length
    ·subst e;rw[uu]at d;cases d;exact .inr ⟨rfl,rfl⟩
    ·rw[wX (Z9 (by simp;have:=hi.len;omega))]at d;cases d
  rcases A m b hm with⟨_,M⟩|⟨rfl,rfl⟩<;>rcases A n _ d with⟨_,J⟩|⟨rfl,E⟩
  ·exact hi.inj m n b M J
  ·have:=hi.iO M;omega
  ·have:=hi.iO J;omega
  ·rfl
 ·have:=aQ.cU (G:=G.dA w.heap.size) (w:=w.alloc (.loop {state:= .ready,pending:=none,fn:=fn,tmps:=k,params:= #[p],assign:=as,body:=g,defers:=D})) h.length (by simp [Gh.dA,hi.len])
  rwa [v]at this
def QT{k:Nat}{B B':ar}{M ym:Obj}(hi:cu G w h)(i:h[k]?=some B)(v:B.eZ G k=some (G.bg k))(R:∀o,¬G.S (G.bg k) o)(T:w.heap[G.bg k]?=some M)(p:B'= .gone\/B'.eZ G k=some (G.bg k))
 (W:∀w',(∀b o,G.S b o->w'.cell? ⟨b,o,none⟩=w.cell? ⟨b,o,none⟩)->w'.heap[G.bg k]?=some ym->cq G.N G w G w'->fb G w' k B'):cq G.N G w G (w.putObj (G.bg k) ym)/\cu G (w.putObj (G.bg k) ym) (h.set k B'):=by
 have aV:=(ZT.1 T).1;have hZ:¬G.Z (G.bg k):=(hi.dM k B i).mz v;have q:∀b,b≠G.bg k->(w.putObj (G.bg k) ym).heap[b]?=w.heap[b]?:=λb c=>World.putObj_heap_other c;have x:∀b o,G.S b o->(w.putObj (G.bg k) ym).cell? ⟨b,o,none⟩=w.cell? ⟨b,o,none⟩:=λb o t=>World.cell?_of_block (q b (λe=>R o (e▸t)));have d:cq G.N G w G (w.putObj (G.bg k) ym):=⟨by simp,λ_ _ h=>h,x,λ_ _=>rfl,λ_ _=>.inl ⟨rfl,rfl⟩,iX rfl,λb c=>q b (λe=>hZ (e▸c)),rfl,rfl,rfl,λ_ _ h=>.inl h⟩;refine⟨d,?_⟩;have u:=(Zo.1 i).1;have A:(h.set k B')[k]?=some B':=by rw[ZC u]
 have E:∀m,m≠k->(h.set k B')[m]?=h[m]?:=λm hm=>by rw[ZD (Ne.symm hm)]
 have F:cr h G k=some (G.bg k):=(eG i).trans v;have J:∀m b,cr (h.set k B') G m=some b->cr h G m=some b:=λm b c=>by
  by_cases e:m=k
  ·subst e;rw[eG A]at c;rcases p with rfl|p
   ·cases c
   ·rw[p]at c;cases c;exact F
  ·unfold cr at c ⊢;rw[E m e]at c;exact c
 refine⟨by rw[ZJ];exact hi.len,λb c=>ZU (hi.z b c) d.size,λb o t=>ZU (hi.S b o t) d.size,λm C g=> ?_,λm L b h1 h2=>hi.inj m L b (J m b h1) (J L b h2),hi.gl.keep d⟩;by_cases e:m=k
 ·subst e;rw[A]at g;cases g
  exact W _ x (World.putObj_heap_same aV) d
 ·rw[E m e]at g;have cX:∀b,cr h G m=some b->b≠G.bg k:=λb c eb=>e (hi.inj m k b c (by rw[eb];exact F));exact fb.keep (hi.lt g) d (Zv _) ⟨rfl,rfl,rfl⟩ (λb c=>⟨q b (cX _ ((eG g).trans c)),λo h=>h⟩) (hi.dM m C g)
def KB{k:Nat}{e:LS}{p:Nat}{as d:Code}{cs:I AV}(hi:cu G w h)(m:h[k]?=some (.lp e p as d cs)):
 (∀o,¬G.S (G.bg k) o)/\∃(fn:FuncId)(b:Array kd)(D:Nat),w.heap[G.bg k]?=some (.loop {state:=e.st,pending:=e.pd,fn:=fn,tmps:=b,params:= #[p],assign:=as,body:=d,defers:=D})/\b.size=cs.length/\(∀(i:Nat)(u:kd)(c:AV),b[i]?=some u->cs[i]?=some c->aQ G w u c)/\
   ∀(Bx:LS),cq G.N G w G (w.putObj (G.bg k) (.loop {state:=Bx.st,pending:=Bx.pd,fn:=fn,tmps:=b,params:= #[p],assign:=as,body:=d,defers:=D}))/\cu G (w.putObj (G.bg k) (.loop {state:=Bx.st,pending:=Bx.pd,fn:=fn,tmps:=b,params:= #[p],assign:=as,body:=d,defers:=D})) (h.set k (.lp Bx p as d cs)):=by
 obtain⟨x,g,fn,b,D,q,t,v⟩:=hi.dM k _ m;refine⟨g,fn,b,D,q,t,v,λBx=>QT hi m rfl g q (.inr rfl) λF J z A=>⟨x,g,fn,b,D,z,t,λi u c B E=>(v i u c B E).keep A (Zv _)⟩⟩
def ao3{k:Nat}{d:LS}{p:Nat}{as e:Code}{cs:I AV}(hi:cu G w h)(b:h[k]?=some (.lp d p as e cs))(c:Obj):cq G.N G w G (w.putObj (G.bg k) c)/\cu G (w.putObj (G.bg k) c) (h.set k .gone):=by
 obtain⟨m,g,q,t,D,i,u,v⟩:=hi.dM k _ b;exact QT hi b rfl g i (.inl rfl) λ_ _ _ _=>trivial
def ass(hi:cu G w h):cq G.N G w {G with Z:=λb=>G.Z b\/b=w.heap.size} (w.alloc (.deferred (some [])))/\cu {G with Z:=λb=>G.Z b\/b=w.heap.size} (w.alloc (.deferred (some []))) h:=by
 have d:cq G.N G w {G with Z:=λb=>G.Z b\/b=w.heap.size} (w.alloc (.deferred (some []))):=
  ⟨by simp,λ_ _ h=>h,λb _ h=>World.cell?_alloc_lt _ _ _ (hi.S _ _ h),λ_ _=>rfl,λ_ _=>.inl ⟨rfl,rfl⟩,⟨⟨λ_ h=>.inl h,λb h=>h.imp id λe=>Nat.le_of_eq e.symm⟩,rfl⟩,λb c=>Below.heap_alloc w _ b (hi.z b c),rfl,rfl,rfl,λ_ _ h=>.inl h⟩
 refine⟨d,hi.len,λb c=> ?_,λb o i=>ZU (hi.S b o i) d.size,λn B g=> ?_,λm n b k p=>hi.inj m n b (by rw[<-On (λb=>G.Z b\/b=w.heap.size) G.M];exact k) (by rw[<-On (λb=>G.Z b\/b=w.heap.size) G.M];exact p),hi.gl.keep d⟩
 ·rcases c with c|rfl
  ·exact ZU (hi.z b c) d.size
  ·simp
 ·exact fb.keep (hi.lt g) d (Zv _) ⟨rfl,rfl,rfl⟩ (λb c=>⟨Below.heap_alloc w _ _ (hi.iO (n:=n) ((eG g).trans c)),λo h=>h⟩) (hi.dM n B g)
end
open Go.RowKit Go.Lib
def AV.isNil:AV->Bool
 | .d (.v (.slice none 0 0))=>true
 |_=>false
def aqq{x:AV}(h:x.isNil=true):x= .d (.v (.slice none 0 0)):=by
 unfold AV.isNil at h;split at h;{rfl};{cases h}
def Di(P:dg)(op:Op)(ρ:Operand->AV)(h:I ar):U (AV×I ar):=
 match op with
 | .slice T x g i none=>match fQ P T,xy ρ 0 g,xy ρ 0 i with
   |some _,some 0,some 0=>bif (ρ x).isNil then some (.d (.v (.slice none 0 0)),h)else none
   |_,_,_=>none
 | .call c=>match c.callee with
   | .builtin .cap=>match c.args.toList,c.argTypes.toList with
     |[x],[T]=>bif (ρ x).isNil&&(fQ P T).isSome then some (.d (.v (.int .i64 0)),h)else none
     |_,_=>none
   | .builtin .append=>match c.args.toList,c.argTypes.toList with
     |[x,y],[T,b]=>match fQ P T,sq P b,ρ y with
      |some (e,k),some _,.d (.v (.int _ (.ofNat m)))=>match jB P e,te P e with
       |some z,some p=>bif (ρ x).isNil&&cP 1 m&&cP 1 k&&z.cells.toList.length==k&&cP m maxLen&&cP (m*p) 140737488355328 then some (.vec h.length 0 m m k,h++[.vec e k (List.replicate m (z.cells.toList.map λu=>.d (.v u)))])else none
       |_,_=>none
      |_,_,_=>none
     |_,_=>none
   |_=>none
 |_=>none
section
variable {P:dg} {r:U Nat} {n N0:Nat} {G:Gh} {w:Zy} {a:Act} {s:St} {o:Oper} {K:St->Prop} {Q:Exit->Act->Zy->Prop}
def al5{x:Operand}{T:TypeId}(c:Call)(b:c.callee= .builtin .cap)(h1:c.args.toList=[x])(d:c.argTypes.toList=[T])(e:o.op= .call c):
 (execOp a.eval o).run P w=((Builtin.cap_ #[T] o.type #[a.eval x]).run P w).andThen λv w'=>.ok (.value v) w':=by
 have g:c.args= #[x]:=by rw[<-Array.toList_inj];exact h1
 have i:c.argTypes= #[T]:=by rw[<-Array.toList_inj];exact d
 unfold execOp;simp only[e,resolve,b,g,i,invoke,builtin,Sem.run_bind,Sem.run_pure,Result.andThen_ok,List.map_toArray,ZS,ah]
def YB(b:dx G w a s){x:U Operand}(h:xy (ev s) 0 x=some 0):Ea a x 0 0:=by
 cases x with
 |none=>rfl
 |some y=>exact Qw (d:=0) b h (Int.le_refl _)
def am0{x:AV}{h':I ar}(B:dx G w a s)(cJ:N0<=G.N)(p:Di P o.op (ev s) s.h=some (x,h'))(hK:K ((s.wh h').put o.dst x)):o.wpIn (WF r) n P a w (jw N0 G w K) Q:=by
 have dU:=B.ev;have E:∀{y:Operand},(ev s y).isNil=true->a.eval y= .slice none 0 0:=fun{y} h=>by
  have:=dU y;rw[aqq h]at this;exact this.val
 unfold Di at p;split at p
 next T y lo hi F=>
  split at p
  ·next ek M R e3=>
   obtain⟨q,S⟩:=nL p;cases S
   obtain⟨W,t⟩:=ld M;refine gx (by rw[F];simp) B cJ (v:= .slice none 0 0) ?_ (.d (.v _)) hK;have lu:=JG (P:=P) (Cr:=true) (YB B R) (YB B e3) (Zv _) (Zv 0) w;unfold execOp;simp [F,E q,Instr.sliceAt,Instr.slice,run_underlying W,lu,nQ t]
  ·cases p
 next c F=>
  split at p
  ·next A=>
   split at p
   ·next y T M R=>
    obtain⟨q,S⟩:=nL p;cases S
    rw[Zr]at q;cases hT:fQ P T with
    |none=>rw[hT]at q;cases q.2
    |some ek=>
     obtain⟨W,t⟩:=ld hT;refine gx (by rw[F];simp) B cJ (v:= .int .i64 0) ?_ (.d (.v _)) hK;rw[al5 c A M R F,E q.1];simp [Builtin.cap_,run_underlying W,goInt]
   ·cases p
  ·next A=>
   split at p
   ·next y z T g M R=>
    split at p
    ·next e k kn kq m f1 f2 f3=>
     split at p
     ·next zz dy g1 g2=>
      obtain⟨q,S⟩:=nL p;cases S
      simp only[Zr,dS,Ua]at q;obtain⟨⟨⟨⟨⟨iU,lu⟩,O5⟩,tE⟩,Rz⟩,VV⟩:=q;clear p;obtain⟨W,t⟩:=ld f1;obtain⟨i,mr,lv⟩:∃i,P.info? e=some i/\i.size=k:=by
       unfold ic at t;cases J:P.info? e with
       |none=>rw[J]at t;cases t
       |some i=>rw[J]at t;exact⟨i,rfl,Zw t⟩
      have hz:i.zero=some zz:=by unfold jB at g1;rw[mr]at g1;exact g1
      have hbt:i.bytes=dy:=by unfold te at g2;rw[mr]at g2;exact Zw g2
      subst lv;subst hbt;have hy:=dU z;rw[f3]at hy;have ey:a.eval z= .int kq (m:Nat):=hy.val;have eI:=run_append_nil_zeros (P:=P) w T g o.type e i zz kq kn W (Ka f2) mr hz m (by omega) (by omega) (by have:=Rz;simp [maxLen]at this;omega) (by omega);have kR:zz.cells.size=i.size:=by rw[<-ZB];exact tE
      have ig:(List.replicate m (zz.cells.toList.map λu=>AV.d (.v u))).length=m:=Yq;obtain⟨cap,lh⟩:∃cap,cap=grownCap w m 0 e:=⟨_,rfl⟩;have lq:m<=cap:=by rw[lh];exact grownCap_ge _ _ _ _
      have hle:cap<=maxLen:=by rw[lh];exact grownCap_le_maxLen _ _ _ _ Rz
      rw[<-lh]at eI;obtain⟨cur,lC⟩:∃cur,cur=Builtin.zeroCells zz.cells m++Builtin.zeroCells zz.cells (cap-m):=⟨_,rfl⟩;rw[<-lC]at eI;have iH:cur.size=cap*i.size:=by
        rw[lC,Array.size_append,size_zeroCells,size_zeroCells,kR,<-YF]
        congr 1
        omega
      obtain⟨G',q1,q2,q3,q4⟩:=Vs (e:=e) (k:=i.size) (cap:=cap) (cs:=List.replicate m (zz.cells.toList.map λu=>AV.d (.v u))) (cur:=cur) B.inv (by rw[ig];exact lq) hle iH (λc A=>by
       rw[List.eq_of_mem_replicate A,Zu];exact tE) w.drew ⟨rfl,rfl,rfl,rfl⟩ (λa' b c x u A p L=>by
       have:=List.eq_of_mem_replicate (ZY A);subst this;rw[Zs]at p;cases J:zz.cells.toList[b]? with
       |none=>rw[J]at p;cases p
       |some y=>
        rw[J]at p;cases p
        have kg:b<i.size:=by rw[<-tE];exact(Zo.1 J).1
        have UC:a'<m:=by have:=(Zo.1 A).1;rwa [ig]at this
        have aV:a'*i.size+b<m*i.size:=oh UC kg;rw[lC,Array.getElem?_append_left (by rw[size_zeroCells,kR];exact aV)]at L;unfold Builtin.zeroCells at L;rw[Array.getElem?_map,Array.getElem?_range,kR,ab aV]at L;simp only[a6,UW]at L;rw[(Pj (i:=a') kg).2]at L;have qH:zz.cells[b]?=some y:=by rw[<-ZP];exact J
        rw[getElem!_pos zz.cells b (by rw[kR];exact kg)]at L;rw[ZM (by rw[kR];exact kg)]at qH;cases qH
        subst L;exact .d (.v _))
      rw[ig]at q4;refine nr (by rw[F];simp) B cJ (by rw[G5 c A M R F,E iU,ey,eI];rfl) q1 q2 q3 (q4 m (Zv _)) hK
     ·cases p
    ·cases p
   ·cases p
  ·cases p
 next=>cases p
end
section
variable {G:Gh} {w:Zy} {h:I ar}
def anI(hi:cu G w h){b g c:Nat}(M:aQ G w (.map (some b)) (.mp g)):cq G.N G w (G.dA w.heap.size) (w.alloc (.mapIter (some b) c #[] c))/\cu (G.dA w.heap.size) (w.alloc (.mapIter (some b) c #[] c)) (h++[.it (c,[]) [.mp g]])/\aQ (G.dA w.heap.size) (w.alloc (.mapIter (some b) c #[] c)) (.pointer (some ⟨w.heap.size,0,none⟩)) (.ptr h.length 0):=by
 have k:=vn G w hi.z hi.S (.mapIter (some b) c #[] c);have F:G.N<=(G.dA w.heap.size).N:=ba _;have q:(G.dA w.heap.size).bg h.length=w.heap.size:=by simp [Gh.dA,hi.len]
 have R:∀n(B:ar),n<G.N->B.eZ (G.dA w.heap.size) n=B.eZ G n:=λn B d=>by
  cases B<;>simp [ar.eZ,Gh.dA,Nat.ne_of_lt d]
 have T:∀n,n<G.N->cr (h++[.it (c,[]) [.mp g]]) (G.dA w.heap.size) n=cr h G n:=λn d=>by
  have t:n<h.length:=by rw[hi.len];exact d
  unfold cr;rw[ZX t,Ze t];exact R n _ d
 have W:cr (h++[.it (c,[]) [.mp g]]) (G.dA w.heap.size) h.length=some w.heap.size:=by
  rw[eG (B:= .it (c,[]) [.mp g]) (by simp)];exact congrArg some q
 refine⟨k,⟨by simp [Gh.dA,hi.len],λb x=>ZU (hi.z b x) k.size,λb o A=>ZU (hi.S b o A) k.size,λn B p=> ?_,λm n b hm d=> ?_,hi.gl.keep k⟩,?_⟩
 ·by_cases d:n<h.length
  ·rw[ZX d]at p;have E:n<G.N:=hi.len▸d;exact fb.keep E k F ⟨rfl,rfl,rfl⟩ (λb x=>⟨Below.heap_alloc w _ _ (hi.iO (n:=n) ((eG p).trans x)),λo h=>h⟩) (hi.dM n B p)
  ·have lO:n=h.length:=by
    have:=(Zo.1 p).1;simp at this;omega
   subst lO;simp at p;subst p;exact⟨by rw[q];exact λhz=>Z4 _ (hi.z _ hz),λo A=>by rw[q]at A;exact Z4 _ (hi.S _ _ A),b, #[.map (some b)],(),by rw[q];exact World.alloc_heap_new w _,⟨rfl,rfl⟩,λi u c J hc=>by
    match i with
    |0=>cases J;cases hc;exact M.keep k F
    |i+1=>simp at J⟩
 ·have v:∀n b,cr (h++[.it (c,[]) [.mp g]]) (G.dA w.heap.size) n=some b->(n<G.N/\cr h G n=some b)\/(n=h.length/\b=w.heap.size):=λn b d=>by
   by_cases t:n<G.N;{exact .inl ⟨t,by rw[<-T n t];exact d⟩}
   ·by_cases e:n=h.length
    ·subst e;rw[W]at d;cases d;exact .inr ⟨rfl,rfl⟩
    ·rw[wX (Z9 (by simp;have:=hi.len;omega))]at d;cases d
  rcases v m b hm with⟨_,L⟩|⟨rfl,rfl⟩<;>rcases v n _ d with⟨_,E⟩|⟨rfl,x⟩
  ·exact hi.inj m n b L E
  ·have:=hi.iO L;omega
  ·have:=hi.iO E;omega
  ·rfl
 ·have:=aQ.ptr (G:=G.dA w.heap.size) (w:=w.alloc (.mapIter (some b) c #[] c)) h.length 0 (by simp [Gh.dA,hi.len])
  rwa [q]at this
def YA(hi:cu G w h)(e:TypeId):cu (G.dA w.heap.size) (w.alloc (.cells #[.pointer none,.slice none 0 0] e)) (h++[.fM e [.d (.v (.slice none 0 0))]])/\aQ (G.dA w.heap.size) (w.alloc (.cells #[.pointer none,.slice none 0 0] e)) (.pointer (some ⟨w.heap.size,0,none⟩)) (.ptr h.length 0):=by
 have x:=vn G w hi.z hi.S (.cells #[.pointer none,.slice none 0 0] e);have M:G.N<=(G.dA w.heap.size).N:=ba _;have p:(G.dA w.heap.size).bg h.length=w.heap.size:=by simp [Gh.dA,hi.len]
 have R:∀n(B:ar),n<G.N->B.eZ (G.dA w.heap.size) n=B.eZ G n:=λn B g=>by
  cases B<;>simp [ar.eZ,Gh.dA,Nat.ne_of_lt g]
 have T:∀n,n<G.N->cr (h++[.fM e [.d (.v (.slice none 0 0))]]) (G.dA w.heap.size) n=cr h G n:=λn g=>by
  have q:n<h.length:=by rw[hi.len];exact g
  unfold cr;rw[ZX q,Ze q];exact R n _ g
 have W:cr (h++[.fM e [.d (.v (.slice none 0 0))]]) (G.dA w.heap.size) h.length=some w.heap.size:=by
  rw[eG (B:= .fM e [.d (.v (.slice none 0 0))]) (by simp)];exact congrArg some p
 refine⟨⟨by simp [Gh.dA,hi.len],λb A=>ZU (hi.z b A) x.size,λb o E=>ZU (hi.S b o E) x.size,λn B k=> ?_,λm n b hm g=> ?_,hi.gl.keep x⟩,?_⟩
 ·by_cases g:n<h.length
  ·rw[ZX g]at k;have F:n<G.N:=hi.len▸g;exact fb.keep F x M ⟨rfl,rfl,rfl⟩ (λb A=>⟨Below.heap_alloc w _ _ (hi.iO (n:=n) ((eG k).trans A)),λo h=>h⟩) (hi.dM n B k)
  ·have lO:n=h.length:=by
    have:=(Zo.1 k).1;simp at this;omega
   subst lO;simp at k;subst k;exact⟨by rw[p];exact λhz=>Z4 _ (hi.z _ hz),λo E=>by rw[p]at E;exact Z4 _ (hi.S _ _ E),(), #[.slice none 0 0],.pointer none,by rw[p];exact World.alloc_heap_new w _,⟨rfl,.inl rfl,λv hv=>Or.inl (by simpa using hv)⟩,λi u c J hc=>by
    match i with
    |0=>cases J;cases hc;exact .d (.v _)
    |i+1=>simp at J⟩
 ·have t:∀n b,cr (h++[.fM e [.d (.v (.slice none 0 0))]]) (G.dA w.heap.size) n=some b->(n<G.N/\cr h G n=some b)\/(n=h.length/\b=w.heap.size):=λn b g=>by
   by_cases q:n<G.N;{exact .inl ⟨q,by rw[<-T n q];exact g⟩}
   ·by_cases e:n=h.length
    ·subst e;rw[W]at g;cases g;exact .inr ⟨rfl,rfl⟩
    ·rw[wX (Z9 (by simp;have:=hi.len;omega))]at g;cases g
  rcases t m b hm with⟨_,L⟩|⟨rfl,rfl⟩<;>rcases t n _ g with⟨_,F⟩|⟨rfl,A⟩
  ·exact hi.inj m n b L F
  ·have:=hi.iO L;omega
  ·have:=hi.iO F;omega
  ·rfl
 ·have:=aQ.ptr (G:=G.dA w.heap.size) (w:=w.alloc (.cells #[.pointer none,.slice none 0 0] e)) h.length 0 (by simp [Gh.dA,hi.len])
  rwa [p]at this
def Py{n b:Nat}{c:Nat×I Nat}(hi:cu G w h)(d:h[n]?=some (.it c [.mp b])):(∀o,¬G.S (G.bg n) o)/\w.heap[G.bg n]?=some (.mapIter (some (G.bg b)) c.1 c.2.toArray c.1)/\aQ G w (.map (some (G.bg b))) (.mp b):=by
 obtain⟨q,e,g,t,_,i,⟨_,k⟩,m⟩:=hi.dM n _ d;have:=m 0 (.map (some g)) (.mp b) (by rw[k];rfl) rfl;cases this with
 |mp _ p=>exact⟨e,i,.mp b p⟩
def Y7(hi:cu G w h):cq G.N G w G w.drew/\cu G w.drew h:=by
 have b:cq G.N G w G w.drew:=⟨Zv _,λ_ _ h=>h,λ_ _ _=>rfl,λ_ _=>rfl,λ_ _=>.inl ⟨rfl,rfl⟩,iX rfl,λ_ _=>rfl,rfl,rfl,rfl,λ_ _ h=>.inl h⟩;exact⟨b,hi.len,hi.z,hi.S,λn B c=>fb.keep (hi.lt c) b (Zv _) ⟨rfl,rfl,rfl⟩ (λ_ _=>⟨rfl,λ_ h=>h⟩) (hi.dM n B c),hi.inj,hi.gl.keep b⟩
end
def RU(P:dg)(o:Oper)(K:St->Prop)(s:St):Prop:=
 match o.op with
 | .range T m=>match vD P T,ev s m with
   |some _,.mp i=>match s.h[i]? with
    |some (.jX c)=>K ((s.wh (s.h++[.it (c.length,[]) [.mp i]])).put o.dst (.ptr s.h.length 0))
    |_=>False
   |_,_=>False
 | .next k false=>match ev s k with
   | .ptr m 0=>match s.h[m]? with
     |some (.it g [.mp i])=>match s.h[i]? with
      |some (.jX c)=>g.1=c.length/\(∀b p,c[b]?=some p->b ∉ g.2->K ((s.wh (s.h.set m (.it (g.1,g.2++[b]) [.mp i]))).put o.dst (.bq [.d (.v (.bool true)),.d (.v (.string p.1)),.d p.2])))/\((∀b,b<c.length->b∈g.2)->K (s.put o.dst (.bq [.d (.v (.bool false))])))
      |_=>False
     |_=>False
   |_=>False
 | .entry k=>match ev s k with
   | .ptr m 0=>match s.h[m]? with
     |some (.it g [.mp i])=>match s.h[i]? with
      |some (.jX c)=>g.1=c.length/\∃l b p,g.2=l++[b]/\c[b]?=some p/\K (s.put o.dst (.bq [.d (.v (.string p.1)),.d p.2]))
      |_=>False
     |_=>False
   |_=>False
 | .alloc e=>match jB P e with
   |some z=>z.cells= #[.pointer none,.slice none 0 0]/\K ((s.wh (s.h++[.fM e [.d (.v (.slice none 0 0))]])).put o.dst (.ptr s.h.length 0))
   |none=>False
 | .box e x=>ev s x= .agg [.d (.v (.pointer none)),.d (.v (.slice none 0 0))]/\K ((s.wh (s.h++[.fM e [.d (.v (.slice none 0 0))]])).put o.dst (.ptr s.h.length 0))
 |_=>False
section
variable {P:dg} {r:U Nat} {n N0:Nat} {G:Gh} {w:Zy} {a:Act} {s:St} {o:Oper} {K:St->Prop} {Q:Exit->Act->Zy->Prop}
def Wq{d:Nat}{kv:I (so×D)}(hi:cu G w s.h)(g:s.h[d]?=some (.jX kv)):∃b:Array MapEntry,w.heap[G.bg d]?=some (.map b kv.length)/\AA G.S w b kv.length kv:=by
 obtain⟨_,_,b,c,i,e⟩:=hi.dM d _ g;have:c=kv.length:=e.ok.IC.trans e.all.symm;subst this;exact⟨b,i,e⟩
def AA.mem{S:Nat->Nat->Prop}{b:Array MapEntry}{c:Nat}{kv:I (so×D)}(h:AA S w b c kv){e:MapEntry}(g:e∈b.toList):b[e.born]?=some e/\e.born<kv.length:=by
 obtain⟨i,k,rfl⟩:=List.getElem_of_mem g;have d:b[i]?=some b.toList[i]:=by simp
 have m:=h.ok.born i _ d;rw[m];exact⟨d,by rw[h.all];simpa using k⟩
def am8(k:dx G w a s)(cJ:N0<=G.N)(g:RU P o K s):o.wpIn (WF r) n P a w (jw N0 G w K) Q:=by
 have dU:=k.ev;have R:∀{y:Operand}{n:Nat},ev s y= .ptr n 0->a.eval y= .pointer (some ⟨G.bg n,0,none⟩):=fun{y n} h=>by
  have:=dU y;rw[h]at this;generalize a.eval y=u at this;cases this;rfl
 unfold RU at g;split at g
 next T m A=>
  split at g
  ·next ke J e1 e2=>
   split at g
   ·next M hb=>
    obtain⟨es,W,E⟩:=Wq k.inv hb;have L:=dU m;rw[e2]at L;have ea:a.eval m= .map (some (G.bg J)):=by
     generalize a.eval m=u at L;cases L;rfl
    rw[ea]at L;obtain⟨i1,i2,i3⟩:=anI (c:=M.length) k.inv L;obtain⟨k0,el⟩:=ke;refine nr (by rw[A];simp) k cJ (v:= .pointer (some ⟨w.heap.size,0,none⟩)) (w':=w.alloc (.mapIter (some (G.bg J)) M.length #[] M.length)) ?_ i1 (ba _) i2 i3 g;unfold execOp;simp [A,ea,Instr.range,run_underlying (EX e1),MapKept.run_getObj_map W,Result.andThen]
   ·cases g
  ·cases g
 next it A=>
  split at g
  ·next m e1=>
   split at g
   ·next sn J hn=>
    split at g
    ·next M hb=>
     obtain⟨t,hK1,hK2⟩:=g;obtain⟨es,W,E⟩:=Wq k.inv hb;obtain⟨t1,t2,t3⟩:=Py k.inv hn;rw[t]at t2;have F:=run_next_at (P:=P) w o.type _ _ _ _ _ _ _ t2 W (λx g=>(E.mem g).2) (Zv _);rcases F with⟨h0,F⟩|⟨e',nR,w1,s8,F⟩
     ·refine gx (by rw[A];simp) k cJ (v:= .tuple #[.bool false]) ?_ (.bq _ _ rfl λi u c B t=> ?_) (hK2 λb im=> ?_)
      ·unfold execOp;simp [A,R e1,F]
      ·match i with
       |0=>cases B;cases t;exact .d (.v _)
       |i+1=>simp at B
      ·have aV:b<es.size:=by rw[<-E.all];exact im
       have LV:es[b]?=some es[b]:=ZM aV;have Gi:=E.ok.born b _ LV;have Rn:leftOf es sn.2.toArray= #[]:=Array.eq_empty_of_size_eq_zero h0;unfold leftOf at Rn;rw[Array.filter_eq_empty_iff]at Rn;have:=Rn es[b] (Array.getElem_mem aV);rw[Gi]at this
       simpa using this
     ·have hm:e'∈es.toList/\e'.born ∉ sn.2:=by
       unfold leftOf at nR;simp only[Array.toList_filter,List.mem_filter]at nR;exact⟨nR.1,by simpa using nR.2⟩
      obtain⟨q1,q2⟩:=E.mem hm.1;obtain⟨p,p1,p2,p3⟩:=E.ord _ _ q1;have hK:=hK1 e'.born p p1 hm.2;obtain⟨jb,zB⟩:cq G.N G w G w1/\cu G w1 s.h:=by
       rcases s8 with rfl|rfl
       ·exact⟨cq.refl _ _ _,k.inv⟩
       ·exact Y7 k.inv
      obtain⟨t1',t2',_⟩:=Py zB hn;obtain⟨z1,z2,z3,z4,z5,z6,z7⟩:=zB.dM m _ hn;obtain⟨kD,P8⟩:=QT (B':= .it (sn.1,sn.2++[e'.born]) [.mp J]) (ym:= .mapIter (some (G.bg J)) M.length (sn.2.toArray.push e'.born) M.length) zB hn rfl t1' t2' (.inr rfl) λw' gV fS hE=>by
       have hvv:=(Py zB hn).2.2;refine⟨z1,z2,G.bg J, #[.map (some (G.bg J))],(),?_,⟨rfl,rfl⟩,λi u c B t=> ?_⟩;{rw[fS];simp [t]}
       ·match i with
        |0=>cases B;cases t;exact hvv.keep hE (Zv _)
        |i+1=>simp at B
      refine nr (by rw[A];simp) k cJ (v:= .tuple #[.bool true,e'.key,e'.val]) ?_ (jb.trans kD) (Zv _) P8 (.bq _ _ rfl λi u c B t=> ?_) hK;{unfold execOp;simp only[A,R e1];simp [F];rfl}
      ·match i with
       |0=>cases B;cases t;exact .d (.v _)
       |1=>cases B;cases t;rw[p2];exact .d (.v _)
       |2=>cases B;cases t;exact .d (p3.keep (jb.trans kD).S (jb.trans kD).cell)
       |i+3=>simp at B
    ·cases g
   ·cases g
  ·cases g
 next it A=>
  split at g
  ·next m e1=>
   split at g
   ·next sn J hn=>
    split at g
    ·next M hb=>
     obtain⟨t,l,b,p,hl,hp,hK⟩:=g;obtain⟨es,W,E⟩:=Wq k.inv hb;obtain⟨t1,t2,t3⟩:=Py k.inv hn;have aV:b<es.size:=by rw[<-E.all];exact(Zo.1 hp).1
     have LV:es[b]?=some es[b]:=ZM aV;have Gi:=E.ok.born b _ LV;obtain⟨p',p1,p2,p3⟩:=E.ord _ _ LV;rw[hp]at p1;cases p1
     have k8:(es.toList.map (·.born)).Nodup:=by
      have e:es.toList.map (·.born)=List.range es.size:=by
       apply List.ext_getElem?;intro i;rw[Zs,ZP];by_cases hi:i<es.size;{rw[ZM hi,a6,E.ok.born i _ (ZM hi),List.getElem?_range hi]};{rw[Array.getElem?_eq_none (by omega),Z9 (by simp;omega)];rfl}
      rw[e];exact List.nodup_range
     have F:=run_entry_at (P:=P) w (G.bg m) (G.bg J) sn.1 l.toArray es M.length es[b] (by rw[t2,hl,Gi,t];simp) W (by simp) k8;refine gx (by rw[A];simp) k cJ (v:= .tuple #[es[b].key,es[b].val]) ?_ (.bq _ _ rfl λi u c B t=> ?_) hK;{unfold execOp;simp [A,R e1,F]}
     ·match i with
      |0=>cases B;cases t;rw[p2];exact .d (.v _)
      |1=>cases B;cases t;exact .d p3
      |i+2=>simp at B
    ·cases g
   ·cases g
  ·cases g
 next e A=>
  split at g
  ·next z hz=>
   obtain⟨t,hK⟩:=g;obtain⟨i1,i2⟩:=YA k.inv e;exact nr (by rw[A];simp) k cJ (by unfold execOp;simp [A,Instr.alloc,Ew hz,newVar,newRow,t]) (vn G w k.inv.z k.inv.S _) (ba _) i1 i2 hK
  ·cases g
 next e x A=>
  obtain⟨hx1,hK⟩:=g;have t:(a.eval x).cells= #[.pointer none,.slice none 0 0]:=by
   have L:=dU x;rw[hx1]at L;generalize a.eval x=u at L;cases L with|agg vs _ hl F=>
   obtain⟨l⟩:=vs
   match l,hl with
   |[p,q],_=>
    have h0:=(F 0 p _ rfl rfl).val;have W:=(F 1 q _ rfl rfl).val;subst h0;subst W;rfl
  obtain⟨i1,i2⟩:=YA k.inv e;exact nr (by rw[A];simp) k cJ (by unfold execOp;simp [A,Instr.box,newVar,newRow,t]) (vn G w k.inv.z k.inv.S _) (ba _) i1 i2 hK
 ·cases g
end
def jY(ops:Array Oper)(o:Oper)(s:St)(e g:Prop):Prop:=
 match o.guard with
 |none=>e
 |some (j,c)=>match (ops[j]?).bind (·.dst)with
  |some d=>match bP s.t d with
   | .d (.v (.bool b))=>(b=c->e)/\(b= !c->g)
   | .d (.v (.tuple _))=>g
   |_=>False
  |none=>False
structure bR(P:Program)(r:Option Nat)(N0:Nat)(c:Code)(Q:Exit->St->Prop)(s:St):Prop where
 run:∀(G:Gh)(w:World)(a:Act)(n:Nat),dx G w a s->N0<=G.N->c.wpIn (WF r) n P (λe a' w'=>jw N0 G w (Q e) a' w') a w
def je(K:St->Prop)(Q:Exit->St->Prop):Exit->St->Prop
 | .normal,s=>K s
 |e,s=>Q e s
def ng:Nat->I AV->I (Nat×AV)
 |_,[]=>[]
 |k,x::l=>(k,x)::ng (k+1) l
def Th:∀(l:I AV)(k i:Nat),bP (ng k l) i=if k<=i then(l[i-k]?).getD .dead else .dead
 |[],k,i=>by simp [ng,bP]
 |x::l,k,i=>by
  rw[ng,mE,Th l (k+1) i];by_cases h:i=k;{subst h;simp}
  ·rw[ae h];by_cases b:k<=i
   ·rw[ab (by omega),ab b,show i-k=i-(k+1)+1 by omega,Z2]
   ·rw[ae (by omega),ae b]
def YS(P:dg)(k:Nat)(x:AV)(h:I ar)(C:Bool->I ar->Prop):Prop:=∀(G:Gh)(w:Zy)(v:kd)(r:U Nat)(n:Nat),cu G w h->aQ G w v x->k<G.N/\∃(p:Nat)(as c:Code)(fn:FuncId)(d:Array kd)(D:Nat),w.heap[G.bg k]?=some (.loop {state:= .ready,pending:=none,fn:=fn,tmps:=d,params:= #[p],assign:=as,body:=c,defers:=D})/\ RoundIn (WF r) n P (G.bg k) fn (d.setIfInBounds p v) as c w λe g=>∃(b:Bool)(G':Gh)(i:I ar),e= .returned (.bool b)/\cq G.N G w G' g/\G.N<=G'.N/\cu G' g i/\C b i
def aqj(C:Bool->I ar->Prop)(k:Nat):Exit->St->Prop
 | .normal,b=>∃p as c d,b.h[k]?=some (.lp .busy p as c d)/\C true (b.h.set k (.lp .ready p as c d))
 | .ret,b=>∃p as c d,b.h[k]?=some (.lp .busy p as c d)/\C false (b.h.set k (.lp (.done .ret) p as c d))
 | .exit i,b=>∃p as c d,b.h[k]?=some (.lp .busy p as c d)/\C false (b.h.set k (.lp (.done (.exit i)) p as c d))
 |_,_=>False
def Kb(P:dg)(o:Oper)(K:St->Prop)(s:St):Prop:=
 match o.op with
 | .call c=>match c.callee with
   | .value f=>match ev s f,c.args.toList.map (ev s)with
     | .cU k,[x]=>YS P k x s.h λb e=>K ((s.wh e).put o.dst (.d (.v (.bool b))))
     |_,_=>False
   |_=>False
 |_=>False
def alc(P:dg)(o:Oper)(K:St->Prop)(s:St):Prop:=∃x b,Di P o.op (ev s) s.h=some (x,b)/\K ((s.wh b).put o.dst x)
def qw(P:dg)(o:Oper)(K:St->Prop)(s:St):Prop:=Lp P o K s\/IM P o K s\/tC P o K s\/Kb P o K s\/alc P o K s\/RU P o K s
def uM(P:dg)(ops:Array Oper):I Oper->(St->Prop)->St->Prop
 |[],K,s=>K s
 |o::rest,K,s=>jY ops o s (qw P o (uM P ops rest K) s) (uM P ops rest K (s.put o.dst (.d (.v undef))))
def sZ(id:Nat)(Q:Exit->St->Prop):Exit->St->Prop
 | .exit b,s=>bif b==id then Q .normal s else Q (.exit b) s
 |e,s=>Q e s
section
variable {P:dg} {r:U Nat} {n N0:Nat} {G:Gh} {w:Zy} {a:Act} {s:St} {o:Oper} {Q:Exit->St->Prop}
def jw.mono{K b:St->Prop}(h:∀s,K s->b s){a':Act}{w':Zy}(c:jw N0 G w K a' w'):jw N0 G w b a' w':=
 let ⟨d,e,g,i,k,m⟩:=c;⟨d,e,g,i,k,h _ m⟩
def jw.trans{K:St->Prop}{G1:Gh}{b:Zy}(c:cq N0 G w G1 b){a':Act}{w':Zy}(d:jw N0 G1 b K a' w'):jw N0 G w K a' w':=
 let ⟨e,g,i,k,m,p⟩:=d;⟨e,g,c.trans i,k,m,p⟩
def bR.mono{c:Code}{b:Exit->St->Prop}(h:bR P r N0 c Q s)(d:∀e s,Q e s->b e s):bR P r N0 c b s:=
 ⟨λG w a n g i=>wpIn_mono (h.run G w a n g i) λe _ _ k=>k.mono (d e)⟩
def S2{ops:Array Oper}{i no:Prop}(v:dx G w a s)(h:jY ops o s i no):if Region.wanted o (yielded ops a.tmps)then i else no:=by
 unfold jY at h;split at h
 ·rename_i k
  rw[ab (by simp [Region.wanted,k])];exact h
 ·rename_i j c k
  split at h
  ·rename_i d u
   have m:=v.tmp d;split at h
   ·rename_i b q
    rw[q]at m;have e:=m.bool;have p:yielded ops a.tmps j=some b:=by
      unfold yielded;rw[u,re];by_cases g:d<a.tmps.size
      ·rw[ZM g];have:a.tmps.getD d undef=a.tmps[d]:=by simp [Array.getD,g]
       rw[this]at e;rw[e]
      ·have:a.tmps.getD d undef=undef:=by simp [Array.getD,g]
       rw[this]at e;cases e
    by_cases t:b=c;{rw[ab (by simp [Region.wanted,k,p,t])];exact h.1 t};{rw[ae (by simp [Region.wanted,k,p,t])];exact h.2 (by cases b<;>cases c<;>simp_all)}
   ·rename_i x q
    rw[q]at m;have e:=m.val;have p:yielded ops a.tmps j=none:=by
      unfold yielded;rw[u,re];by_cases g:d<a.tmps.size
      ·rw[ZM g];have:a.tmps.getD d undef=a.tmps[d]:=by simp [Array.getD,g]
       rw[this]at e;rw[e]
      ·rw[Array.getElem?_eq_none (Nat.le_of_not_lt g)]
    rw[ae (by simp [Region.wanted,k,p])];exact h
   ·exact h.elim
  ·exact h.elim
def YS.mono{k:Nat}{x:AV}{h:I ar}{C C':Bool->I ar->Prop}(c:YS P k x h C)(d:∀b h',C b h'->C' b h'):YS P k x h C':=λG w v r n e g=>
 let ⟨i,p,as,bd,m,q,D,t,u⟩:=c G w v r n e g
 ⟨i,p,as,bd,m,q,D,t,u.mono λ_ _ ⟨b,z,h',A,B,E,F,J⟩=>⟨b,z,h',A,B,E,F,d _ _ J⟩⟩
def ars{k:Nat}{x:AV}{h:I ar}{C:Bool->I ar->Prop}
 (hA:∃p as g cs,h[k]?=some (.lp .ready p as g cs)/\p<cs.length/\∀(l:Nat),bR P (some l) h.length as (je (λm=>∃z A B T,m.h[k]?=some (.lp .ready z A B T)/\bR P (some l) h.length g (aqj C k) ⟨m.n,m.t,m.h.set k (.lp .busy z A B T)⟩) (λ_ _=>False)) ⟨cs.length,(p,x)::ng 0 cs,h⟩):YS P k x h C:=by
 intro G w v r n W Vh;obtain⟨p,as,g,cs,hk,hp,hA⟩:=hA;have Ct:k<G.N:=W.lt hk;obtain⟨hS,fn,tm,D,h3,h4,h5,atA⟩:=KB W hk;refine⟨Ct,p,as,g,fn,tm,D,h3,?_⟩;refine roundIn_of_wpIn (F:=WF r) trivial ?_;have qu:dx G w {tmps:=tm.setIfInBounds p v,defers:=[]} ⟨cs.length,(p,x)::ng 0 cs,h⟩:=by
  refine⟨by simp [h4],λi=> ?_,W,tI.nil _ _⟩;show aQ _ _ _ (bP ((p,x)::ng 0 cs) i);rw[mE];split
  ·next e=>
   subst e;have:(tm.setIfInBounds i v).getD i undef=v:=by simp [Array.getD,h4,hp]
   rw[this];exact Vh
  ·next e=>
   rw[Th];simp only[Wv,if_true,Nat.sub_zero];cases gV:cs[i]? with
   |none=>exact .dead _
   |some y=>
    have aV:i<tm.size:=by rw[h4];exact(Zo.1 gV).1
    have:(tm.setIfInBounds p v).getD i undef=tm[i]:=by
     simp [Array.getD,aV,Ne.symm e]
    rw[this];exact h5 i _ y (ZM aV) gV
 have qy:=hA (G.bg k);rw[W.len]at qy;refine wpIn_mono (qy.run G w _ n qu (Zv _)) λe1 a1 w1 ze=> ?_;obtain⟨G1,m,jb,gU,fR,tS⟩:=ze;cases e1 with
 |normal=>
  obtain⟨z,A,B,T,kV,iU⟩:=tS;have Hq:G1.bg k=G.bg k:=jb.bg k Ct;obtain⟨_,fn1,tm1,D1,g3,g4,g5,XC⟩:=KB fR.inv kV;obtain⟨gE,gI⟩:=XC .busy;rw[Hq]at g3 gE gI;refine⟨_,run_beginRound g3 rfl,?_⟩;have yz:dx G1 (w1.putObj (G.bg k) (.loop {state:= .busy,pending:=none,fn:=fn1,tmps:=tm1,params:= #[z],assign:=A,body:=B,defers:=D1})) a1 ⟨m.n,m.t,m.h.set k (.lp .busy z A B T)⟩:=fR.move gE (Zv _) gI;refine wpIn_mono (iU.run G1 _ a1 n yz gU) λe3 a3 w3 hn3=> ?_;obtain⟨G3,s3,E,Yn,hs3,sG⟩:=hn3;have q:∀(c:U Code)(u:LS)(b:Bool)(p:Nat)(as g:Code)(d:I AV),s3.h[k]?=some (.lp .busy p as g d)->u.pd=c->u.st=(if c.isNone then .ready else .done)->c.isNone=b->C b (s3.h.set k (.lp u p as g d))->
   ∃v w',(Instr.endRound (G.bg k) c).run P w3= .ok v w'/\∃(b:Bool)(G':Gh)(h':I ar),(Ending.returned v:Ending)= .returned (.bool b)/\cq G.N G w G' w'/\G.N<=G'.N/\cu G' w' h'/\C b h':=λc u b p as g d LB q1 q2 q3 hK=>by
   have hr3:G3.bg k=G.bg k:=(E.bg k Ct).trans Hq;obtain⟨_,fn3,tm3,D3,z3,z4,z5,ald⟩:=KB hs3.inv LB;obtain⟨zE,zI⟩:=ald u;rw[hr3]at z3 zE zI;subst q1;have GZ:=run_endRound (P:=P) u.pd z3;rw[<-q2]at GZ;refine⟨_,_,GZ,b,G3,_,by rw[q3],?_,Yn,zI,hK⟩;exact(jb.trans ((gE.less gU).trans E)).trans (zE.less Yn)
  cases e3 with
  |normal=>obtain⟨J,L,M,d,R,S⟩:=sG;exact q none .ready true J L M d R rfl rfl rfl S
  |ret=>obtain⟨J,L,M,d,R,S⟩:=sG;exact q (some .ret) (.done .ret) false J L M d R rfl rfl rfl S
  |exit i=>obtain⟨J,L,M,d,R,S⟩:=sG;exact q (some (.exit i)) (.done (.exit i)) false J L M d R rfl rfl rfl S
  |_=>exact sG.elim
 |_=>exact tS.elim
def ajf{K:St->Prop}{Q:Exit->Act->Zy->Prop}(m:dx G w a s)(t:N0<=G.N)(h:Kb P o K s):o.wpIn (WF r) n P a w (jw N0 G w K) Q:=by
 unfold Kb at h;split at h
 ·next c z=>
  split at h
  ·next f L=>
   split at h
   ·next k x M A=>
    have q:=m.ev f;rw[M]at q;have R:a.eval f= .func (.yield (G.bg k)) #[] #[]:=by
     generalize a.eval f=u at q;cases q;rfl
    obtain⟨S,T⟩:=yQ m c.args;obtain⟨v,B⟩:∃v,c.args.map a.eval= #[v]:=by
     have:(c.args.map a.eval).size=1:=by rw[S,A];rfl
     exact⟨(c.args.map a.eval)[0],Array.ext (by simp [this]) λi h1 E=>by
      have:i=0:=by simp at E;exact E
      subst this;rfl⟩
    have W:aQ G w v x:=T 0 v x (by rw[B];rfl) (by rw[A];rfl);obtain⟨Ct,p,as,bd,fn,tm,D,h3,hA⟩:=h G w v r (n-1) m.inv W;have k8:∀c',o.op≠ .defer c':=λc' e=>by rw[z]at e;cases e
    have hy:=run_yield (P:=P) (args:= #[v]) h3 rfl;have eI:(o.semAt (WF r).round a.eval).run P w= .ok (.round (G.bg k) fn (tm.setIfInBounds p v) as bd) w:=by
     rw[Oper.semAt_eq _ _ _ k8];unfold execOp;simp only[z,resolve,L,R];simp [Deferred.ofValue,invoke,B,hy]
    unfold Oper.wpIn;refine⟨λg hg=>trivial,?_⟩;rw[eI,Oper.uponIn_round];refine⟨λh=>(by simp [WF,Fence.wide]at h),hA.mono λe w' hp=> ?_⟩;obtain⟨b,G',h',rfl,F,J,e8,hK⟩:=hp;exact⟨G',_,F.less t,Zc t J,(m.move F J e8).put (.d (.v _)) o.dst,hK⟩
   ·exact h.elim
  ·exact h.elim
 ·exact h.elim
def apc{K:St->Prop}{Q:Exit->Act->Zy->Prop}(b:dx G w a s)(c:N0<=G.N)(h:qw P o K s):o.wpIn (WF r) n P a w (jw N0 G w K) Q:=by
 rcases h with h|h|h|h|⟨x,e,h,d⟩|h
 ·exact TO b c (.inl h)
 ·exact TO b c (.inr (.inl h))
 ·exact TO b c (.inr (.inr h))
 ·exact ajf b c h
 ·exact am0 b c h d
 ·exact am8 b c h
def QO{ops:Array Oper}{K:St->Prop}{q:Exit->Act->Zy->Prop}(m:∀a' w',jw N0 G w K a' w'->q .normal a' w'):∀(l:I Oper)(k:Nat),(∀j,l[j]?=ops[k+j]?)->∀(G1:Gh)(b:Zy)(a:Act)(s:St),
 cq N0 G w G1 b->N0<=G1.N->dx G1 b a s->uM P ops l K s->wpOpsIn (WF r) n P ops q (List.range' k l.length) a b
 |[],k,_,G1,b,a,s,e,g,c,h=>m _ _ ⟨G1,s,e,g,c,h⟩
 |o::l,k,t,G1,b,a,s,e,g,c,h=>by
  have x:ops[k]?=some o:=by simpa using (t 0).symm
  have u:∀j,l[j]?=ops[k+1+j]?:=λj=>by have:=t (j+1);simpa [Nat.add_assoc,Nat.add_comm 1 j]using this
  have i:=S2 c h;simp only[Zl,List.range'_succ,wpOpsIn,x];split
  ·rename_i p
   rw[ab p]at i;exact Oper.wpIn_mono (λa' w' z=>by
     obtain⟨A,B,E,F,J,L⟩:=z;exact QO m l (k+1) u A w' a' B (e.trans E) F J L) (apc c g i)
  ·rename_i p
   rw[ae p]at i;exact⟨λ_ _=>trivial,QO m l (k+1) u G1 b _ _ e g (c.put (.d (.v undef)) o.dst) i⟩
def fU{id:Nat}{ops:Array Oper}(h:uM P ops ops.toList (Q .normal) s):bR P r N0 (.region id ops false) Q s:=by
 constructor
 intro G w a n b c;refine wpIn_region ?_;rw[List.range_eq_range',<-ZB];exact QO (G:=G) (w:=w) (K:=Q .normal) (λ_ _ h=>h) ops.toList 0 (by simp) G w a s (cq.refl _ _ _) c b h
def cN(h:Q .normal s):bR P r N0 .skip Q s:=⟨λG _ _ _ b c=>wpIn_skip ⟨G,s,cq.refl _ _ _,c,b,h⟩⟩
def dm(h:Q .ret s):bR P r N0 .ret Q s:=⟨λG _ _ _ b c=>wpIn_ret ⟨G,s,cq.refl _ _ _,c,b,h⟩⟩
def ma{id:Nat}(h:Q (.exit id) s):bR P r N0 (.exit id) Q s:=⟨λG _ _ _ b c=>wpIn_exit ⟨G,s,cq.refl _ _ _,c,b,h⟩⟩
def aw{x y:Code}(h:bR P r N0 x (je (λs'=>bR P r N0 y Q s') Q) s):bR P r N0 (.seq x y) Q s:=by
 constructor
 intro G w a n m p;refine wpIn_seq (wpIn_mono (h.run G w a n m p) λe q t b=> ?_);obtain⟨c,u,d,g,i,k⟩:=b;cases e with
 |normal=>exact wpIn_mono (k.run c t q n i g) λ_ _ _ b=>b.trans d
 |_=>exact⟨c,u,d,g,i,k⟩
def V7{c:Operand}{x y:Code}{t:Bool}(k:ev s c= .d (.v (.bool t)))(h1:t=true->bR P r N0 x Q s)(m:t=false->bR P r N0 y Q s):bR P r N0 (.cond c x y) Q s:=by
 constructor
 intro G w a n b g;have i:=b.ev c;rw[k]at i;exact wpIn_cond_split i.bool (λe=>(h1 e).run G w a n b g) (λe=>(m e).run G w a n b g)
def dL{id:Nat}{c:Code}(h:bR P r N0 c (sZ id Q) s):bR P r N0 (.block id c) Q s:=by
 constructor
 intro G w a n u v;refine wpIn_block (wpIn_mono (h.run G w a n u v) λe z A x=> ?_);obtain⟨g,i,k,m,p,b⟩:=x;cases e with
 |exit t=>
  by_cases d:t=id;{simp only[sZ,d,BEq.rfl,Tq]at b;simp only[Exit.inBlock,ab d];exact⟨g,i,k,m,p,b⟩}
  ·have q:(t==id)=false:=by simpa using d
   simp only[sZ,q,T6]at b;simp only[Exit.inBlock,ae d];exact⟨g,i,k,m,p,b⟩
 |_=>exact⟨g,i,k,m,p,b⟩
def WJ{F:Fence}{c:Code}{Q:Exit->Act->Zy->Prop}{ι:Type}(d:ι->Act->Zy->Prop)(μ:ι->Nat)(J:ι)(L:d J a w)
 (round:∀i a w,d i a w->c.wpIn F n P (Exit.then (λa' w'=>∃i',d i' a' w'/\μ i'<μ i) Q) a w):(Code.loop c).wpIn F n P Q a w:=by
 intro b k t M u v;have z:∀j i a w,μ i=j->d i a w->
  ∃e a' w',Q e a' w'/\ArrivesIn (Machine.fenced P F) P (lone (b.atR a (.code c:: .inLoop c::k)) t w) b k t e a' w':=by
  intro j
  induction j using Nat.strongRecOn with
  |_ j N=>
   intro i a w R S;obtain⟨e,p,q,g,m⟩:=round i a w S b (.inLoop c::k) t M u v;cases e with
   |normal=>
    obtain⟨i',A,T⟩:=g;obtain⟨W,a₂,w₂,B,E⟩:=N (μ i') (R▸T) i' p q rfl A;exact⟨W,a₂,w₂,B,.of_steps (StepsIn.trans m (.one (fenced_calm u v rfl) stepR_inLoop)) E⟩
   |exit id=>exact⟨_,p,q,g,.pass (x:= .inLoop c) rfl (λ_ _=>.inl (by simp)) m⟩
   |goto l=>exact⟨_,p,q,g,.pass (x:= .inLoop c) rfl (λ_ _=>.inl (by simp)) m⟩
   |ret=>exact⟨_,p,q,g,.pass (x:= .inLoop c) rfl (λ_ _=>.inl (by simp)) m⟩
   |panic ch=>exact⟨_,p,q,g,.pass (x:= .inLoop c) rfl (λ_ _=>.inl (by simp)) m⟩
   |outgrown=>exact⟨_,p,q,g,.pass (x:= .inLoop c) rfl (λ_ _=>.inl (by simp)) m⟩
 obtain⟨e,a',w',g,m⟩:=z _ J a w rfl L;exact⟨e,a',w',g,.of_steps (.one (fenced_calm u v rfl) stepR_loop) m⟩
end
mutual
def AV.bQ(m:Nat):AV->AV
 | .own n xs=>bif cP m n then .d (.sl xs)else .own n xs
 | .agg cs=>.agg (AV.rH m cs)
 | .bq cs=>.bq (AV.rH m cs)
 | .fn f cs=>.fn f (AV.rH m cs)
 |x=>x
def AV.rH(m:Nat):I AV->I AV
 |[]=>[]
 |x::l=>x.bQ m::AV.rH m l
end
mutual
def AV.aN(m:Nat):AV->Bool
 | .own n _| .ptr n _| .row n _ _ _ _| .mp n| .cU n| .vec n _ _ _ _| .eH n _ _ _ _=> !cP m n
 | .agg cs=>AV.lA m cs
 | .bq cs=>AV.lA m cs
 | .fn _ cs=>AV.lA m cs
 |_=>true
def AV.lA(m:Nat):I AV->Bool
 |[]=>true
 |x::l=>x.aN m&&AV.lA m l
end
def Gn(m:Nat):∀l,AV.rH m l=l.map (AV.bQ m)
 |[]=>by simp [AV.rH]
 |x::l=>by simp [AV.rH,Gn m l]
def oH(m:Nat):∀l,AV.lA m l=l.all (AV.aN m)
 |[]=>by simp [AV.lA]
 |x::l=>by simp [AV.lA,oH m l]
def ar.bQ(m:Nat):ar->ar
 | .cells b=>.cells (b.map (AV.bQ m))
 | .lp c p as bd b=>.lp c p as bd (b.map (AV.bQ m))
 | .it d b=>.it d (b.map (AV.bQ m))
 | .fM T b=>.fM T (b.map (AV.bQ m))
 | .vec e k b=>.vec e k (b.map (·.map (AV.bQ m)))
 |B=>B
def ar.aN(m:Nat):ar->Bool
 | .cells b=>b.all (AV.aN m)
 | .lp _ _ _ _ b=>b.all (AV.aN m)
 | .it _ b=>b.all (AV.aN m)
 | .fM _ b=>b.all (AV.aN m)
 | .vec _ _ b=>b.all (·.all (AV.aN m))
 |_=>true
def aQ.bQ{G:Gh}{w:Zy}(m:Nat){u:kd}{x:AV}(h:aQ G w u x):aQ G w u (x.bQ m):=by
 have F:∀(e:Array kd)(p:I AV),(∀(i:Nat)(u:kd)(c:AV),e[i]?=some u->p[i]?=some c->aQ G w u (c.bQ m))->∀(i:Nat)(u:kd)(c:AV),e[i]?=some u->(AV.rH m p)[i]?=some c->aQ G w u c:=by
  intro e p q i u c J z;rw[Gn,Zs]at z;cases A:p[i]? with
  |none=>rw[A]at z;cases z
  |some x=>rw[A]at z;cases z;exact q i u x J A
 induction h with
 |agg e p t _ q=>rw[AV.bQ];exact .agg e _ (by rw[Gn,Zu];exact t) (F e p q)
 |bq e p t _ q=>rw[AV.bQ];exact .bq e _ (by rw[Gn,Zu];exact t) (F e p q)
 |fn f e p t _ q=>rw[AV.bQ];exact .fn f e _ (by rw[Gn,Zu];exact t) (F e p q)
 |own n B h E M v=>
  rw[AV.bQ,cond_eq_ite];split;{exact .d E};{exact .own n B h E M v}
 |d h=>simp only[AV.bQ];exact .d h
 |ptr n g h=>simp only[AV.bQ];exact .ptr n g h
 |bM B i g b o u x A S J=>simp only[AV.bQ];exact .bM B i g b o u x A S J
 |full B E v=>simp only[AV.bQ];exact .full B E v
 |row n g len cap k h t T=>simp only[AV.bQ];exact .row n g len cap k h t T
 |mp n h=>simp only[AV.bQ];exact .mp n h
 |cU n h=>simp only[AV.bQ];exact .cU n h
 |vec n o len L k h N R v=>simp only[AV.bQ];exact .vec n o len L k h N R v
 |eH n i j L k h N R v=>simp only[AV.bQ];exact .eH n i j L k h N R v
 |hid h W=>simp only[AV.bQ];exact .hid h W
 |dead u=>simp only[AV.bQ];exact .dead u
def Gh.cut(G:Gh)(m:Nat):Gh:={G with N:=m}
def aQ.cut{G:Gh}{w:Zy}{m:Nat}{u:kd}{x:AV}(h:aQ G w u x)(e:x.aN m=true):aQ (G.cut m) w u x:=by
 induction h with
 |agg z A q _ B=>
  rw[AV.aN,oH,Zd]at e;exact .agg z A q λi u c t p=>B i u c t p (e c (ZY p))
 |bq z A q _ B=>
  rw[AV.aN,oH,Zd]at e;exact .bq z A q λi u c t p=>B i u c t p (e c (ZY p))
 |fn f z A q _ B=>
  rw[AV.aN,oH,Zd]at e;exact .fn f z A q λi u c t p=>B i u c t p (e c (ZY p))
 |own n E h F J v=>rw[AV.aN]at e;exact .own n E (show n<m by rw[UA,<-Uq,dS]at e;omega) F J v
 |ptr n g h=>rw[AV.aN]at e;exact .ptr (G:=G.cut m) n g (show n<m by rw[UA,<-Uq,dS]at e;omega)
 |row n g len cap k h q R=>rw[AV.aN]at e;exact .row (G:=G.cut m) n g len cap k (show n<m by rw[UA,<-Uq,dS]at e;omega) q R
 |mp n h=>rw[AV.aN]at e;exact .mp (G:=G.cut m) n (show n<m by rw[UA,<-Uq,dS]at e;omega)
 |cU n h=>rw[AV.aN]at e;exact .cU (G:=G.cut m) n (show n<m by rw[UA,<-Uq,dS]at e;omega)
 |vec n o len L k h M N v=>rw[AV.aN]at e;exact .vec (G:=G.cut m) n o len L k (show n<m by rw[UA,<-Uq,dS]at e;omega) M N v
 |eH n i j L k h M N v=>rw[AV.aN]at e;exact .eH (G:=G.cut m) n i j L k (show n<m by rw[UA,<-Uq,dS]at e;omega) M N v
 |hid h S=>exact .hid (G:=G.cut m) h S
 |d h=>exact .d h
 |bM E i g b o u x T W t=>exact .bM E i g b o u x T W t
 |full E F v=>exact .full E F v
 |dead u=>exact .dead u
def St.mask(s:St)(live:I Nat)(m:Nat):St:={s with t:=live.map λk=>(k,(bP s.t k).bQ m),h:=(s.h.take m).map (ar.bQ m)}
def St.Ba(s:St)(live:I Nat)(m:Nat):Prop:=m<=s.h.length/\(live.all λk=>((bP s.t k).bQ m).aN m)=true/\(((s.h.take m).map (ar.bQ m)).all (ar.aN m))=true
def tA(f:Nat->AV):∀(live:I Nat)(i:Nat),bP (live.map λk=>(k,f k)) i=if i∈live then f i else .dead
 |[],i=>by simp [bP]
 |k::l,i=>by
  simp only[ZS,mE,tA f l i,Za];by_cases h:i=k;{subst h;simp};{simp [h]}
def Sq{G:Gh}{w:Zy}{h:I ar}(hi:cu G w h){m:Nat}(hm:m<=h.length)(hb:(((h.take m).map (ar.bQ m)).all (ar.aN m))=true):cu (G.cut m) w ((h.take m).map (ar.bQ m)):=by
 have fy:∀(n:Nat)(B:ar),((h.take m).map (ar.bQ m))[n]?=some B->n<m/\∃B',h[n]?=some B'/\B=B'.bQ m/\(B'.bQ m).aN m=true:=λn B t=>by
  have R:=Zd.1 hb B (ZY t);rw[Zs,List.getElem?_take]at t;split at t
  ·rename_i hn
   cases q:h[n]? with
   |none=>rw[q]at t;cases t
   |some B'=>rw[q]at t;cases t;exact⟨hn,B',rfl,rfl,R⟩
  ·cases t
 have fu:∀n b,cr ((h.take m).map (ar.bQ m)) (G.cut m) n=some b->cr h G n=some b:=λn b hb=>by
  obtain⟨B,t,hb⟩:=n9 hb;obtain⟨_,B',h1,rfl,_⟩:=fy n B t;rw[eG h1,<-hb];cases B'<;>rfl
 refine⟨by simp [Gh.cut];omega,hi.z,hi.S,λn B t=> ?_,λi j b h1 h2=>hi.inj i j b (fu i b h1) (fu j b h2),hi.gl⟩;obtain⟨hn,B',h1,rfl,R⟩:=fy n B t;have v:=hi.dM n B' h1;cases B' with
 |gone=>trivial
 |front e k len=>exact v
 |jE e b=>exact v
 |map kv=>exact v
 |jX kv=>exact v
 |vec e k E=>
  obtain⟨F,J,L,M⟩:=v;refine⟨by rw[Zu];exact F,by rw[Zu];exact J,λc d=> ?_,?_⟩;{obtain⟨x,q,rfl⟩:=UU.1 d;rw[Zu];exact L x q}
  ·rcases M with⟨d1,d2,A,d3⟩|⟨g,cap,cur,d1,d2,d3,d4,d5,d6,d7,d8,d9⟩
   ·exact .inl ⟨d1,by rw[d2];rfl,A,d3⟩
   ·refine .inr ⟨g,cap,cur,d1,by rw[Zu];exact d2,d3,d4,by rw[Zu];exact d5,d6,d7,d8,λi j c x u d q N=> ?_⟩;simp only[ar.bQ,ar.aN,Zd]at R;rw[Zs]at d;cases hy:E[i]? with
    |none=>rw[hy]at d;cases d
    |some y=>
     rw[hy]at d;cases d
     have hz:=q;rw[Zs]at q;cases hw:y[j]? with
     |none=>rw[hw]at q;cases q
     |some z=>
      rw[hw]at q;cases q
      exact((d9 i j y z u hy hw N).bQ m).cut (R _ (UU.2 ⟨y,ZY hy,rfl⟩) _ (ZY hz))
 |cells E=>
  obtain⟨F,J,W,T,L,M,c5⟩:=v;refine⟨F,J,W,T,L,by rw[Zu];exact M,λi u c N d=> ?_⟩;have kG:=ZY d;rw[Zs]at d;cases q:E[i]? with
  |none=>rw[q]at d;cases d
  |some x=>
   rw[q]at d;cases d
   exact((c5 i u x N q).bQ m).cut (Zd.1 R _ kG)
 |lp ls p as bd E=>
  obtain⟨F,J,fn,W,T,L,M,c5⟩:=v;refine⟨F,J,fn,W,T,L,by rw[Zu];exact M,λi u c N d=> ?_⟩;have kG:=ZY d;rw[Zs]at d;cases q:E[i]? with
  |none=>rw[q]at d;cases d
  |some x=>
   rw[q]at d;cases d
   exact((c5 i u x N q).bQ m).cut (Zd.1 R _ kG)
 |it sn E=>
  obtain⟨F,J,fn,W,T,L,M,c5⟩:=v;refine⟨F,J,fn,W,T,L,by rw[Zu];exact M,λi u c N d=> ?_⟩;have kG:=ZY d;rw[Zs]at d;cases q:E[i]? with
  |none=>rw[q]at d;cases d
  |some x=>
   rw[q]at d;cases d
   exact((c5 i u x N q).bQ m).cut (Zd.1 R _ kG)
 |fM T0 E=>
  obtain⟨F,J,fn,W,T,L,M,c5⟩:=v;refine⟨F,J,fn,W,T,L,by rw[Zu];exact M,λi u c N d=> ?_⟩;have kG:=ZY d;rw[Zs]at d;cases q:E[i]? with
  |none=>rw[q]at d;cases d
  |some x=>
   rw[q]at d;cases d
   exact((c5 i u x N q).bQ m).cut (Zd.1 R _ kG)
def qS(N:Nat)(G:Gh)(w:Zy)(m:Nat):cq N G w (G.cut m) w:=
 ⟨Zv _,λ_ _ h=>h,λ_ _ _=>rfl,λ_ _=>rfl,λ_ _=>.inl ⟨rfl,rfl⟩,iX rfl,λ_ _=>rfl,rfl,rfl,rfl,λ_ _ h=>.inl h⟩
section
variable {P:dg} {r:U Nat} {n N0:Nat} {G:Gh} {w:Zy} {a:Act} {s:St} {o:Oper} {Q:Exit->St->Prop}
def dx.mask(b:dx G w a s){live:I Nat}{m:Nat}(h:s.Ba live m):dx (G.cut m) w a (s.mask live m):=by
 obtain⟨c,d,e⟩:=h;refine⟨b.size,λi=> ?_,Sq b.inv c e,b.df⟩;show aQ _ _ _ (bP (live.map λk=>(k,(bP s.t k).bQ m)) i);rw[tA (λk=>(bP s.t k).bQ m)];split
 ·rename_i g
  exact((b.tmp i).bQ m).cut (Zd.1 d i g)
 ·exact .dead _
def Mf{c:Code}{ι:Type}(live:I Nat)(m:Nat)(d:ι->St)(b:ι->Prop)(μ:ι->Nat)(k:ι)(t:N0<=m)(A:s.Ba live m)(B:s.mask live m=d k)(E:b k)
 (round:∀i,b i->bR P r N0 c (je (λs'=>s'.Ba live m/\∃i',s'.mask live m=d i'/\b i'/\μ i'<μ i) Q) (d i)):bR P r N0 (.loop c) Q s:=by
 constructor
 intro G w a n F _;refine WJ (λ(i:ι) p g=>∃G',b i/\cq N0 G w G' g/\N0<=G'.N/\dx G' g p (d i)) μ k ⟨G.cut m,E,qS _ _ _ _,t,B▸F.mask A⟩ ?_;rintro i p g ⟨G',J,u,L,M⟩;refine wpIn_mono ((round i J).run G' g p n M L) λe a1 w1 R=> ?_;obtain⟨G1,S,v,T,x,z⟩:=R;cases e with
 |normal=>
  obtain⟨q,i',W,h2,h3⟩:=z;exact⟨i',⟨G1.cut m,h2,(u.trans v).trans (qS _ _ _ _),t,W▸x.mask q⟩,h3⟩
 |_=>exact⟨G1,S,u.trans v,T,x,z⟩
def oa(P:dg)(s:St):I ResultVar->(I AV->Prop)->Prop
 |[],C=>C []
 | .tmp t::l,C=>oa P s l λb=>C (bP s.t t::b)
 | .cell p t::l,C=>ql P t s.h (bP s.t p) λx=>oa P s l λb=>C (x::b)
def la:I AV->AV
 |[x]=>x
 |l=>.bq l
def sw(P:dg)(fn:Func)(m:Nat)(K:AV->I ar->Prop)(s:St):Prop:=oa P s fn.results.toList λl=>m<=s.h.length/\((la l).bQ m).aN m=true/\(((s.h.take m).map (ar.bQ m)).all (ar.aN m))=true/\K ((la l).bQ m) ((s.h.take m).map (ar.bQ m))
def Kx(P:dg)(fn:Func)(m:Nat)(K:AV->I ar->Prop):Exit->St->Prop
 | .normal,s=>sw P fn m K s
 | .ret,s=>sw P fn m K s
 |_,_=>False
def aor{C:I AV->Prop}(m:dx G w a s)(g:ResultVar->Sem kd)(z:∀t,g (.tmp t)=pure (a.tmps.getD t undef))(T:∀p t,g (.cell p t)=(do loadVar t (<-asAddr (a.tmps.getD p undef)))):
 ∀(l:I ResultVar),oa P s l C->∃(d:I kd)(xs:I AV),(l.mapM g).run P w= .ok d w/\d.length=xs.length/\(∀(i:Nat)(u:kd)(c:AV),d[i]?=some u->xs[i]?=some c->aQ G w u c)/\C xs:=by
 intro l
 induction l generalizing C with
 |nil=>exact λh=>⟨[],[],by simp,rfl,λi u c b=>by simp at b,h⟩
 |cons x l N=>
  intro h;cases x with
  |tmp t=>
   obtain⟨d,xs,A,B,E,F⟩:=N h;refine⟨a.tmps.getD t undef::d,bP s.t t::xs,by simp only[List.mapM_cons,z,Sem.run_bind,Sem.run_pure,Result.andThen_ok,A],by simp [B],λi u c b k=> ?_,F⟩
   match i with
   |0=>simp only[List.getElem?_cons_zero,UW]at b k;subst b;subst k;exact m.tmp t
   |i+1=>exact E i u c (by simpa using b) (by simpa using k)
  |cell p t=>
   obtain⟨R,W,J,r2,r3⟩:=Ya (P:=P) m.inv (m.tmp p) h;obtain⟨d,xs,A,B,E,F⟩:=N r3;have L:=m.tmp p;have e:∃q,a.tmps.getD p undef= .pointer (some q):=by
    have S:ql P t s.h (bP s.t p) λx=>oa P s l λxs=>C (x::xs):=h;generalize a.tmps.getD p undef=v at L J;generalize bP s.t p=y at L S;cases L with
    |ptr=>exact⟨_,rfl⟩
    |bM=>exact⟨_,rfl⟩
    |_=>exact(show False from S).elim
   obtain⟨q,e⟩:=e;rw[e]at J;have M:(loadVar t q).run P w= .ok R w:=by simpa [Instr.loadAt,Instr.sureAddr]using J
   have ha:(asAddr (a.tmps.getD p undef)).run P w= .ok q w:=by rw[e];rfl
   refine⟨R::d,W::xs,by simp only[List.mapM_cons,T,Sem.run_bind,Sem.run_pure,Result.andThen_ok,A,ha,M],by simp [B],λi u c b k=> ?_,F⟩
   match i with
   |0=>simp only[List.getElem?_cons_zero,UW]at b k;subst b;subst k;exact r2
   |i+1=>exact E i u c (by simpa using b) (by simpa using k)
def aiG:∀(d:I kd)(xs:I AV),d.length=xs.length->(∀(i:Nat)(u:kd)(c:AV),d[i]?=some u->xs[i]?=some c->aQ G w u c)->aQ G w (if h:d.toArray.size=1 then d.toArray[0]else .tuple d.toArray) (la xs)
 |[v],[x],_,h=>h 0 v x rfl rfl
 |[],[],_,_=>.bq _ _ rfl λi u c e=>by simp at e
 |v::u::d,x::y::xs,b,h=>by
  have:¬(v::u::d).toArray.size=1:=by simp
  rw[dif_neg this];exact .bq _ _ (by simpa using b) λi p q g k=>h i p q (by simpa using g) k
 |[],_::_,b,_=>by simp at b
 |_::_,[],b,_=>by simp at b
 |[_],_::_::_,b,_=>by simp at b
 |_::_::_,[_],b,_=>by simp at b
def asN{fn:Func}{m:Nat}{K:AV->I ar->Prop}(d:dx G w a s)(h:sw P fn m K s):∃v G' r h',(results fn a.tmps).run P w= .ok v w/\cq N0 G w G' w/\m<=G'.N/\cu G' w h'/\aQ G' w v r/\K r h':=by
 obtain⟨g,c⟩:∃g:ResultVar->Sem kd,results fn a.tmps=(do let b <-fn.results.mapM g;pure (if h:b.size=1 then b[0]else .tuple b))/\(∀t,g (.tmp t)=pure (a.tmps.getD t undef))/\(∀p t,g (.cell p t)=(do loadVar t (<-asAddr (a.tmps.getD p undef)))):=
  ⟨_,rfl,λ_=>rfl,λ_ _=>rfl⟩
 obtain⟨b,i,k,q,u,x,z,A,B⟩:=aor d g c.2.1 c.2.2 fn.results.toList h;have E:(results fn a.tmps).run P w= .ok (if h:b.toArray.size=1 then b.toArray[0]else .tuple b.toArray) w:=by
  rw[c.1,Sem.run_bind,Array.mapM_eq_mapM_toList];have e:∀X:Sem (I kd),(Functor.map List.toArray X:Sem _)=X>>=λl=>pure l.toArray:=λ_=>rfl;rw[e,Sem.run_bind,k];rfl
 have F:=aiG b i q u;exact⟨_,G.cut m,_,_,E,qS _ _ _ _,Zv _,Sq d.inv x A,(F.bQ m).cut z,B⟩
def wo{f:FuncId}{fn:Func}{c:Code}{args:I AV}{h:I ar}{K:AV->I ar->Prop}(m:Nat)(u:P.funcs[f]?=some fn)(A:fn.body=some c)(p:(fn.name== "runtime.NumGoroutine")=false)(L:h.length<=m)
 (R:bR P none h.length c (Kx P fn m K) {n:=args.length+(fn.ntmps-args.length),t:=ng 0 args,h:=h}):dt P f args h K:=by
 refine⟨by unfold O7;rw[u];simp [A];simpa using p,λG w vs b B S=> ?_⟩;refine callsIn_wide (n:=8).1 (callsIn_of_wp_marks (F:=Fence.wide) u A trivial ?_);have T:dx {G with M:=w.heap.size} w {tmps:=vs++Array.replicate (fn.ntmps-vs.size) undef,defers:=[]} {n:=args.length+(fn.ntmps-args.length),t:=ng 0 args,h:=h}:=by
  refine⟨by simp [B],λi=> ?_,b.zm G.Z _ (λ_ h=>h) (Zv _),tI.nil _ _⟩;show aQ _ _ _ (bP (ng 0 args) i);rw[Th];simp only[Wv,if_true,Nat.sub_zero];cases E:args[i]? with
  |none=>exact .dead _
  |some x=>
   have q:i<vs.size:=by rw[B];exact(Zo.1 E).1
   have:(vs++Array.replicate (fn.ntmps-vs.size) undef).getD i undef=vs[i]:=by
    simp [Array.getElem?_append_left q,ZM q]
   simp only[this,Option.getD_some];exact(S i _ x (ZM q) E).zm G.Z _
 refine wpIn_mono (R.run _ w _ 8 T (by rw[b.len];exact Zv _)) λe J w' p=> ?_;obtain⟨G1,W,hE,gU,fR,d⟩:=p;have g:sw P fn m K W->LeavesInM Fence.wide 8 P fn J.tmps (λe w'=>∃v G' r k,e= .returned v/\cq G.N G w G' w'/\G.N<=G'.N/\cu G' w' k/\aQ G' w' v r/\K r k) J.defers .returning w':=λd=>by
  obtain⟨w2,G2,k1,k2,k3,k4⟩:=aqp hE gU b.z b.gl.2 fR;obtain⟨v,G',r,k,r1,r2,r3,r4,r5,r6⟩:=asN (N0:=h.length) k4 d;exact k1 _ _ _ _ _ ⟨v,r1,v,G',r,k,rfl,by rw[<-b.len];exact k2.trans r2,by rw[<-b.len];exact Zc L r3,r4,r5,r6⟩
 cases e with
 |normal=>exact g d
 |ret=>exact g d
 |_=>exact d.elim
end
section
variable {P:dg} {r:U Nat} {N0:Nat} {s:St} {Q:Exit->St->Prop}
end
def dt.frame{P:dg}{f:FuncId}{args:I AV}{K:AV->Prop}(A:dt P f args [] λr h=>h=[]/\K r)(ha:args.all (AV.aN 0)=true)(hK:∀r,K r->r.aN 0=true)(h:I ar):
 dt P f args h λr h'=>h'=h/\K r:=by
 refine⟨A.1,λG w t E g p=> ?_⟩;have uG:cu {G with N:=0,Z:=λb=>b<w.heap.size} w []:=⟨rfl,λb hb=>hb,E.S,λn B hB=>by simp at hB,λm n b h1=>by simp [cr]at h1,E.gl⟩;refine(A.2 {G with N:=0,Z:=λb=>b<w.heap.size} w t uG g λi u c F hx=> ?_).mono λe w' hp=> ?_
 ·have:=(p i u c F hx).cut (Zd.1 ha c (ZY hx));clear A;generalize hG:({G with N:=0,Z:=λb=>b<w.heap.size}:Gh)=G0;have e:∀{v y},aQ (G.cut 0) w v y->aQ G0 w v y:=by
   intro v y hv;subst hG
   induction hv with
   |agg t J g _ M=>exact .agg t J g M
   |bq t J g _ M=>exact .bq t J g M
   |fn f t J g _ M=>exact .fn f t J g M
   |own n T h hp hle hf=>exact absurd h (ZG _)
   |ptr n q h=>exact absurd h (ZG _)
   |row n q len cap k h g hm=>exact absurd h (ZG _)
   |mp n h=>exact absurd h (ZG _)
   |cU n h=>exact absurd h (ZG _)
   |vec n o len L k h=>exact absurd h (ZG _)
   |eH n i j L k h=>exact absurd h (ZG _)
   |hid h h1=>exact .hid h h1
   |d h=>exact .d h
   |bM T i q b o u x hx hS F=>exact .bM T i q b o u x hx hS F
   |full T hp hf=>exact .full T hp hf
   |dead u=>exact .dead u
  exact e this
 ·obtain⟨v,G',r,h',rfl,R,hN,e8,hv,rfl,hk⟩:=hp;have atD:G'.N=0:=e8.len.symm;have gd:∀b o,G'.S b o->G.S b o\/w.heap.size<=b:=λb o W=>(R.new b o W).imp id Nat.le_of_not_lt;have kD:cq G.N G w {G with S:=G'.S} w':=
   ⟨R.size,R.S,R.cell,λ_ _=>rfl,λ_ _=>.inl ⟨rfl,rfl⟩,iX rfl,λb hb=>R.old b (E.z b hb),R.os,R.tape,R.output,λb o W=>(gd b o W).imp id λlq hz=>by have:=E.z b hz;omega⟩
  refine⟨v,{G with S:=G'.S},r,h,rfl,kD,Zv _,⟨E.len,λb hb=>ZU (E.z b hb) R.size,e8.S,λn B hB=> ?_,λm n b h1 h2=>E.inj m n b h1 h2,E.gl.keep kD⟩,?_,rfl,hk⟩
  ·refine fb.keep (E.lt hB) kD (Zv _) ⟨rfl,rfl,rfl⟩ (λb hb=> ?_) (E.dM n B hB);have aV:=E.iO (n:=n) (b:=b) ((eG hB).trans hb);refine⟨R.old _ aV,λo kE W=> ?_⟩;rcases gd _ o W with W|W
   ·exact kE W
   ·omega
  ·have p:=hK r hk;clear hk kD
   induction hv with
   |agg t J g _ M=>
    rw[AV.aN,oH,Zd]at p;exact .agg t J g λi u c F A=>M i u c F A (p c (ZY A))
   |bq t J g _ M=>
    rw[AV.aN,oH,Zd]at p;exact .bq t J g λi u c F A=>M i u c F A (p c (ZY A))
   |fn f t J g _ M=>
    rw[AV.aN,oH,Zd]at p;exact .fn f t J g λi u c F A=>M i u c F A (p c (ZY A))
   |own n T h hp hle hf=>simp [AV.aN,cP]at p
   |ptr n q h=>simp [AV.aN,cP]at p
   |row n q len cap k h g hm=>simp [AV.aN,cP]at p
   |mp n h=>simp [AV.aN,cP]at p
   |cU n h=>simp [AV.aN,cP]at p
   |vec n o len L k h=>simp [AV.aN,cP]at p
   |eH n i j L k h=>simp [AV.aN,cP]at p
   |hid h h1=>exact .hid h h1
   |d h=>exact .d h
   |bM T i q b o u x hx hS F=>exact .bM T i q b o u x hx hS F
   |full T hp hf=>exact .full T hp hf
   |dead u=>exact .dead u
def AFn(P:dg)(f:FuncId)(args:I AV)(K:AV->Prop):Prop:=dt P f args [] λr h=>h=[]/\K r
def AFn.use{P:dg}{f:FuncId}{args:I AV}{r:AV}{h:I ar}{C:AV->I ar->Prop}(b:AFn P f args (·=r))(c:args.all (AV.aN 0)=true)(d:r.aN 0=true)(g:C r h):dt P f args h C:=
 (b.frame c (λ_ e=>e▸d) h).mono λ_ _ ⟨i,k⟩=>by subst i;subst k;exact g
def aoL:I FuncId:=[64,86,222]
def apO:I FuncId:=[53,54,63,64,67,92,94,95,136,156,159,237]
def rB:Operand->Bool
 | .func g=>aoL.any (·==g)
 |_=>false
def cW(o:Oper):Nat:=
 match o.op with
 | .move _| .assign _| .pick .. | .nilCheck _| .fieldAddr .. | .field .. | .indexAddr .. | .index .. | .build .. | .buildSlice .. | .slice .. | .extract .. | .makeFunc .. | .binOp .. | .unOp .. | .convert .. =>0
 | .load .. | .lookup .. =>1
 | .alloc _| .box .. =>2
 | .store .. | .makeMap .. | .mapUpdate .. =>3
 | .call c=>match c.callee with
   | .builtin .len| .builtin .max| .builtin .min=>0
   | .builtin .append=>5
   | .value f=>bif rB f then 6 else 4
   |_=>9
 |_=>9
def Y6(P:dg)(g:FuncId)(args:I AV)(h:I ar)(C:AV->Prop):Prop:=∃r,C r/\∀e,dt P g args (h++e) λb c=>b=r/\c=h++e
def CB(P:dg)(o:Oper)(K:St->Prop)(s:St):Prop:=
 match o.op with
 | .call c=>match c.callee with
   | .value f=>match ev s f with
     | .fn g b=>Y6 P g (c.args.toList.map (ev s)++b) s.h λr=>K (s.put o.dst r)
     | .hid q=>∃g as,q.app (c.args.toList.map (ev s))=some (g,as)/\Y6 P g as s.h λr=>K (s.put o.dst r)
     |_=>False
   |_=>tC P o K s
 |_=>tC P o K s
def kZ(o:Oper):Bool:=
 match o.op with
 | .indexAddr .. | .fieldAddr .. | .nilCheck .. | .load .. | .store .. =>true
 | .call c=>match c.callee with
   | .builtin .len=>true
   |_=>false
 |_=>false
def U4(o:Oper):Bool:=match o.op with
 | .call c=>match c.callee with
   | .value (.tmp _)=>true
   | .value (.func g)=>apO.any (·==g)
   |_=>false
 |_=>false
def vx(o:Oper):Bool:=match o.op with
 | .call c=>match c.callee with
   | .builtin .append=>true
   |_=>false
 |_=>false
def oO(m:Bool)(o:Oper):Bool:=m&&(U4 o||vx o)
def Af(m:Bool)(P:dg)(o:Oper)(K:St->Prop)(s:St):Prop:=CB P o K s\/(oO m o=true/\∃x b,K ((s.wh b).put o.dst x)/\∀C:AV->I ar->Prop,C x b->dj P o (ev s) s.h C)\/((kZ o=true/\(m&&cW o==0)=false\/(m&&vx o)=true)/\Lp P o K s)\/(cW o=6/\∃x c,K ((s.wh (s.h++c)).put o.dst x)/\∀C:AV->I ar->Prop,C x (s.h++c)->dj P o (ev s) s.h C)
def kI(P:dg)(o:Oper)(ρ:Operand->AV)(h:I ar)(C:AV->I ar->Prop):Prop:=dj P o ρ h C\/((kZ o=true\/vx o=true)/\∃a x b p,jr P o.op ρ h a=some (x,b,p)/\p/\C x b)
def vE(m:Bool)(P:dg)(ops:Array Oper):I Oper->(St->Prop)->St->Prop
 |[],K,s=>K s
 |o::rest,K,s=>jY ops o s (Af m P o (vE m P ops rest K) s) (vE m P ops rest K (s.put o.dst (.d (.v undef))))
abbrev Y4(P:dg)(o:Oper)(K:St->Prop)(s:St):Prop:=Af false P o K s
abbrev FY(P:dg)(ops:Array Oper)(l:I Oper)(K:St->Prop)(s:St):Prop:=vE false P ops l K s
section
variable {P:dg} {o:Oper} {ρ ρ':Operand->AV} {h:I ar} {C:AV->I ar->Prop}
def UQ(x:U Operand)(b:∀y∈x.toArray,ρ y=ρ' y)(d:Nat)(F:Nat->Prop):ly ρ x d F=ly ρ' x d F:=by
 cases x with
 |none=>rfl
 |some y=>simp only[ly,b y (by simp)]
def aiN(e:∀x∈o.op.operands,ρ x=ρ' x):dj P o ρ h C=dj P o ρ' h C:=by
 obtain⟨dst,op,type,pos,after,guard⟩:=o;have E:∀m:Array (Nat×Operand),(∀x∈m.map (·.2),ρ x=ρ' x)->(m.toList.map λp=>(p.1,ρ p.2))=(m.toList.map λp=>(p.1,ρ' p.2)):=λm N=>
  Z8 λp z=>by rw[N p.2 (Array.mem_map.2 ⟨p,Array.mem_toList_iff.1 z,rfl⟩)]
 have A:∀l:Array Operand,(∀x∈l,ρ x=ρ' x)->l.toList.map ρ=l.toList.map ρ':=λl R=>Z8 λx z=>R x (Array.mem_toList_iff.1 z);cases op with
 |build t m=>simp only[dj,E m λx g=>e x (by simpa [Op.operands]using g)]
 |buildSlice t n m=>simp only[dj,E m λx g=>e x (by simpa [Op.operands]using g)]
 |makeFunc S first captured=>
  cases S with
  |func f=>simp only[dj,A captured λx g=>e x (by simp [Op.operands,g]),A first λx g=>e x (by simp [Op.operands,g])]
  |_=>rfl
 |slice t x J L M=>
  have T:ρ x=ρ' x:=e x (by simp [Op.operands]);have W:=λd F=>UQ (ρ:=ρ) (ρ':=ρ') J (λy q=>e y (by simp at q;simp [Op.operands,q])) d F;have e3:=λd F=>UQ (ρ:=ρ) (ρ':=ρ') L (λy q=>e y (by simp at q;simp [Op.operands,q])) d F;have e4:=λd F=>UQ (ρ:=ρ) (ρ':=ρ') M (λy q=>e y (by simp at q;simp [Op.operands,q])) d F;cases J<;>cases L<;>cases M<;>simp only[dj,w5,T,W,e3,e4]
 |call c=>
  have B:c.args.toList.map ρ=c.args.toList.map ρ':=A c.args λx g=>e x (by simp [Op.operands,Call.operands,g]);have z:∀x,x∈c.args.toList->ρ x=ρ' x:=λx g=>e x (by simp [Op.operands,Call.operands];right;exact Array.mem_toList_iff.1 g);cases v:c.callee with
  |value f=>
   have hf:ρ f=ρ' f:=e f (by simp [Op.operands,Call.operands,v]);simp only[dj,v,hf,B]
  |invoke=>simp only[dj,v]
  |builtin b=>
   cases b with
   |len=>
    simp only[dj,v];split
    ·rename_i x _ k _
     rw[z x (by rw[k];simp)]
    ·rfl
   |append=>
    simp only[dj,v];split
    ·rename_i x y _ _ k _
     rw[z x (by rw[k];simp),z y (by rw[k];simp)]
    ·rfl
   |max=>simp only[dj,v,B]
   |min=>simp only[dj,v,B]
   |_=>simp only[dj,v]
 |makeMap t r=>cases r<;>rfl
 |lookup t a b ok=>simp only[dj,rh,e a (by simp [Op.operands]),e b (by simp [Op.operands])]
 |mapUpdate t a b c=>simp only[dj,rh,e a (by simp [Op.operands]),e b (by simp [Op.operands]),e c (by simp [Op.operands])]
 |pick c a b=>simp only[dj,e c (by simp [Op.operands]),e a (by simp [Op.operands]),e b (by simp [Op.operands])]
 |store t a b=>simp only[dj,e a (by simp [Op.operands]),e b (by simp [Op.operands])]
 |binOp op t a b u=>simp only[dj,e a (by simp [Op.operands]),e b (by simp [Op.operands])]
 |indexAddr t a b=>simp only[dj,e a (by simp [Op.operands]),e b (by simp [Op.operands])]
 |index t a b=>simp only[dj,e a (by simp [Op.operands]),e b (by simp [Op.operands])]
 |move a|assign a|box t a|load t a|nilCheck a|fieldAddr t a f|field t a f|extract a i|unOp op t a|convert t u a=>simp only[dj,e a (by simp [Op.operands])]
 |_=>rfl
def aiM(i:kZ o=true\/vx o=true)(e:∀x∈o.op.operands,ρ x=ρ' x)(a:VA):jr P o.op ρ h a=jr P o.op ρ' h a:=by
 obtain⟨dst,op,type,pos,after,guard⟩:=o;cases op with
 |store t a b=>simp only[jr,e a (by simp [Op.operands]),e b (by simp [Op.operands])]
 |indexAddr t a b=>simp only[jr,e a (by simp [Op.operands]),e b (by simp [Op.operands])]
 |load t a|nilCheck a|fieldAddr t a f=>simp only[jr,e a (by simp [Op.operands])]
 |call c=>
  have k:∀x,x∈c.args.toList->ρ x=ρ' x:=λx m=>e x (by simp [Op.operands,Call.operands];right;exact Array.mem_toList_iff.1 m);cases g:c.callee with
  |builtin b=>
   cases b with
   |len=>
    simp only[jr,g];split
    ·rename_i x _ d _
     rw[k x (by rw[d];simp)]
    ·rfl
   |append=>
    simp only[jr,g];split
    ·rename_i x y _ _ d _
     rw[k x (by rw[d];simp),k y (by rw[d];simp)]
    ·rfl
   |_=>simp [kZ,vx,g]at i
  |_=>simp [kZ,vx,g]at i
 |_=>simp [kZ,vx]at i
def Wf(b:∀x∈o.op.operands,ρ x=ρ' x):kI P o ρ h C=kI P o ρ' h C:=by
 unfold kI;rw[aiN b];by_cases c:kZ o=true\/vx o=true;{simp only[aiM c b]};{simp only[c,false_and]}
end
def alM:ar->Bool
 | .cells _| .map _| .vec .. =>true
 |_=>false
def o6:U ar->U (Nat×Nat)
 |some (.vec _ k b)=>some (k,b.length)
 |_=>none
def jN(h h':I ar):Prop:=∀(m:Nat)(q:Nat×Nat),o6 h[m]?=some q->o6 h'[m]?=some q
def jD(h h':I ar):Prop:=∀m:Nat,o6 h[m]?=o6 h'[m]?
def jD.i{h h':I ar}(e:jD h h'):jN h h':=λm q b=>by rw[<-e m];exact b
def jD.j{h h':I ar}(e:jD h h'):jN h' h:=λm q b=>by rw[e m];exact b
def jN.refl(h:I ar):jN h h:=λ_ _ e=>e
def jN.trans{a b c:I ar}(x:jN a b)(y:jN b c):jN a c:=λm q e=>y m q (x m q e)
def jN.app(h e:I ar):jN h (h++e):=λm q b=>by
 by_cases c:m<h.length;{rw[ZX c];exact b};{rw[Z9 (by omega)]at b;cases b}
def jD.app{h:I ar}{B:ar}(b:o6 (some B)=none):jD h (h++[B]):=λm=>by
 by_cases c:m<h.length;{rw[ZX c]}
 ·rw[ZI (by omega),Z9 (by omega:h.length<=m)];by_cases d:m-h.length=0
  ·rw[d];exact b.symm
  ·rw[Z9 (by simp;omega)]
def jD.set{h:I ar}{n:Nat}{B B':ar}(b:h[n]?=some B)(c:o6 (some B)=o6 (some B')):jD h (h.set n B'):=λm=>by
 by_cases e:n=m;{subst e;rw[ZC (Zo.1 b).1,b];exact c};{rw[ZD e]}
def jW(h h':I ar):Prop:=∀(n:Nat)(B:ar),h[n]?=some B->alM B=true->h'[n]?=some B
def jW.app(h e:I ar):jW h (h++e):=λn c b _=>by
 rw[ZX (Zo.1 b).1];exact b
def jW.refl(h:I ar):jW h h:=λ_ _ b _=>b
def ahT{P:dg}{ρ:Operand->AV}{h h1:I ar}{T:TypeId}{m i:Operand}{ok:Bool}{x:AV}{p:Sd}(c:rh P (.lookup T m i ok) ρ h=some (x,h1,p)):h1=h/\∀h',jW h h'->rh P (.lookup T m i ok) ρ h'=some (x,h',p):=by
 simp only[rh]at c ⊢;split at c
 ·next k e t=>
  split at c
  ·next z u=>
   split at c
   ·next b v A B=>
    split at c
    ·next E g=>
     cases d:jj P k with
     |false=>rw[d]at c;cases c
     |true=>
      rw[d]at c;cases c
      refine⟨rfl,λh' q=> ?_⟩;rw[q b _ g rfl];simp only[Tq]
    ·cases c
   ·cases c
  ·cases c
 ·cases c
def Zb{h:I ar}{n e k:Nat}{cs:I (I AV)}(b:h[n]?=some (.vec e k cs)):o6 h[n]?=some (k,cs.length):=by rw[b];rfl
def XR{h:I ar}{n k l:Nat}(b:o6 h[n]?=some (k,l)):∃e cs,h[n]?=some (.vec e k cs)/\cs.length=l:=by
 unfold o6 at b;split at b;{next e d cs c=>cases b;exact⟨e,cs,c,rfl⟩};{cases b}
def arD{P:dg}{o:Oper}{ρ:Operand->AV}{h h1:I ar}{a:VA}{x:AV}{p:Prop}(m:kZ o=true)(M:cW o=0)(d:jr P o.op ρ h a=some (x,h1,p))(q:p):h1=h/\∀h',jN h h'->∃p',jr P o.op ρ h' a=some (x,h',p')/\p':=by
 obtain⟨dst,op,type,pos,after,guard⟩:=o;cases op with
 |indexAddr T y i=>
  simp only[jr]at d ⊢;split at d
  ·next n o len L k z e k' i' u N e3=>
   split at d
   ·next e4 R S v=>
    obtain⟨g,A⟩:=nL d;cases A
    rw[Zr,Ua,Ua]at g;obtain⟨rfl,rfl⟩:=g;refine⟨rfl,λh' B=> ?_⟩;obtain⟨W,E,q1,F⟩:=XR (B n _ (Zb v));simp only[q1,Z7,Bool.and_self,Tq];exact⟨_,rfl,by rw[F];exact q.1,q.2⟩
   ·cases d
  ·cases d
 |fieldAddr T y f=>
  simp only[jr]at d ⊢;split at d;{next u N=>cases d;exact⟨rfl,λh' _=>⟨_,rfl,trivial⟩⟩};{cases d}
 |nilCheck y=>
  simp only[jr]at d ⊢;split at d;{next u=>cases d;exact⟨rfl,λh' _=>⟨_,rfl,trivial⟩⟩};{cases d}
 |call c=>
  cases J:c.callee with
  |builtin b=>
   cases b with
   |len=>
    simp only[jr,J]at d ⊢;split at d
    ·split at d
     ·next n o len L k u=>
      split at d
      ·next N R S v=>
       obtain⟨g,A⟩:=nL d;cases A
       rw[Zr,Ua]at g;obtain⟨iU,rfl⟩:=g;refine⟨rfl,λh' B=> ?_⟩;obtain⟨W,E,q1,F⟩:=XR (B n _ (Zb v));simp only[q1,iU,Z7,Bool.and_self,Tq];exact⟨_,rfl,by rw[F];exact q⟩
      ·cases d
     ·cases d
    ·cases d
   |_=>simp [kZ,J]at m
  |_=>simp [kZ,J]at m
 |load t y=>simp [cW]at M
 |store t y z=>simp [cW]at M
 |_=>simp [kZ]at m
def ajk{P:dg}{o:Oper}{ρ:Operand->AV}{h h1:I ar}{a:VA}{x:AV}{p:Prop}(m:kZ o=true)(d:cW o=1)(e:jr P o.op ρ h a=some (x,h1,p))(q:p):h1=h/\∀h',jW h h'->∃p',jr P o.op ρ h' a=some (x,h',p')/\p':=by
 obtain⟨dst,op,type,pos,after,guard⟩:=o;cases op with
 |load t y=>
  simp only[jr]at e ⊢;split at e
  ·next n i j L k c J=>
   split at e
   ·next M N R z u v=>
    obtain⟨A,B⟩:=nL e;cases B
    refine⟨rfl,λh' E=> ?_⟩;simp only[E n _ u rfl,v,A,Tq];exact⟨_,rfl,q⟩
   ·cases e
  ·cases e
 |indexAddr T y i=>simp [cW]at d
 |fieldAddr T y f=>simp [cW]at d
 |nilCheck y=>simp [cW]at d
 |call c=>
  cases g:c.callee with
  |builtin b=>cases b<;>simp [cW,g]at d
  |value f=>cases F:rB f<;>simp [cW,g,F]at d
  |invoke=>simp [cW,g]at d
 |store t y z=>simp [cW]at d
 |_=>simp [kZ]at m
def asf{P:dg}{o:Oper}{ρ:Operand->AV}{h h1:I ar}{a:VA}{x:AV}{p:Prop}(v:kZ o=true)(d:cW o=3)(g:jr P o.op ρ h a=some (x,h1,p))(A:p):jD h h1:=by
 obtain⟨dst,op,type,pos,after,guard⟩:=o;cases op with
 |store t y z=>
  simp only[jr]at g;split at g
  ·next n i j L k c J M=>
   split at g
   ·next e N R q B S=>
    obtain⟨u,E⟩:=nL g;cases E
    simp only[Zr,Ua]at u;refine jD.set B ?_;simp only[o6,ZJ,A.2.2,u.1.1.1.1]
   ·cases g
  ·cases g
 |load t y=>simp [cW]at d
 |indexAddr T y i=>simp [cW]at d
 |fieldAddr T y f=>simp [cW]at d
 |nilCheck y=>simp [cW]at d
 |call c=>
  cases m:c.callee with
  |builtin b=>cases b<;>simp [cW,m]at d
  |value f=>cases F:rB f<;>simp [cW,m,F]at d
  |invoke=>simp [cW,m]at d
 |_=>simp [kZ]at v
def kN(m:Bool)(o:Oper):Nat:=bif oO m o then 7 else cW o
def fm(m:Bool)(P:dg)(o:Oper)(ρ:Operand->AV)(h:I ar)(x:AV)(h1:I ar):Prop:=
 match kN m o with
 |0=>h1=h/\∀b,(m=true\/jN h b)->∀C:AV->I ar->Prop,C x b->kI P o ρ b C
 |1=>h1=h/\∀b,jW h b->∀C:AV->I ar->Prop,C x b->kI P o ρ b C
 |2=>∃B,o6 (some B)=none/\x= .ptr h.length 0/\h1=h++[B]/\∀b(C:AV->I ar->Prop),C (.ptr b.length 0) (b++[B])->kI P o ρ b C
 |3=>jD h h1/\∀C:AV->I ar->Prop,C x h1->kI P o ρ h C
 |4=>h1=h/\∀e(C:AV->I ar->Prop),C x (h++e)->kI P o ρ (h++e) C
 |5=>(jW h h1/\jW h1 h/\jD h h1)/\∀C:AV->I ar->Prop,C x h1->kI P o ρ h C
 |6=>∃c,h1=h++c/\∀C:AV->I ar->Prop,C x h1->kI P o ρ h C
 |7=>∀C:AV->I ar->Prop,C x h1->kI P o ρ h C
 |_=>False
section
variable {P:dg} {o:Oper} {ρ ρ':Operand->AV} {h:I ar} {C:AV->I ar->Prop}
def ap9{p:AV}{K:I AV->Nat->Prop}(b:ur h p K):∃cs off,K cs off/\∀h',jW h h'->∀K':I AV->Nat->Prop,K' cs off->ur h' p K':=by
 unfold ur at b ⊢;split at b
 ·rename_i n off
  split at b
  ·rename_i cs d
   refine⟨cs,off,b,λh' e K' c=> ?_⟩;rw[e n _ d rfl];exact c
  ·exact b.elim
 ·rename_i g i off
  split at b
  ·rename_i cs d
   refine⟨_,off,b,λh' _ K' c=> ?_⟩;exact c
  ·exact b.elim
 ·exact b.elim
def arY{t:Nat}{p:AV}{K:AV->Prop}(g:ql P t h p K):∃x,K x/\∀h',jW h h'->∀K':AV->Prop,K' x->ql P t h' p K':=by
 unfold ql at g ⊢;obtain⟨q,k,b,i⟩:=ap9 g;split at b;{rw[cv]at b;refine⟨_,b.2,λh' d K' e=>i h' d _ ?_⟩;exact cv.2 ⟨b.1,e⟩}
 ·split at b
  ·rename_i c m
   refine⟨c,b,λh' d K' e=>i h' d _ ?_⟩;simp only[m];exact e
  ·exact b.elim
 ·exact b.elim
def vH{x:U Operand}{d:Nat}{F:Nat->Prop}(b:ly ρ x d F):∃m,F m/\∀F':Nat->Prop,F' m->ly ρ x d F':=by
 cases x with
 |none=>exact⟨d,b,λ_ h=>h⟩
 |some y=>
  simp only[ly]at b;split at b
  ·rename_i z c
   exact⟨_,b.2,λF' e=>by simp only[ly,c];exact⟨b.1,e⟩⟩
  ·exact b.elim
def arB(hk:cW o=0)(v:dj P o ρ h C):∃x,C x h/\∀h'(C':AV->I ar->Prop),C' x h'->dj P o ρ h' C':=by
 have xP:∀(F:(AV->Prop)->Prop),(∀K,F K->∃x,K x/\∀E,E x->F E)->F (λx=>C x h)->(∀h' C',dj P o ρ h' C'=F (λx=>C' x h'))->∃x,C x h/\∀h'(C':AV->I ar->Prop),C' x h'->dj P o ρ h' C':=λF M R he=>by
  obtain⟨x,J,L⟩:=M _ R;exact⟨x,J,λh' C' B=>by rw[he];exact L _ B⟩
 obtain⟨dst,op,type,pos,after,guard⟩:=o;cases op with
 |move a=>exact⟨ρ a,v,λ_ _ h=>h⟩
 |assign a=>exact⟨ρ a,v,λ_ _ h=>h⟩
 |pick c a b=>
  simp only[dj]at v;split at v
  ·rename_i t ht
   cases t with
   |true=>exact⟨ρ a,v.1 rfl,λh' C' B=>by simp only[dj,ht];exact⟨λ_=>B,λe=>by cases e⟩⟩
   |false=>exact⟨ρ b,v.2 rfl,λh' C' B=>by simp only[dj,ht];exact⟨λe=>(by cases e),λ_=>B⟩⟩
  ·exact v.elim
 |nilCheck a=>
  simp only[dj]at v;split at v;{rename_i m S e;exact⟨_,v,λh' C' B=>by simp only[dj,e];exact B⟩};{rename_i xs i S e;exact⟨_,v,λh' C' B=>by simp only[dj,e];exact B⟩};{rename_i f cs e;exact⟨_,v,λh' C' B=>by simp only[dj,e];exact B⟩};{exact v.elim}
 |fieldAddr t a f=>
  simp only[dj]at v;split at v
  ·rename_i fo k g hf
   split at v;{rename_i m S e;exact⟨_,v,λh' C' B=>by simp only[dj,hf,e];exact B⟩};{rename_i xs i S e;exact⟨_,v,λh' C' B=>by simp only[dj,hf,e];exact B⟩};{exact v.elim}
  ·exact v.elim
 |field t a f=>
  refine xP (zq P t (ρ a) f) (λK q=> ?_) v (λ_ _=>rfl);unfold zq at q ⊢;split at q;{rw[cv]at q;exact⟨_,q.2,λE A=>cv.2 ⟨q.1,A⟩⟩}
  ·split at q
   ·rename_i c gV;exact⟨c,q,λE A=>A⟩
   ·exact q.elim
  ·exact q.elim
 |indexAddr t a b=>
  refine xP (vt P t (ρ a) (ρ b)) (λK q=> ?_) v (λ_ _=>rfl);unfold vt at q ⊢;split at q
  ·rename_i e k hT
   split at q
   ·rename_i n S len cap k'
    split at q
    ·rename_i z hz
     rw[cv]at q;obtain⟨J,L,N,h4⟩:=q;exact⟨_,h4,λE A=>cv.2 ⟨J,L,N,A⟩⟩
    ·exact q.elim
   ·split at q
    ·rename_i xs z mQ hz
     obtain⟨R,q⟩:=q;split at q
     ·rename_i c gV
      exact⟨_,q.2,λE A=>⟨R,q.1,A⟩⟩
     ·exact q.elim
    ·exact q.elim
  ·split at q
   ·rename_i n e k b' S z hT hz
    obtain⟨J,L,N⟩:=q;exact⟨_,N,λE A=>⟨J,L,A⟩⟩
   ·rename_i n e k xs i' S z hT hz
    rw[cv]at q;obtain⟨R,J,L,N⟩:=q;split at N
    ·rename_i c gV
     split at N
     ·rename_i d hd
      exact⟨_,N,λE A=>cv.2 ⟨R,J,L,A⟩⟩
     ·exact N.elim
    ·exact N.elim
   ·exact q.elim
 |index t a b=>
  simp only[dj]at v;split at v
  ·rename_i bb z e1 e2
   rw[cv]at v;obtain⟨J,L,N⟩:=v;split at N
   ·rename_i c gV
    exact⟨_,N,λh' C' B=>by simp only[dj,e1,e2];exact cv.2 ⟨J,L,by simp only[gV];exact B⟩⟩
   ·exact N.elim
  ·exact v.elim
 |build t ps=>
  refine xP (yU P t (ps.toList.map λp:Nat×Operand=>(p.1,ρ p.2))) (λK q=> ?_) v (λ_ _=>rfl);unfold yU at q ⊢;split at q
  ·split at q
   ·rename_i cs iH
    rw[cv]at q;exact⟨_,q.2,λE A=>cv.2 ⟨q.1,A⟩⟩
   ·exact q.elim
  ·exact q.elim
 |buildSlice t n ps=>
  refine xP (yf P t n (ps.toList.map λp:Nat×Operand=>(p.1,ρ p.2))) (λK q=> ?_) v (λ_ _=>rfl);unfold yf at q ⊢;split at q
  ·split at q
   ·split at q
    ·rename_i cs iH
     split at q
     ·rename_i ds qf
      rw[cv]at q;exact⟨_,q.2,λE A=>cv.2 ⟨q.1,A⟩⟩
     ·exact q.elim
    ·exact q.elim
   ·exact q.elim
  ·exact q.elim
 |slice t a lo hi mx=>
  refine xP (w5 P t ρ (ρ a) lo hi mx) (λK q=> ?_) v (λ_ _=>rfl);unfold w5 at q ⊢;split at q
  ·split at q
   ·rw[cv]at q;obtain⟨R,q⟩:=q;obtain⟨m1,q,j1⟩:=vH q;obtain⟨J,q⟩:=q;obtain⟨m2,q,j2⟩:=vH q;obtain⟨L,q⟩:=q;exact⟨_,q,λE A=>cv.2 ⟨R,j1 _ ⟨J,j2 _ ⟨L,A⟩⟩⟩⟩
   ·split at q
    ·rw[cv]at q;obtain⟨R,q⟩:=q;obtain⟨m1,q,j1⟩:=vH q;rw[cv]at q;obtain⟨J,q⟩:=q;obtain⟨m2,q,j2⟩:=vH q;rw[cv]at q;obtain⟨L,q⟩:=q;exact⟨_,q,λE A=>by rw[cv];exact⟨R,j1 _ (by rw[cv];exact⟨J,j2 _ (by rw[cv];exact⟨L,A⟩)⟩)⟩⟩
    ·exact q.elim
   ·split at q
    ·obtain⟨R,q⟩:=q;obtain⟨m1,q,j1⟩:=vH q;obtain⟨J,q⟩:=q;obtain⟨m2,q,j2⟩:=vH q;obtain⟨L,q⟩:=q;exact⟨_,q,λE A=>⟨R,j1 _ ⟨J,j2 _ ⟨L,A⟩⟩⟩⟩
    ·exact q.elim
  ·split at q
   ·split at q
    ·obtain⟨R,q⟩:=q;obtain⟨m1,q,j1⟩:=vH q;obtain⟨J,q⟩:=q;obtain⟨m2,q,j2⟩:=vH q;obtain⟨L,q⟩:=q;exact⟨_,q,λE A=>⟨R,j1 _ ⟨J,j2 _ ⟨L,A⟩⟩⟩⟩
    ·exact q.elim
   ·exact q.elim
 |extract a i=>
  simp only[dj]at v;split at v
  ·rename_i cs e
   split at v;{rename_i c gV;exact⟨c,v,λh' C' B=>by simp only[dj,e,gV];exact B⟩};{exact v.elim}
  ·exact v.elim
 |makeFunc fn first dD=>
  cases fn with
  |func f=>
   simp only[dj]at v;split at v;{rename_i e;exact⟨_,v,λh' C' B=>by simp only[dj,e];exact B⟩};{exact v.elim}
  |_=>exact v.elim
 |binOp op t a b u=>
  refine xP (yx P t op (ρ a) (ρ b)) (λK q=> ?_) v (λ_ _=>rfl);unfold yx at q ⊢;split at q
  ·split at q
   ·rw[cv]at q;exact⟨_,q.2.2,λE A=>cv.2 ⟨q.1,q.2.1,A⟩⟩
   ·split at q
    ·exact⟨_,q.2,λE A=>⟨q.1,A⟩⟩
    ·split at q
     ·rw[cv]at q;exact⟨_,q.2,λE A=>cv.2 ⟨q.1,A⟩⟩
     ·exact q.elim
  ·split at q
   ·exact⟨_,q,λE A=>A⟩
   ·split at q
    ·exact⟨_,q.2,λE A=>⟨q.1,A⟩⟩
    ·exact q.elim
  ·split at q
   ·rw[cv]at q;exact⟨_,q.2,λE A=>cv.2 ⟨q.1,A⟩⟩
   ·exact q.elim
  ·split at q
   ·split at q
    ·exact⟨_,q,λE A=>A⟩
    ·exact q.elim
   ·exact q.elim
  ·exact q.elim
 |unOp op t a=>
  refine xP (yo op (ρ a)) (λK q=> ?_) v (λ_ _=>rfl);unfold yo at q ⊢;split at q
  ·split at q
   ·exact⟨_,q,λE A=>A⟩
   ·exact q.elim
  ·exact q.elim
 |convert t u a=>
  refine xP (xZ P t u (ρ a)) (λK q=> ?_) v (λ_ _=>rfl);unfold xZ at q ⊢;split at q
  ·split at q
   ·exact⟨_,q,λE A=>A⟩
   ·exact q.elim
  ·rw[cv]at q;exact⟨_,q.2,λE A=>cv.2 ⟨q.1,A⟩⟩
  ·split at q
   ·rw[cv]at q;obtain⟨J,ns,L,N⟩:=q;exact⟨_,N,λE A=>cv.2 ⟨J,ns,L,A⟩⟩
   ·exact q.elim
 |call c=>
  simp only[cW]at hk;cases W:c.callee with
  |value f=>cases nG:rB f<;>simp [W,nG]at hk
  |invoke=>simp [W]at hk
  |builtin b=>
   cases b with
   |len=>
    simp only[dj,W]at v;split at v
    ·rename_i x T e1 e2
     have key:∀F:Nat->Prop,um P T (ρ x) F->∃m,F m/\∀F':Nat->Prop,F' m->um P T (ρ x) F':=λF M=>by
      unfold um at M ⊢;split at M;{rw[cv]at M;exact⟨_,M.2,λF' mA=>cv.2 ⟨M.1,mA⟩⟩};{rw[cv]at M;exact⟨_,M.2,λF' mA=>cv.2 ⟨M.1,mA⟩⟩}
      ·split at M
       ·rw[cv]at M;exact⟨_,M.2,λF' mA=>cv.2 ⟨M.1,mA⟩⟩
       ·exact M.elim
     obtain⟨m,J,L⟩:=key _ v;exact⟨_,J,λh' C' B=>by simp only[dj,W,e1,e2];exact L _ B⟩
    ·exact v.elim
   |max=>
    simp only[dj,W]at v;split at v
    ·rename_i e1
     exact⟨_,v,λh' C' B=>by simp only[dj,W,e1];exact B⟩
    ·exact v.elim
   |min=>
    simp only[dj,W]at v;split at v
    ·rename_i e1
     exact⟨_,v,λh' C' B=>by simp only[dj,W,e1];exact B⟩
    ·exact v.elim
   |_=>simp [W]at hk
 |_=>simp [cW]at hk
def amd(g:cW o=2)(d:dj P o ρ h C):∃B,o6 (some B)=none/\C (.ptr h.length 0) (h++[B])/\∀h'(C':AV->I ar->Prop),C' (.ptr h'.length 0) (h'++[B])->dj P o ρ h' C':=by
 obtain⟨dst,op,type,pos,after,guard⟩:=o;cases op with
 |alloc e=>
  simp only[dj]at d;split at d;{rename_i z m;exact⟨_,rfl,d,λh' C' i=>by simp only[dj,m];exact i⟩};{exact d.elim}
 |box e x=>
  simp only[dj]at d;rw[cv]at d;exact⟨_,rfl,d.2,λh' C' i=>by simp only[dj];rw[cv];exact⟨d.1,i⟩⟩
 |call c=>
  simp only[cW]at g;cases k:c.callee with
  |value f=>cases p:rB f<;>simp [k,p]at g
  |invoke=>simp [k]at g
  |builtin b=>cases b<;>simp [k]at g
 |_=>simp [cW]at g
def apA(i:cW o=3)(e:dj P o ρ h C):∃x h1,C x h1/\jD h h1/\∀C':AV->I ar->Prop,C' x h1->dj P o ρ h C':=by
 obtain⟨dst,op,type,pos,after,guard⟩:=o;cases op with
 |store t a b=>
  simp only[dj]at e;have m:∀F:I ar->Prop,zg P t h (ρ a) (ρ b) F->∃h1,F h1/\jD h h1/\∀F':I ar->Prop,F' h1->zg P t h (ρ a) (ρ b) F':=λF g=>by
   unfold zg at g ⊢;split at g
   ·split at g
    ·next q=>
     split at g;{rw[cv]at g;exact⟨_,g.2,jD.set q rfl,λF' z=>cv.2 ⟨g.1,z⟩⟩};{exact g.elim}
    ·exact g.elim
   ·exact g.elim
  obtain⟨h1,A,B,E⟩:=m _ e;exact⟨_,h1,A,B,λC' k=>by simp only[dj];exact E _ k⟩
 |makeMap t r=>
  simp only[dj]at e;split at e
  ·rename_i x u p d
   refine⟨x,u,e.2,?_,λC' k=>by simp only[dj,d];exact⟨e.1,k⟩⟩;unfold rh at d;cases r with
   |none=>
    simp only at d;split at d;{cases d;exact jD.app rfl};{cases d}
   |some r=>cases d
  ·exact e.elim
 |mapUpdate t a b c=>
  simp only[dj]at e;split at e
  ·rename_i x u p d
   refine⟨x,u,e.2,?_,λC' k=>by simp only[dj,d];exact⟨e.1,k⟩⟩;unfold rh at d;simp only at d;split at d
   ·split at d
    ·split at d
     ·next q=>
      obtain⟨M,J⟩:=nL d;cases J
      exact jD.set q rfl
     ·cases d
    ·cases d
   ·cases d
  ·exact e.elim
 |call c=>
  simp only[cW]at i;cases v:c.callee with
  |value f=>cases L:rB f<;>simp [v,L]at i
  |invoke=>simp [v]at i
  |builtin b=>cases b<;>simp [v]at i
 |_=>simp [cW]at i
def Y2{n:Nat}{e:TypeId}{k l e' g i:Nat}(d:h[n]?=some (.front e' g i)):jW h (h.set n (.front e k l))/\jW (h.set n (.front e k l)) h:=by
 refine⟨λm p b c=> ?_,λm p b c=> ?_⟩
 ·have:n≠m:=λe=>by subst e;rw[d]at b;cases b;cases c
  rw[ZD this];exact b
 ·by_cases e:n=m
  ·subst e;rw[ZC (Zo.1 d).1]at b;cases b;cases c
  ·rw[ZD e]at b;exact b
def N6{e:TypeId}{k l:Nat}:jW h (h++[.front e k l])/\jW (h++[.front e k l]) h:=by
 refine⟨jW.app _ _,λm i b c=> ?_⟩;by_cases d:m<h.length;{rw[ZX d]at b;exact b}
 ·rw[ZI (by omega)]at b;by_cases g:m-h.length=0
  ·rw[g]at b;cases b;cases c
  ·rw[Z9 (by simp;omega)]at b;cases b
def ahP(m:cW o=5)(i:dj P o ρ h C):∃x h1,C x h1/\(jW h h1/\jW h1 h/\jD h h1)/\∀C':AV->I ar->Prop,C' x h1->dj P o ρ h C':=by
 obtain⟨dst,op,type,pos,after,guard⟩:=o;cases op with
 |call c=>
  simp only[cW]at m;cases p:c.callee with
  |value f=>cases N:rB f<;>simp [p,N]at m
  |invoke=>simp [p]at m
  |builtin b=>
   cases b with
   |append=>
    simp only[dj,p]at i;split at i
    ·rename_i x y T d R S
     rw[cv]at i;have z:∀(k:Nat)(y:AV)(F:I (I D)->Prop),wG h k y F->∃A,F A/\∀F':I (I D)->Prop,F' A->wG h k y F':=λk y F e=>by
       unfold wG at e ⊢;split at e
       ·split at e
        ·split at e
         ·rw[cv]at e;exact⟨_,e.2,λF' g=>cv.2 ⟨e.1,g⟩⟩
         ·exact e.elim
        ·exact e.elim
       ·split at e
        ·exact⟨_,e.2,λF' g=>⟨e.1,g⟩⟩
        ·exact e.elim
     have B:∀F:AV->I ar->Prop,xt P T h (ρ x) (ρ y) F->∃v h1,F v h1/\(jW h h1/\jW h1 h/\jD h h1)/\∀F':AV->I ar->Prop,F' v h1->xt P T h (ρ x) (ρ y) F':=λF e=>by
      unfold xt at e ⊢;split at e
      ·split at e
       ·rw[cv]at e;obtain⟨E,e⟩:=e;obtain⟨A,e,J⟩:=z _ _ _ e;split at e
        ·split at e
         ·rename_i L
          rw[cv]at e;obtain⟨W,g2,M,q,t,u⟩:=e;exact⟨_,_,u,⟨(Y2 L).1,(Y2 L).2,jD.set L rfl⟩,λF' g=>cv.2 ⟨E,J _ (cv.2 ⟨W,g2,M,q,t,g⟩)⟩⟩
         ·exact e.elim
        ·obtain⟨q,t,u⟩:=e;exact⟨_,_,u,⟨N6.1,N6.2,jD.app rfl⟩,λF' g=>cv.2 ⟨E,J _ ⟨q,t,g⟩⟩⟩
        ·obtain⟨M,q,t,u⟩:=e;exact⟨_,_,u,⟨N6.1,N6.2,jD.app rfl⟩,λF' g=>cv.2 ⟨E,J _ ⟨M,q,t,g⟩⟩⟩
        ·exact e.elim
       ·exact e.elim
      ·exact e.elim
     obtain⟨v,h1,k1,c1,k2⟩:=B _ i.2;exact⟨v,h1,k1,c1,λC' eF=>by simp only[dj,p,R,S];rw[cv];exact⟨i.1,k2 _ eF⟩⟩
    ·exact i.elim
   |_=>simp [p]at m
 |_=>simp [cW]at m
def ZO{m:Bool}(lD:oO m o=false){s:St}{K:St->Prop}(z:CB P o K s):∃x h1,fm m P o (ev s) s.h x h1/\K ((s.wh h1).put o.dst x):=by
 have F:kN m o=cW o:=by unfold kN;rw[lD];rfl
 have plain:tC P o K s->cW o≠4->cW o≠6->∃x h1,fm m P o (ev s) s.h x h1/\K ((s.wh h1).put o.dst x):=λk YY I6=>by
  unfold tC at k;by_cases J:cW o=0;{obtain⟨x,h1,S⟩:=arB J k;exact⟨x,s.h,by unfold fm;rw[F,J];exact⟨rfl,λv _ i d=>.inl (S v i d)⟩,h1⟩}
  ·by_cases h1:cW o=1
   ·obtain⟨dst,op,type,pos,after,guard⟩:=o;cases op with
    |load t a=>
     simp only[dj]at k;obtain⟨x,L,A⟩:=arY k;exact⟨x,s.h,by unfold fm;rw[F,h1];exact⟨rfl,λv hh i d=>.inl (by simp only[dj];exact A v hh _ d)⟩,L⟩
    |lookup t a b ok=>
     simp only[dj]at k;split at k
     ·rename_i x v p hx
      obtain⟨rfl,A⟩:=ahT hx;exact⟨x,s.h,by unfold fm;rw[F,h1];exact⟨rfl,λv hh i d=>.inl (by simp only[dj,A v hh];exact⟨k.1,d⟩)⟩,k.2⟩
     ·exact k.elim
    |call c=>
     simp only[cW]at h1;cases u:c.callee with
     |value f=>cases nG:rB f<;>simp [u,nG]at h1
     |invoke=>simp [u]at h1
     |builtin b=>cases b<;>simp [u]at h1
    |_=>simp [cW]at h1
   ·by_cases S:cW o=2
    ·obtain⟨B,kB,L,A⟩:=amd S k;exact⟨_,_,by unfold fm;rw[F,S];exact⟨B,kB,rfl,rfl,λv i d=>.inl (A v i d)⟩,L⟩
    ·by_cases M:cW o=3
     ·obtain⟨x,nu,L,kv,A⟩:=apA M k;exact⟨x,nu,by unfold fm;rw[F,M];exact⟨kv,λi d=>.inl (A i d)⟩,L⟩
     ·by_cases R:cW o=5
      ·obtain⟨x,nu,L,c1,A⟩:=ahP R k;exact⟨x,nu,by unfold fm;rw[F,R];exact⟨c1,λi d=>.inl (A i d)⟩,L⟩
      exfalso;obtain⟨dst,op,type,pos,after,guard⟩:=o;cases op with
      |call c=>
       simp only[cW]at J M YY I6 R;simp only[dj]at k;cases u:c.callee with
       |value f=>cases nG:rB f<;>simp [u,nG]at YY I6
       |invoke=>simp only[u]at k
       |builtin b=>cases b<;>simp only[u]at k J M R<;>first|exact k|exact absurd rfl J|exact absurd rfl M|exact absurd rfl R|exact M trivial|exact J trivial|exact R trivial
      |_=>first|exact absurd rfl J|exact absurd rfl h1|exact absurd rfl S|exact absurd rfl M|exact k
 unfold CB at z;split at z
 ·rename_i c E
  split at z
  ·rename_i f u
   have T:∀x:AV,(∀e,∀i:AV->I ar->Prop,i x (s.h++e)->dj P o (ev s) (s.h++e) i)->fm m P o (ev s) s.h x s.h:=λx hx=>by
    have W:cW o=4\/cW o=6:=by
     unfold cW;simp only[E,u];cases rB f<;>simp
    unfold fm;rw[F];rcases W with W|W
    ·rw[W];exact⟨rfl,λe i d=>.inl (hx e i d)⟩
    ·rw[W];refine⟨[],(ZV _).symm,λi d=>.inl ?_⟩;have:=hx [] i (by rw[ZV];exact d)
     rwa [ZV]at this
   split at z
   ·rename_i g dD hg
    obtain⟨x,hK,kH⟩:=z;refine⟨x,s.h,T x λe i d=> ?_,hK⟩;unfold dj;simp only[E,u,hg];exact(kH e).mono λr' v ⟨e1,e2⟩=>by subst e1;subst e2;exact d
   ·rename_i q hg
    obtain⟨g,as,eq,x,hK,kH⟩:=z;refine⟨x,s.h,T x λe i d=> ?_,hK⟩;unfold dj;simp only[E,u,hg];exact⟨g,as,eq,(kH e).mono λr' v ⟨e1,e2⟩=>by subst e1;subst e2;exact d⟩
   ·exact z.elim
  ·rename_i u
   exact plain z (by
    unfold cW;simp only[E];cases N:c.callee with
    |value f=>exact absurd N (u f)
    |invoke=>simp
    |builtin b=>cases b<;>simp) (by
    unfold cW;simp only[E];cases N:c.callee with
    |value f=>exact absurd N (u f)
    |invoke=>simp
    |builtin b=>cases b<;>simp)
 ·rename_i E
  exact plain z (by
   unfold cW;split<;>first|(rename_i c N;exact(E c N).elim)|simp) (by
   unfold cW;split<;>first|(rename_i c N;exact(E c N).elim)|simp)
def Y1{m:Bool}{h1:I ar}{x:AV}(b:fm m P o ρ h x h1):∀C:AV->I ar->Prop,C x h1->kI P o ρ h C:=λC c=>by
 unfold fm at b;split at b;{obtain⟨e,b⟩:=b;subst e;exact b _ (.inr (jN.refl _)) _ c};{obtain⟨e,b⟩:=b;subst e;exact b _ (jW.refl _) _ c};{obtain⟨B,_,rfl,rfl,b⟩:=b;exact b _ _ c};{exact b.2 _ c}
 ·obtain⟨e,b⟩:=b;subst e;have:=b [] C (by rw[ZV];exact c)
  rwa [ZV]at this
 ·exact b.2 _ c
 ·obtain⟨d,_,b⟩:=b;exact b _ c
 ·exact b _ c
 ·exact b.elim
def OX{m:Bool}{s:St}{K:St->Prop}(t:Af m P o K s):∃x h1,fm m P o (ev s) s.h x h1/\K ((s.wh h1).put o.dst x):=by
 cases q:oO m o with
 |true=>
  have E:kN m o=7:=by unfold kN;rw[q];rfl
  rcases t with t|⟨_,x,h1,d,z⟩|⟨b,a,x,k,p,u,v,d⟩|⟨_,x,N,d,z⟩
  ·obtain⟨x,h1,A,d⟩:=ZO (m:=false) rfl t;refine⟨x,h1,?_,d⟩;have:=Y1 A;unfold fm;rw[E];exact this
  ·exact⟨x,h1,by unfold fm;rw[E];exact λC g=>.inl (z C g),d⟩
  ·exact⟨x,k,by unfold fm;rw[E];exact λC g=>.inr ⟨b.imp (·.1) (λe=>(Zr _ _▸e).2),a,x,k,p,u,v,g⟩,d⟩
  ·exact⟨x,_,by unfold fm;rw[E];exact λC g=>.inl (z C g),d⟩
 |false=>
 have F:kN m o=cW o:=by unfold kN;rw[q];rfl
 rcases t with t|⟨R,_⟩|⟨b,a,x,k,p,u,v,d⟩|⟨i,x,N,d,z⟩
 ·exact ZO q t
 ·rw[q]at R;cases R
 ·obtain⟨b,B⟩:kZ o=true/\(m&&cW o==0)=false:=b.resolve_right λe=>by
   rw[Zr]at e;unfold oO at q;rw[e.1,e.2]at q;simp at q
  have i:cW o=0\/cW o=1\/cW o=3:=by
   unfold kZ at b;unfold cW;split at b
   all_goals first|(next e=>simp only[e];simp)|skip
   ·next c e=>
    split at b;{next S=>simp only[e,S];simp};{cases b}
   ·cases b
  rcases i with i|i|i
  ·obtain⟨rfl,A⟩:=arD b i u v;refine⟨x,_,?_,d⟩;unfold fm;rw[F,i];exact⟨rfl,λk J C g=>.inr ⟨.inl b,a,x,k,by obtain⟨L,q1,M⟩:=A k (J.resolve_left λe=>by rw[e,i]at B;cases B);exact⟨L,q1,M,g⟩⟩⟩
  ·obtain⟨rfl,A⟩:=ajk b i u v;refine⟨x,_,?_,d⟩;unfold fm;rw[F,i];exact⟨rfl,λk J C g=>.inr ⟨.inl b,a,x,k,by obtain⟨L,q1,M⟩:=A k J;exact⟨L,q1,M,g⟩⟩⟩
  ·refine⟨x,k,?_,d⟩;unfold fm;rw[F,i];exact⟨asf b i u v,λC g=>.inr ⟨.inl b,a,x,k,p,u,v,g⟩⟩
 ·refine⟨x,_,?_,d⟩;unfold fm;rw[F,i];exact⟨N,rfl,λC g=>.inl (z C g)⟩
end
structure kt(s s':St):Prop where
 n:s.n=s'.n
 h:s.h=s'.h
 t:∀i,bP s.t i=bP s'.t i
def kt.refl(s:St):kt s s:=⟨rfl,rfl,λ_=>rfl⟩
def kt.symm{s s':St}(h:kt s s'):kt s' s:=⟨h.n.symm,h.h.symm,λi=>(h.t i).symm⟩
def kt.trans{a b c:St}(h:kt a b)(k:kt b c):kt a c:=⟨h.n.trans k.n,h.h.trans k.h,λi=>(h.t i).trans (k.t i)⟩
def uX(s:St)(d:U Nat)(x:AV)(i:Nat):bP (s.put d x).t i=if d=some i/\i<s.n then x else bP s.t i:=by
 cases d with
 |none=>simp [St.put]
 |some k=>
  by_cases b:k<s.n
  ·rw[sY b,mE];by_cases c:i=k
   ·subst c;simp [b]
   ·rw[ae c,ae (by simp;intro e;exact absurd e.symm c)]
  ·rw[JB b,ae (by rintro⟨e,g⟩;cases e;exact b g)]
def sO(s:St)(d:U Nat)(x:AV):(s.put d x).n=s.n:=by
 cases d with
 |none=>rfl
 |some k=>
  by_cases b:k<s.n;{rw[sY b]};{rw[JB b]}
def HP(s:St)(d:U Nat)(x:AV):(s.put d x).h=s.h:=by
 cases d with
 |none=>rfl
 |some k=>
  by_cases b:k<s.n;{rw[sY b]};{rw[JB b]}
def kt.put{s s':St}(h:kt s s')(h1:I ar)(d:U Nat)(x:AV):kt ((s.wh h1).put d x) ((s'.wh h1).put d x):=
 ⟨by rw[sO,sO];exact h.n,by rw[HP,HP];rfl,λi=>by
  rw[uX,uX];show(if d=some i/\i<s.n then x else bP s.t i)=(if d=some i/\i<s'.n then x else bP s'.t i);rw[h.n,h.t]⟩
def alU(s:St)(h1 e g:I ar){d b:U Nat}(x c:AV)(m:∀k,d=some k->b≠some k):kt ((((s.wh h1).put d x).wh g).put b c) ((((s.wh e).put b c).wh g).put d x):=by
 refine⟨by simp only[sO];show((s.wh h1).put d x).n=((s.wh e).put b c).n;simp only[sO];rfl,by simp only[HP];rfl,λi=> ?_⟩;rw[uX,uX];show(if b=some i/\i<((s.wh h1).put d x).n then c else bP ((s.wh h1).put d x).t i)=(if d=some i/\i<((s.wh e).put b c).n then x else bP ((s.wh e).put b c).t i);rw[sO,sO,uX,uX];show(if b=some i/\i<s.n then c else(if d=some i/\i<s.n then x else bP s.t i))=(if d=some i/\i<s.n then x else(if b=some i/\i<s.n then c else bP s.t i));by_cases a:d=some i;{have:=m i a;simp [a,this]};{simp [a]}
section
variable {P:dg} {ops:Array Oper}
def nP(m:Bool)(P:dg)(ops:Array Oper)(o:Oper)(s:St)(x:AV)(h1:I ar):Prop:=(jY ops o s True False/\fm m P o (ev s) s.h x h1)\/(jY ops o s False True/\x= .d (.v undef)/\h1=s.h)
def MR{o:Oper}{s:St}{c i:Prop}(h:jY ops o s c i):(jY ops o s True False/\c)\/(jY ops o s False True/\i):=by
 unfold jY at h ⊢;split at h;{exact .inl ⟨trivial,h⟩}
 ·rename_i j want m
  split at h
  ·rename_i d p
   split at h
   ·rename_i b q
    by_cases g:b=want;{exact .inl ⟨⟨λ_=>trivial,λe=>by subst g;cases b<;>cases e⟩,h.1 g⟩}
    ·have k:b= !want:=by cases b<;>cases want<;>simp_all
     exact .inr ⟨⟨λe=>(g e).elim,λ_=>trivial⟩,h.2 k⟩
   ·exact .inr ⟨trivial,h⟩
   ·exact h.elim
  ·exact h.elim
def xS{o:Oper}{s s':St}{b no:Prop}(e:∀d,d∈o.looksAt ops->bP s'.t d=bP s.t d)(h:jY ops o s b no):jY ops o s' b no:=by
 unfold jY at h ⊢;split at h;{exact h}
 ·rename_i j c g
  split at h
  ·rename_i d i
   have:bP s'.t d=bP s.t d:=e d (by unfold Oper.looksAt;rw[g];simp [i]);rw[this];exact h
  ·exact h.elim
def TB{m:Bool}{o:Oper}{s s':St}{x:AV}{h1:I ar}(v:∀d,d∈o.looksAt ops->bP s'.t d=bP s.t d)(u:s'.h=s.h)(h:nP m P ops o s x h1):nP m P ops o s' x h1:=by
 have z:∀y∈o.op.operands,ev s y=ev s' y:=λy A=>by
  cases y with
  |tmp t=>exact(v t (by unfold Oper.looksAt;refine ZN.2 (.inl (List.mem_filterMap.2 ⟨.tmp t,Array.mem_toList_iff.2 A,rfl⟩)))).symm
  |_=>rfl
 rcases h with⟨g,i⟩|⟨g,E,F⟩
 ·refine .inl ⟨xS v g,?_⟩;rw[u];have p:∀h C,kI P o (ev s) h C=kI P o (ev s') h C:=λh C=>Wf z;unfold fm at i ⊢;split at i
  ·exact⟨i.1,λq u C k=>p q C▸i.2 q u C k⟩
  ·exact⟨i.1,λq u C k=>p _ C▸i.2 q u C k⟩
  ·obtain⟨B,J,a,b,c⟩:=i;exact⟨B,J,a,b,λq C k=>p q C▸c q C k⟩
  ·exact⟨i.1,λC k=>p _ C▸i.2 C k⟩
  ·exact⟨i.1,λe C k=>p _ C▸i.2 e C k⟩
  ·exact⟨i.1,λC k=>p _ C▸i.2 C k⟩
  ·obtain⟨L,a,b⟩:=i;exact⟨L,a,λC k=>p _ C▸b C k⟩
  ·exact λC k=>p _ C▸i C k
  ·exact i.elim
 ·exact .inr ⟨xS v g,E,F.trans u.symm⟩
def Y0{o:Oper}(h:cW o=7):False:=by
 unfold cW at h
 repeat' (first|(split at h)|cases h)
 all_goals (cases b:rB _<;>rw[b]at h<;>cases h)
def ajy{m:Bool}{o:Oper}{ρ:Operand->AV}{h h1:I ar}{x:AV}(c:oO m o=false)(b:fm m P o ρ h x h1):jN h h1:=by
 unfold fm at b;unfold kN at b;rw[c]at b;simp only[T6]at b;split at b;{rw[b.1];exact jN.refl _};{rw[b.1];exact jN.refl _};{obtain⟨B,d,_,e,_⟩:=b;rw[e];exact(jD.app d).i};{exact b.1.i};{rw[b.1];exact jN.refl _};{exact b.1.2.2.i};{obtain⟨g,e,_⟩:=b;rw[e];exact jN.app _ _};{next e=>exact(Y0 e).elim};{exact b.elim}
def aju{m:Bool}{o:Oper}{ρ:Operand->AV}{h h1:I ar}{x:AV}(c:oO m o=false)(d:cW o≠6)(b:fm m P o ρ h x h1):jN h1 h:=by
 unfold fm at b;unfold kN at b;rw[c]at b;simp only[T6]at b;split at b;{rw[b.1];exact jN.refl _};{rw[b.1];exact jN.refl _};{obtain⟨B,g,_,e,_⟩:=b;rw[e];exact(jD.app g).j};{exact b.1.j};{rw[b.1];exact jN.refl _};{exact b.1.2.2.j};{next e=>exact(d e).elim};{next e=>exact(Y0 e).elim};{exact b.elim}
def Bq(m:Bool)(a b:Oper):Bool:=(m&&((oO m a&&(!oO m b&&cW b==0))||(oO m b&&(!oO m a&&cW a==0))))|| !oO m a&& !oO m b&&(cW a==0||(cW b==0&& !(cW a==6))||((cW a==1||cW a==4)&&(cW b==1||cW b==4||cW b==2||cW b==6))||(cW a==1&&cW b==5)||(cW a==5&&cW b==1))
def atu{m:Bool}{oi oj:Oper}{s:St}{E x:AV}{hi hj:I ar}(OQ:oi.apart ops oj=true)(i:Bq m oi oj=true)(h1:nP m P ops oi s E hi)(h2:nP m P ops oj ((s.wh hi).put oi.dst E) x hj):
 ∃iB,nP m P ops oj s x iB/\nP m P ops oi ((s.wh iB).put oj.dst x) E hj:=by
 obtain⟨a1,a2,a3⟩:=Oper.apart_spec OQ;have R:∀d,d∈oj.looksAt ops->bP s.t d=bP ((s.wh hi).put oi.dst E).t d:=λd hd=>by
  rw[uX,ae (λe=>a1 d e.1 hd)];rfl
 have S:∀(h':I ar) d,d∈oi.looksAt ops->bP ((s.wh h').put oj.dst x).t d=bP s.t d:=λh' d hd=>by
  rw[uX,ae (λe=>a3 d e.1 hd)];rfl
 have z:((s.wh hi).put oi.dst E).h=hi:=by rw[HP];rfl
 have A:∀h',((s.wh h').put oj.dst x).h=h':=λh'=>by rw[HP];rfl
 have same:hi=s.h->nP m P ops oj s x hj:=λe=>TB R (by rw[z,e]) h2;have evi:∀h',∀y∈oi.op.operands,ev ((s.wh h').put oj.dst x) y=ev s y:=λh' y hy=>by
  cases y with
  |tmp t=>exact S h' t (by unfold Oper.looksAt;refine ZN.2 (.inl (List.mem_filterMap.2 ⟨.tmp t,Array.mem_toList_iff.2 hy,rfl⟩)))
  |_=>rfl
 have evj:∀y∈oj.op.operands,ev ((s.wh hi).put oi.dst E) y=ev s y:=λy hy=>by
  cases y with
  |tmp t=>exact(R t (by unfold Oper.looksAt;refine ZN.2 (.inl (List.mem_filterMap.2 ⟨.tmp t,Array.mem_toList_iff.2 hy,rfl⟩)))).symm
  |_=>rfl
 have J:∀h' h C,kI P oi (ev ((s.wh h').put oj.dst x)) h C=kI P oi (ev s) h C:=λh' h C=>Wf (evi h');have cj:∀h C,kI P oj (ev ((s.wh hi).put oi.dst E)) h C=kI P oj (ev s) h C:=λh C=>Wf evj;unfold Bq at i;rw[aq]at i;rcases h1 with⟨T,c⟩|⟨T,e1,e2⟩
 ·rcases h2 with⟨g2,g⟩|⟨g2,f1,f2⟩
  ·rcases i with i|i
   ·
    rw[Zr,aq,Zr,Zr,Zr,Zr,UA,UA,Ua,Ua]at i;obtain⟨hm,i⟩:=i;have L:∀h',jY ops oi ((s.wh h').put oj.dst x) True False:=λh'=>xS (S h') T;have Nc:jY ops oj s True False:=xS R g2;rcases i with⟨Hy,lj,kj⟩|⟨haj,li,ki⟩
    ·have v:kN m oj=0:=by unfold kN;rw[lj];exact kj
     have q:kN m oi=7:=by unfold kN;rw[Hy];rfl
     unfold fm at c g;rw[q]at c;rw[v]at g;simp only at c g;obtain⟨e,g⟩:=g;rw[z]at e;refine⟨s.h,.inl ⟨Nc,?_⟩,.inl ⟨L s.h,?_⟩⟩;{unfold fm;rw[v];exact⟨rfl,λh' _ C p=>by rw[<-cj];exact g h' (.inl hm) C p⟩};{unfold fm;rw[q,A];exact λC p=>by rw[J];exact c C (e▸p)}
    ·have q:kN m oi=0:=by unfold kN;rw[li];exact ki
     have v:kN m oj=7:=by unfold kN;rw[haj];rfl
     unfold fm at c;rw[q]at c;simp only at c;obtain⟨e,c⟩:=c;refine⟨hj,same e,.inl ⟨L hj,?_⟩⟩;unfold fm;rw[q];exact⟨(A hj).symm,λh' _ C p=>by rw[J];exact c h' (.inl hm) C p⟩
   rw[Zr,Zr,UA,UA]at i;obtain⟨⟨li,lj⟩,i⟩:=i;have q:kN m oi=cW oi:=by unfold kN;rw[li];rfl
   have v:kN m oj=cW oj:=by unfold kN;rw[lj];rfl
   have L:∀h',jY ops oi ((s.wh h').put oj.dst x) True False:=λh'=>xS (S h') T;have Nc:jY ops oj s True False:=xS R g2;by_cases k0:cW oi=0
   ·unfold fm at c;rw[q,k0]at c;simp only at c;obtain⟨e,c⟩:=c;refine⟨hj,same e,.inl ⟨L hj,?_⟩⟩;unfold fm;rw[q,k0];have hv:jN s.h hj:=by
     have:=ajy lj g;rw[z,e]at this;exact this
    exact⟨(A hj).symm,λh' u C p=>by rw[A]at u;rw[J];exact c h' (u.imp id λu=>hv.trans u) C p⟩
   ·by_cases k1:cW oj=0
    ·unfold fm at g;rw[v,k1]at g;simp only at g;obtain⟨e,g⟩:=g;rw[z]at e g;have k6:cW oi≠6:=λk6=>by
      simp [k6,k1]at i
     have hv:=aju li k6 c;refine⟨s.h,.inl ⟨Nc,?_⟩,.inl ⟨L s.h,?_⟩⟩;{unfold fm;rw[v,k1];exact⟨rfl,λh' u C p=>by rw[<-cj];exact g h' (u.imp id λu=>hv.trans u) C p⟩};{rw[e];unfold fm at c ⊢;rw[A];simp only[J];exact c}
    ·by_cases W:cW oi=1/\cW oj=5
     ·obtain⟨ka,kb⟩:=W;unfold fm at c g;rw[q,ka]at c;rw[v,kb]at g;simp only at c g;obtain⟨e,c⟩:=c;obtain⟨⟨c1,c2,_⟩,g⟩:=g;rw[z,e]at c1 c2;refine⟨hj,same e,.inl ⟨L hj,?_⟩⟩;unfold fm;rw[q,ka];simp only;refine⟨(A hj).symm,λh' u C p=> ?_⟩;rw[A]at u;rw[J];exact c h' (λn M hn N=>u n M (c1 n M hn N) N) C p
     by_cases k51:cW oi=5/\cW oj=1
     ·obtain⟨ka,kb⟩:=k51;unfold fm at c g;rw[q,ka]at c;rw[v,kb]at g;simp only at c g;obtain⟨⟨c1,c2,c3⟩,c⟩:=c;obtain⟨e,g⟩:=g;rw[z]at e g;refine⟨s.h,.inl ⟨Nc,?_⟩,.inl ⟨L s.h,?_⟩⟩
      ·unfold fm;rw[v,kb];simp only;exact⟨trivial,λh' u C p=>by rw[<-cj];exact g h' (λn M hn N=>u n M (c2 n M hn N) N) C p⟩
      ·rw[e];unfold fm;rw[q,ka];simp only;rw[A];exact⟨⟨c1,c2,c3⟩,λC p=>by rw[J];exact c C p⟩
     have hc:(cW oi=1\/cW oi=4)/\(cW oj=1\/cW oj=4\/cW oj=2\/cW oj=6):=by
      simp only[aq,Zr,Ua,k0,k1,false_or,false_and]at i;rcases i with(i|i)|i
      ·refine⟨i.1,?_⟩;rcases i.2 with((h|h)|h)|h
       ·exact .inl h
       ·exact .inr (.inl h)
       ·exact .inr (.inr (.inl h))
       ·exact .inr (.inr (.inr h))
      ·exact absurd i W
      ·exact absurd i k51
     have q1:hi=s.h/\∀e(C:AV->I ar->Prop),C E (s.h++e)->kI P oi (ev s) (s.h++e) C:=by
      unfold fm at c;rcases hc.1 with k|k
      ·rw[q,k]at c;exact⟨c.1,λe C p=>c.2 _ (jW.app _ _) C p⟩
      ·rw[q,k]at c;exact c
     have q2:∃e0,hj=s.h++e0:=by
      have F:=g;unfold fm at F;rcases hc.2 with k|k|k|k
      ·rw[v,k]at F;exact⟨[],by rw[F.1,z,q1.1,ZV]⟩
      ·rw[v,k]at F;exact⟨[],by rw[F.1,z,q1.1,ZV]⟩
      ·rw[v,k]at F;obtain⟨B,_,_,b,_⟩:=F;exact⟨[B],by rw[b,z,q1.1]⟩
      ·rw[v,k]at F;obtain⟨e0,b,_⟩:=F;exact⟨e0,by rw[b,z,q1.1]⟩
     obtain⟨e0,JE⟩:=q2;refine⟨hj,same q1.1,.inl ⟨L hj,?_⟩⟩;have:∀e(C:AV->I ar->Prop),C E (hj++e)->kI P oi (ev ((s.wh hj).put oj.dst x)) (hj++e) C:=λe C p=>by
      rw[J,JE,ZR];rw[JE,ZR]at p;exact q1.2 _ C p
     unfold fm;rw[A];rcases hc.1 with k|k
     ·rw[q,k];simp only;refine⟨trivial,λh' u C p=> ?_⟩;rw[J];unfold fm at c;rw[q,k]at c;exact c.2 h' (λn M hn N=>u n M (by rw[JE];exact jW.app _ _ n M hn N) N) C p
     ·rw[q,k];exact⟨rfl,this⟩
  ·
   subst f1;rw[z]at f2;refine⟨s.h,.inr ⟨xS R g2,rfl,rfl⟩,?_⟩;rw[f2];exact TB (S s.h) (by rw[A]) (.inl ⟨T,c⟩)
 ·
  subst e1;refine⟨hj,same e2,.inr ⟨xS (S hj) T,rfl,(A hj).symm⟩⟩
def tn(K:St->Prop):Prop:=∀s b,kt s b->K s->K b
def me(m:Bool)(P:dg)(ops:Array Oper)(K:St->Prop):Nat->Array Bool->St->Prop
 |0,listed,s=>Region.ready .any ops listed=[]/\K s
 |b+1,listed,s=>(Region.ready .any ops listed=[]->K s)/\ ∀i∈Region.ready .any ops listed,∀o,ops[i]?=some o->∃x c,nP m P ops o s x c/\me m P ops K b (listed.setIfInBounds i true) ((s.wh c).put o.dst x)
def Xy{m:Bool}{K:St->Prop}(e:tn K):∀(b:Nat)(listed:Array Bool)(s s':St),kt s s'->me m P ops K b listed s->me m P ops K b listed s'
 |0,_,s,s',c,h=>⟨h.1,e s s' c h.2⟩
 |b+1,_,s,s',c,h=>⟨λk=>e s s' c (h.1 k),λi p o q=>by
  obtain⟨x,g,u,v⟩:=h.2 i p o q;exact⟨x,g,TB (λd _=>(c.t d).symm) c.h.symm u,Xy e b _ _ _ (c.put g o.dst x) v⟩⟩
def pL(M:Array Nat)(ops:Array Oper):Bool:=
 (List.range ops.size).all λj=>(List.range ops.size).all λi=> !(M.getD j 0).testBit i||match ops[j]? with
  |some o=>o.after.any λe=>Region.binds .any e&&decide (e.on<j)&&(e.on==i||(M.getD e.on 0).testBit i)
  |none=>false
def Dn(ops:Array Oper)(listed:Array Bool):Prop:=∀(j:Nat)(o:Oper),ops[j]?=some o->listed.getD j false=true->∀e∈o.after,Region.binds .any e=true->listed.getD e.on false=true
def amW{M:Array Nat}(d:pL M ops=true){listed:Array Bool}(u:Dn ops listed):∀(j i:Nat)(o:Oper),i<ops.size->ops[j]?=some o->(∀e∈o.after,Region.binds .any e=true->listed.getD e.on false=true)->(M.getD j 0).testBit i=true->listed.getD i false=true:=by
 intro j
 induction j using Nat.strongRecOn with
 |_ j v=>
  intro i o k g x z;unfold pL at d;simp only[Zd,List.mem_range]at d;have c:=d j (ZT.1 g).1 i k;rw[z,g]at c;simp only[W1,b7]at c;rw[Array.any_eq_true']at c;obtain⟨e,A,m⟩:=c;simp only[Zr,UR,aq,Ua]at m;obtain⟨⟨B,p⟩,b⟩:=m;have q:=x e A B;rcases b with b|b
  ·rw[<-b];exact q
  ·have t:e.on<ops.size:=Nat.lt_trans p (ZT.1 g).1;exact v e.on p i ops[e.on] k (ZM t) (u e.on _ (ZM t) q) b
def Dn.set{listed:Array Bool}(p:Dn ops listed){i:Nat}(q:i∈Region.ready .any ops listed):Dn ops (listed.setIfInBounds i true):=by
 intro j o b c e d g;refine getD_set_true ?_;by_cases k:i=j;{subst k;obtain⟨_,u,m,t⟩:=mem_ready.1 q;rw[b]at m;cases m;exact t e d g};{rw[getD_set_ne false k]at c;exact p j o b c e d g}
def J9{m:Bool}{K:St->Prop}(hK:tn K){M:Array Nat}(hM:pL M ops=true){i:Nat}{p:Oper}{x:AV}{h1:I ar}(hi:ops[i]?=some p):
 ∀(b:Nat)(listed:Array Bool)(s:St),Dn ops listed->
  (∀j d,ops[j]?=some d->j≠i->listed.getD j true=false->(M.getD j 0).testBit i=false->p.apart ops d=true/\Bq m p d=true)->
  i∈Region.ready .any ops listed->nP m P ops p s x h1->me m P ops K b (listed.setIfInBounds i true) ((s.wh h1).put p.dst x)->me m P ops K (b+1) listed s:=by
 intro b
 induction b generalizing x h1 with
 |zero=>
  intro listed s _ _ e z H;refine⟨λh=>(by rw[h]at e;cases e),λj q o J=> ?_⟩;by_cases c:j=i;{subst c;rw[hi]at J;cases J;exact⟨x,h1,z,H⟩};{have:=ready_mono q c;rw[H.1]at this;cases this}
 |succ b ih=>
  intro listed s L N e z H;refine⟨λh=>(by rw[h]at e;cases e),λj q d g=> ?_⟩;by_cases c:j=i;{subst c;rw[hi]at g;cases g;exact⟨x,h1,z,H⟩}
  ·obtain⟨R,A,SJ,H2⟩:=H.2 j (ready_mono q c) d g;obtain⟨t,oj',u,gJ⟩:=mem_ready.1 q;rw[g]at u;cases u;have B:=(ZT.1 hi).1;have S:listed.getD i false=false:=by
    have T:=(mem_ready.1 e).1;rcases Nat.lt_or_ge i listed.size with E|E
    ·simpa [E]using T
    ·simp [Array.getElem?_eq_none E]at T
   have k8:(M.getD j 0).testBit i=false:=by
    cases hb:(M.getD j 0).testBit i with
    |false=>rfl
    |true=>rw[amW hM L j i d B g gJ hb]at S;cases S
   obtain⟨W,jJ⟩:=N j d g c t k8;obtain⟨iB,s1,s2⟩:=atu W jJ z SJ;obtain⟨_,a2,_⟩:=Oper.apart_spec W;refine⟨R,iB,s1,ih (listed.setIfInBounds j true) _ (L.set q) (λk ok F TD v ua=> ?_) (ready_mono e (Ne.symm c)) s2 ?_⟩
   ·refine N k ok F TD ?_ ua;by_cases LJ:j=k
    ·subst LJ;exact t
    ·rw[getD_set_ne true LJ]at v;exact v
   ·rw[Array.setIfInBounds_comm _ _ c];exact Xy hK _ _ _ _ (alU s h1 iB A x R (λk F=>a2 k F)) H2
def Xx(M:Array Nat)(ops:Array Oper)(k:Nat):Bool:=
 match ops[k]? with
 |none=>false
 |some b=>(List.range ops.size).all λj=>decide (j<=k)||(M.getD j 0).testBit k||match ops[j]? with
  |some c=>b.apart ops c&&Bq false b c
  |none=>true
def I4(M:Array Nat)(ops:Array Oper):Nat->Nat->Array Bool->Bool
 |0,_,listed=>(Region.ready .any ops listed).isEmpty
 |b+1,k,listed=>(Region.ready .any ops listed).contains k&&Xx M ops k&&I4 M ops b (k+1) (listed.setIfInBounds k true)
def sx(ops:Array Oper):Bool:=pL (Region.before ops) ops&&I4 (Region.before ops) ops ops.size 0 (Array.replicate ops.size false)
def Xv{K i:St->Prop}(u:tn i)(v:∀s,K s->i s){M:Array Nat}(z:pL M ops=true):∀(l:I Oper)(k:Nat)(listed:Array Bool)(s:St),(∀j,l[j]?=ops[k+j]?)->(∀j,j<k->listed.getD j true=true)->Dn ops listed->
 I4 M ops l.length k listed=true->FY P ops l K s->me false P ops i l.length listed s
 |[],_,_,_,_,_,_,c,h=>⟨by simpa [I4]using c,v _ h⟩
 |o::l,k,listed,s,A,B,E,c,h=>by
  have F:ops[k]?=some o:=by simpa using (A 0).symm
  simp only[Zl,I4,Zr]at c;obtain⟨⟨N,d⟩,R⟩:=c;have J:k∈Region.ready .any ops listed:=by simpa using N
  have S:∀j,l[j]?=ops[k+1+j]?:=λj=>by have:=A (j+1);simpa [Nat.add_assoc,Nat.add_comm 1 j]using this
  have m:∀j,j<k+1->(listed.setIfInBounds k true).getD j true=true:=λj p=>by
   by_cases e:k=j
   ·subst e;rcases Nat.lt_or_ge k listed.size with q|q
    ·simp [q]
    ·have:(listed.setIfInBounds k true)[k]?=none:=Array.getElem?_eq_none (by simpa using q);rw[Array.getD_eq_getD_getElem?,this];rfl
   ·rw[getD_set_ne true e];exact B j (by omega)
  obtain⟨x,b,T,W⟩:∃x b,nP false P ops o s x b/\FY P ops l K ((s.wh b).put o.dst x):=by
   rcases MR h with⟨g,t⟩|⟨g,t⟩
   ·obtain⟨x,b,h2,h3⟩:=OX t;exact⟨x,b,.inl ⟨g,h2⟩,h3⟩
   ·exact⟨_,s.h,.inr ⟨g,rfl,rfl⟩,t⟩
  refine J9 u z F l.length listed s E (λj oj p cX L ua=> ?_) J T (Xv u v z l (k+1) _ _ S m (E.set J) R W);unfold Xx at d;rw[F]at d;simp only[Zd,List.mem_range]at d;have:=d j (ZT.1 p).1;rw[ua,p]at this;simp only[Bool.or_false,aq,Zr,UR]at this;rcases this with this|this
  ·exfalso;have:=B j (by omega);rw[this]at L;cases L
  ·exact this
def Is(m:Bool)(M:Array Nat)(ops:Array Oper):I Nat->Array Bool->Bool
 |[],listed=>(Region.ready .any ops listed).isEmpty
 |k::l,listed=>(Region.ready .any ops listed).contains k&&(match ops[k]? with
  |none=>false
  |some b=>(List.range ops.size).all λj=>j==k||listed.getD j true||(M.getD j 0).testBit k||match ops[j]? with
   |some c=>b.apart ops c&&Bq m b c
   |none=>true)&&Is m M ops l (listed.setIfInBounds k true)
def HS(m:Bool)(ops:Array Oper)(p:I Nat):Bool:=pL (Region.before ops) ops&&Is m (Region.before ops) ops p (Array.replicate ops.size false)
def uq(ops:Array Oper):I Nat->I Oper
 |[]=>[]
 |k::l=>match ops[k]? with
  |some o=>o::uq ops l
  |none=>uq ops l
def Xa{m:Bool}{K d:St->Prop}(t:tn d)(u:∀s,K s->d s){M:Array Nat}(v:pL M ops=true):∀(l:I Nat)(listed:Array Bool)(s:St),Dn ops listed->
 Is m M ops l listed=true->vE m P ops (uq ops l) K s->me m P ops d l.length listed s
 |[],_,_,_,c,h=>⟨by simpa [Is]using c,u _ h⟩
 |k::l,listed,s,z,c,h=>by
  simp only[Is,Zr]at c;obtain⟨⟨B,e⟩,E⟩:=c;have i:k∈Region.ready .any ops listed:=by simpa using B
  obtain⟨_,o,p,_⟩:=mem_ready.1 i;rw[p]at e;simp only[Zd,List.mem_range]at e;simp only[uq,p]at h;obtain⟨x,b,F,J⟩:∃x b,nP m P ops o s x b/\vE m P ops (uq ops l) K ((s.wh b).put o.dst x):=by
   rcases MR h with⟨g,q⟩|⟨g,q⟩
   ·obtain⟨x,b,L,N⟩:=OX q;exact⟨x,b,.inl ⟨g,L⟩,N⟩
   ·exact⟨_,s.h,.inr ⟨g,rfl,rfl⟩,q⟩
  refine J9 t v p l.length listed s z (λj W A R S T=> ?_) i F (Xa t u v l _ _ (z.set i) E J);have:=e j (ZT.1 A).1;rw[T,S,A]at this;simp only[Bool.or_false,aq,Zr,Ua]at this;rcases this with this|this
  ·exact absurd this R
  ·exact this
end
section
variable {P:dg} {r:U Nat} {n N0:Nat} {G:Gh} {w:Zy} {a:Act} {s:St} {o:Oper} {Q:Exit->St->Prop}
def dx.drew(b:dx G w a s):cq G.N G w G {w with drawn:=w.drawn+1}/\dx G {w with drawn:=w.drawn+1} a s:=by
 have c:cq G.N G w G {w with drawn:=w.drawn+1}:=⟨Zv _,λ_ _ h=>h,λ_ _ _=>rfl,λ_ _=>rfl,λ_ _=>.inl ⟨rfl,rfl⟩,iX rfl,λ_ _=>rfl,rfl,rfl,rfl,λ_ _ h=>.inl h⟩;have e:cu G {w with drawn:=w.drawn+1} s.h:=⟨b.inv.len,b.inv.z,b.inv.S,λn B d=>fb.keep (b.inv.lt d) c (Zv _) ⟨rfl,rfl,rfl⟩ (λ_ _=>⟨rfl,λ_ h=>h⟩) (b.inv.dM n B d),b.inv.inj,b.inv.gl.keep c⟩;exact⟨c,b.move c (Zv _) e⟩
def ajd{m:Bool}{x:AV}{h1:I ar}(h:fm m P o (ev s) s.h x h1):kI P o (ev s) s.h (λb h'=>(s.wh h').put o.dst b=(s.wh h1).put o.dst x):=Y1 h _ rfl
def Jm{m:Bool}{ops:Array Oper}{K:St->Prop}{z:Exit->Act->Zy->Prop}(A:∀a' w',jw N0 G w K a' w'->z .normal a' w'):∀(b:Nat)(listed:Array Bool)(G1:Gh)(e:Zy)(a:Act)(s:St),
 cq N0 G w G1 e->N0<=G1.N->dx G1 e a s->me m P ops K b listed s->wpAnyIn (WF r) n P .any ops z b listed a e
 |0,_,G1,e,a,s,t,q,c,h=>⟨h.1,A _ _ ⟨G1,s,t,q,c,h.2⟩⟩
 |b+1,listed,G1,e,a,s,t,q,c,h=>by
  refine⟨λR=>A _ _ ⟨G1,s,t,q,c,h.1 R⟩,λi F=> ?_⟩;obtain⟨_,o,J,_⟩:=mem_ready.1 F;obtain⟨x,L,S,M⟩:=h.2 i F o J;unfold wpOpIn;rw[J];simp only;rcases S with⟨g,T⟩|⟨g,rfl,rfl⟩
  ·have u:=S2 c g;split at u
   ·rename_i B
    rw[ab B];refine Oper.wpIn_mono (λa' w' W=> ?_) ((ajd T).elim (λk=>XV (K:=λE=>E=(s.wh L).put o.dst x) (r:=r) (n:=n) (N0:=N0) (Q:=z) c q k) fun⟨_,va,x',h',p,k1,k2,k3⟩=>Y8 (K:=λE=>E=(s.wh L).put o.dst x) (r:=r) (n:=n) (N0:=N0) (Q:=z) c q ⟨va,x',h',p,k1,k2,k3⟩);obtain⟨G2,s2,e2,n2,zR,rfl⟩:=W;exact Jm A b _ G2 w' a' _ (t.trans e2) n2 zR M
   ·exact u.elim
  ·have u:=S2 c g;split at u
   ·exact u.elim
   ·rename_i B
    rw[ae B];exact⟨λ_ _=>trivial,Jm A b _ G1 e _ _ t q (c.put (.d (.v undef)) o.dst) M⟩
def P7{id:Nat}{l:I Oper}(q:P.follows .mixedOrders=true)(g:sx l.toArray=true)(h:FY P l.toArray l (Q .normal) s):bR P r N0 (.region id l.toArray true) Q s:=by
 constructor
 intro G w a n u p;unfold sx at g;rw[Zr]at g;obtain⟨v,x⟩:=u.drew;refine wpIn_region_any q ?_;have z:tn (λs=>∃b,kt b s/\Q .normal b):=λs b e ⟨m,d,A⟩=>⟨m,d.trans e,A⟩;have:=Xv (K:=Q .normal) z (λs h=>⟨s,kt.refl s,h⟩) g.1 l 0 (Array.replicate l.toArray.size false) s (by simp) (λj c=>absurd c (ZG _)) (λj o M c=>by
  exfalso;rw[Array.getD_eq_getD_getElem?,Array.getElem?_replicate]at c;split at c<;>simp at c) (by simpa using g.2) h
 refine Jm (G:=G) (w:=w) (N0:=N0) (K:=λs=>∃b,kt b s/\Q .normal b) (λN R B=> ?_) l.toArray.size _ G _ a s (v.less p) p x (by simpa using this);obtain⟨E,b,F,J,k,m,d,L⟩:=B;refine⟨E,m,F,J,⟨k.size.trans d.n.symm,λi=>by rw[d.t i];exact k.tmp i,by rw[d.h];exact k.inv,k.df⟩,L⟩
def Zj{m:Bool}{id:Nat}{ops:Array Oper}(p:I Nat)(v:P.follows .mixedOrders=true)(x:p.length=ops.size)(d:HS m ops p=true)(h:vE m P ops (uq ops p) (Q .normal) s):bR P r N0 (.region id ops true) Q s:=by
 constructor
 intro G w a n z u;unfold HS at d;rw[Zr]at d;obtain⟨A,B⟩:=z.drew;refine wpIn_region_any v ?_;have E:tn (λs=>∃b,kt b s/\Q .normal b):=λs b e ⟨q,c,F⟩=>⟨q,c.trans e,F⟩;have:=Xa (K:=Q .normal) E (λs h=>⟨s,kt.refl s,h⟩) d.1 p (Array.replicate ops.size false) s (λj o S g=>by
  exfalso;rw[Array.getD_eq_getD_getElem?,Array.getElem?_replicate]at g;split at g<;>simp at g) d.2 h
 rw[x]at this;refine Jm (G:=G) (w:=w) (N0:=N0) (K:=λs=>∃b,kt b s/\Q .normal b) (λT W J=> ?_) ops.size _ G _ a s (A.less u) u B this;obtain⟨L,b,M,N,k,q,c,R⟩:=J;refine⟨L,q,M,N,⟨k.size.trans c.n.symm,λi=>by rw[c.t i];exact k.tmp i,by rw[c.h];exact k.inv,k.df⟩,R⟩
end
def aty(c:Bool):AV->Bool
 | .d (.v (.bool b))=>b==c
 |_=>false
def gNo(c:Bool):AV->Bool
 | .d (.v (.bool b))=>b== !c
 | .d (.v (.tuple _))=>true
 |_=>false
def alN(t:I (Nat×AV)):U Nat->AV
 |some d=>bP t d
 |none=>.dead
def wg(ops:Array Oper)(j:Nat)(t:I (Nat×AV)):AV:=alN t ((ops[j]?).bind (·.dst))
section
variable {P:dg} {ops:Array Oper} {dst:U Nat} {op:Op} {ty:TypeId} {pos:String} {after:Array Edge} {j:Nat} {w:Bool} {s:St} {rest:I Oper} {K:St->Prop} {y n:Prop}
def LX:jY ops ⟨dst,op,ty,pos,after,some (j,w)⟩ s y n=(match wg ops j s.t with
 | .d (.v (.bool b))=>(b=w->y)/\(b= !w->n)
 | .d (.v (.tuple _))=>n
 |_=>False):=by
 show(match (ops[j]?).bind (·.dst)with
  |some d=>match bP s.t d with
   | .d (.v (.bool b))=>(b=w->y)/\(b= !w->n)
   | .d (.v (.tuple _))=>n
   |_=>False
  |none=>False)=_
 unfold wg;cases (ops[j]?).bind (·.dst)<;>rfl
end
section
variable {P:dg} {r:U Nat} {n N0:Nat} {G:Gh} {w:Zy} {a:Act} {s:St} {o:Oper} {Q:Exit->St->Prop}
def aW{K:St->Prop}(h:K s):je K Q .normal s:=h
def iE{K:St->Prop}{i:Nat}(h:Q (.exit i) s):je K Q (.exit i) s:=h
def dn{K:St->Prop}(h:Q .ret s):je K Q .ret s:=h
def eV{id:Nat}(h:Q .normal s):sZ id Q .normal s:=h
def eQ{id:Nat}(h:Q .ret s):sZ id Q .ret s:=h
def m7{id i:Nat}(e:(i==id)=true)(h:Q .normal s):sZ id Q (.exit i) s:=by simpa only[sZ,e,Tq]using h
def anV{id i:Nat}(e:(i==id)=false)(h:Q (.exit i) s):sZ id Q (.exit i) s:=by simpa only[sZ,e,T6]using h
def m8{c:Operand}{x y:Code}(b:ev s c= .d (.v (.bool true)))(h:bR P r N0 x Q s):bR P r N0 (.cond c x y) Q s:=V7 b (λ_=>h) λh=>Bool.noConfusion h
def Bp{c:Operand}{x y:Code}(h:bR P r N0 x Q s)(b:ev s c= .d (.v (.bool true)):=by kernel_rfl):bR P r N0 (.cond c x y) Q s:=m8 b h
def mJ{c:Operand}{x y:Code}(b:ev s c= .d (.v (.bool false)))(h:bR P r N0 y Q s):bR P r N0 (.cond c x y) Q s:=V7 b (λh=>Bool.noConfusion h) λ_=>h
def Br{c:Operand}{x y:Code}(h:bR P r N0 y Q s)(b:ev s c= .d (.v (.bool false)):=by kernel_rfl):bR P r N0 (.cond c x y) Q s:=mJ b h
def aah{c:Operand}{x y:Code}{t:Bool}(b:ev s c= .d (.v (.bool t)))(e:t=true)(h:bR P r N0 x Q s):bR P r N0 (.cond c x y) Q s:=m8 (by rw[b,e]) h
def Bo{c:Operand}{x y:Code}{t:Bool}(e:t=true)(h:bR P r N0 x Q s)(b:ev s c= .d (.v (.bool t)):=by kernel_rfl):bR P r N0 (.cond c x y) Q s:=aah b e h
def aag{c:Operand}{x y:Code}{t:Bool}(b:ev s c= .d (.v (.bool t)))(e:t=false)(h:bR P r N0 y Q s):bR P r N0 (.cond c x y) Q s:=mJ (by rw[b,e]) h
def AO{c:Operand}{x y:Code}{t:Bool}(e:t=false)(h:bR P r N0 y Q s)(b:ev s c= .d (.v (.bool t)):=by kernel_rfl):bR P r N0 (.cond c x y) Q s:=aag b e h
def Nr{c:Code}(k:Nat)(e:TypeId)(q:Nat)(xs:I (I D))(g:bP s.t k= .full xs\/(bP s.t k= .d (.v (.slice none 0 0))/\xs=[]))
 (h:bR P r N0 c Q ⟨s.n,(k,.own s.h.length xs)::s.t,s.h++[.front e q xs.length]⟩):bR P r N0 c Q s:=by
 constructor
 intro G w a n m z;have p:ee G.S w (a.tmps.getD k undef) (.sl xs)/\∃A,a.tmps.getD k undef= .slice A xs.length xs.length:=by
  have b:=m.tmp k;revert b;generalize a.tmps.getD k undef=u;intro b;rcases g with g|⟨g,rfl⟩
  ·rw[g]at b;cases b with|full _ p E=>exact⟨p,E⟩
  ·rw[g]at b;rw[b.val];exact⟨HA,none,rfl⟩
 obtain⟨x,B,F,J⟩:=Tw m.inv p.1 p.2 e q;have L:dx (G.jl (a.tmps.getD k undef) xs.length) w a ⟨s.n,(k,.own s.h.length xs)::s.t,s.h++[.front e q xs.length]⟩:=by
  refine⟨m.size,λi=> ?_,F,m.df.keep x⟩;show aQ _ _ _ (bP ((k,.own s.h.length xs)::s.t) i);rw[mE];split;{next e=>exact e▸J};{exact(m.tmp i).keep x B}
 exact wpIn_mono (h.run _ w a n L (Zc z B)) λ_ _ _ M=>M.trans (x.less z)
end
def Xu{G:Gh}{w:Zy}{h:I ar}{b:Nat}{cs cM:I AV}(hi:cu G w h)(g:h[b]?=some (.cells cs))(v:cM.length=cs.length)
 (A:∀(d:Array kd)(T:TypeId),w.heap[G.bg b]?=some (.cells d T (0,0))->∀(i:Nat)(u:kd)(c:AV),d[i]?=some u->cM[i]?=some c->aQ G w u c):cu G w (h.set b (ar.cells cM)):=by
 have q:∀n,cr (h.set b (ar.cells cM)) G n=cr h G n:=λn=>by
  have p:=(Zo.1 g).1;unfold cr;by_cases e:b=n;{subst e;rw[ZC p,g];rfl};{rw[ZD e]}
 refine⟨by rw[ZJ];exact hi.len,hi.z,hi.S,λn B k=> ?_,λm n x E F=>hi.inj m n x (by rw[<-q];exact E) (by rw[<-q];exact F),hi.gl⟩;have p:=(Zo.1 g).1;by_cases e:b=n
 ·subst e;rw[ZC p]at k;cases k
  obtain⟨J,L,d,T,t,M,_⟩:=hi.dM _ _ g;exact⟨J,L,d,T,t,M.trans v.symm,A d T t⟩
 ·rw[ZD e]at k;exact hi.dM n B k
def Tp{P:dg}{r:U Nat}{N0:Nat}{s:St}{Q:Exit->St->Prop}{c:Code}(b i:Nat)(e:TypeId)(z:Nat)(xs:I (I D)){cs:I AV}(B:s.h[b]?=some (.cells cs))(g:cs[i]?=some (.full xs)\/(cs[i]?=some (.d (.v (.slice none 0 0)))/\xs=[]))
 (h:bR P r N0 c Q ⟨s.n,s.t,(s.h++[ar.front e z xs.length]).set b (ar.cells (cs.set i (AV.own s.h.length xs)))⟩):bR P r N0 c Q s:=by
 constructor
 intro G w a n m M;obtain⟨h1,h2,k,T,h3,h4,E⟩:=m.inv.dM _ _ B;have hi:i<cs.length:=by rcases g with g|⟨g,_⟩<;>exact(Zo.1 g).1
 have F:k[i]?=some k[i]:=ZM (by omega);have p:ee G.S w k[i] (.sl xs)/\∃A,k[i]= .slice A xs.length xs.length:=by
  rcases g with g|⟨g,rfl⟩
  ·have:=E i _ _ F g;generalize k[i]=u at this;cases this with|full _ p hf=>exact⟨p,hf⟩
  ·have:=E i _ _ F g;rw[this.val];exact⟨HA,none,rfl⟩
 obtain⟨q,J,a3,a4⟩:=Tw m.inv p.1 p.2 e z;have aV:=(Zo.1 B).1;have cZ:dx (G.jl k[i] xs.length) w a ⟨s.n,s.t,(s.h++[ar.front e z xs.length]).set b (ar.cells (cs.set i (AV.own s.h.length xs)))⟩:=by
  refine⟨m.size,λj=>(m.tmp j).keep q J,Xu a3 (by rw[ZX aV];exact B) (by rw[ZJ]) λgQ T' R j u c L x=> ?_,m.df.keep q⟩;have e1:(G.jl k[i] xs.length).bg b=G.bg b:=by
   have:b≠G.N:=by have:=m.inv.len;omega
   simp [Gh.jl]
  rw[e1,h3]at R;cases R
  by_cases W:i=j
  ·subst W;rw[ZC hi]at x;cases x
   rw[F]at L;cases L
   exact a4
  ·rw[ZD W]at x;exact(E j u c L x).keep q J
 exact wpIn_mono (h.run _ w a n cZ (Zc M J)) λ_ _ _ hn=>hn.trans (q.less M)
def AV.Le(x y:AV):Prop:=∀(G:Gh)(w:Zy)(u:kd),aQ G w u x->aQ G w u y
def AV.Le.refl(x:AV):AV.Le x x:=λ_ _ _ h=>h
def AV.Le.full(xs:I (I D)):AV.Le (.full xs) (.d (.sl xs)):=λ_ _ _ h=>by
 cases h with|full _ b _=>exact .d b
def AV.Le.nil:AV.Le (.d (.v (.slice none 0 0))) (.d (.sl [])):=λ_ _ _ h=>by
 rw[h.val];exact .d HA
def AV.Le.agg{cs b:I AV}(g:cs.length=b.length)(h:∀(i:Nat)(c d:AV),cs[i]?=some c->b[i]?=some d->AV.Le c d):AV.Le (.agg cs) (.agg b):=λG w u p=>by
 cases p with
 |agg q _ t v=>
  refine .agg q b (t.trans g) λi u d e k=> ?_;have m:i<cs.length:=by rw[g];exact(Zo.1 k).1
  exact h i _ d (Ze m) k G w u (v i u _ e (Ze m))
set_option linter.unusedSimpArgs false
set_option linter.unusedVariables false
def rn:I Nat->Nat->Nat->Nat
 |[],b,i=>b+i
 |j::_,_,0=>j
 |_::l,b,i+1=>rn l b i
def A9:∀(l:I Nat)(base i:Nat)(j:Nat),l[i]?=some j->rn l base i=j
 |[],_,i,j,h=>by simp at h
 |a::l,base,0,j,h=>by simpa [rn]using h
 |a::l,base,i+1,j,h=>by rw[rn];exact A9 l base i j (by simpa using h)
def J7:∀(l:I Nat)(base i:Nat),l.length<=i->rn l base i=base+(i-l.length)
 |[],base,i,_=>by simp [rn]
 |a::l,base,0,h=>by simp at h
 |a::l,base,i+1,h=>by rw[rn,J7 l base i (by simpa using h)];simp
mutual
def AV.aZ(σ:Nat->Nat):AV->AV
 | .ptr n off=>.ptr (σ n) off
 | .own n xs=>.own (σ n) xs
 | .row n off len cap k=>.row (σ n) off len cap k
 | .mp n=>.mp (σ n)
 | .cU n=>.cU (σ n)
 | .vec n o len L k=>.vec (σ n) o len L k
 | .eH n i j L k=>.eH (σ n) i j L k
 | .agg cs=>.agg (AV.iD σ cs)
 | .bq cs=>.bq (AV.iD σ cs)
 | .fn f cs=>.fn f (AV.iD σ cs)
 | .d x=>.d x
 | .bM xs i off=>.bM xs i off
 | .full xs=>.full xs
 | .hid c=>.hid c
 | .dead=>.dead
def AV.iD(σ:Nat->Nat):I AV->I AV
 |[]=>[]
 |x::l=>x.aZ σ::AV.iD σ l
end
def iG(σ:Nat->Nat):∀l,AV.iD σ l=l.map (AV.aZ σ)
 |[]=>by simp [AV.iD]
 |x::l=>by simp [AV.iD,iG σ l]
def ar.aZ(σ:Nat->Nat):ar->ar
 | .cells c=>.cells (AV.iD σ c)
 | .lp g p as bd c=>.lp g p as bd (AV.iD σ c)
 | .it i c=>.it i (AV.iD σ c)
 | .fM T c=>.fM T (AV.iD σ c)
 | .vec e k c=>.vec e k (c.map (AV.iD σ))
 | .front e k len=>.front e k len
 | .jE e b=>.jE e b
 | .map d=>.map d
 | .jX d=>.jX d
 | .gone=>.gone
def iW:I Nat->I ar->I ar->I ar
 |[],b,h=>h++b
 |_::_,[],h=>h
 |i::l,B::b,h=>iW l b (h.set i B)
structure sN(σ:Nat->Nat)(G G2:Gh):Prop where
 lt:∀n,n<G.N->σ n<G2.N
 bg:∀n,n<G.N->G2.bg (σ n)=G.bg n
 sg:∀n,n<G.N->G2.sg (σ n)=G.sg n
 fl:∀n,n<G.N->G2.fl (σ n)=G.fl n
 ow:∀n,n<G.N->G2.ow (σ n)=G.ow n
 S:∀b o,G2.S b o↔G.S b o
def ee.vS{S S':Nat->Nat->Prop}{w:Zy}(c:∀b o,S b o->S' b o){u:kd}{x:D}(h:ee S w u x):ee S' w u x:=h.keep c (λ_ _ _=>rfl)
def aQ.aZ{σ:Nat->Nat}{G G2:Gh}{w:Zy}(e:sN σ G G2){u:kd}{x:AV}(h:aQ G w u x):aQ G2 w u (x.aZ σ):=by
 have z:∀b o,G.S b o->G2.S b o:=λb o h=>(e.S b o).2 h;have F:∀(g:Array kd)(p:I AV),(∀(i:Nat)(u:kd)(c:AV),g[i]?=some u->p[i]?=some c->aQ G2 w u (c.aZ σ))->∀(i:Nat)(u:kd)(c:AV),g[i]?=some u->(AV.iD σ p)[i]?=some c->aQ G2 w u c:=by
  intro g p q i u c J A;rw[iG,Zs]at A;cases B:p[i]? with
  |none=>rw[B]at A;cases A
  |some x=>rw[B]at A;cases A;exact q i u x J B
 induction h with
 |agg g p t _ q=>rw[AV.aZ];exact .agg g _ (by rw[iG,Zu];exact t) (F g p q)
 |bq g p t _ q=>rw[AV.aZ];exact .bq g _ (by rw[iG,Zu];exact t) (F g p q)
 |fn f g p t _ q=>rw[AV.aZ];exact .fn f g _ (by rw[iG,Zu];exact t) (F g p q)
 |d h=>rw[AV.aZ];exact .d (h.vS z)
 |full E M v=>rw[AV.aZ];exact .full E (M.vS z) v
 |ptr n m h=>rw[AV.aZ,<-e.bg n h];exact .ptr _ m (e.lt n h)
 |row n m len cap k h t hm=>rw[AV.aZ,<-e.bg n h];exact .row _ m len cap k (e.lt n h) t hm
 |mp n h=>rw[AV.aZ,<-e.bg n h];exact .mp _ (e.lt n h)
 |cU n h=>rw[AV.aZ,<-e.bg n h];exact .cU _ (e.lt n h)
 |own n E h M N v=>rw[AV.aZ];exact .own _ E (e.lt n h) (M.vS z) (by rw[e.fl n h];exact N) (by rw[e.fl n h,e.sg n h];exact v)
 |vec n o len L k h R T v=>rw[AV.aZ];exact .vec _ o len L k (e.lt n h) R (by rw[e.fl n h];exact T) (by rw[e.fl n h,e.sg n h];exact v)
 |eH n i j L k h R T v=>rw[AV.aZ];exact .eH _ i j L k (e.lt n h) R (by rw[e.fl n h];exact T) (by rw[e.fl n h,e.sg n h];exact v)
 |bM E i m b o u x B W J=>rw[AV.aZ];exact .bM E i m b o u x B (λj hj=>⟨z _ _ (W j hj).1,(W j hj).2⟩) (λj d hd=>(J j d hd).vS z)
 |hid h h1=>rw[AV.aZ];exact .hid (h.keep z (λ_ _ _=>rfl)) h1
 |dead u=>rw[AV.aZ];exact .dead u
def aQ.uA{σ:Nat->Nat}{G G2:Gh}{w:Zy}(z:sN σ G G2){u:kd}{y:AV}(h:aQ G2 w u y):∀x:AV,x.aZ σ=y->x.aN G.N=true->aQ G w u x:=by
 have R:∀b o,G2.S b o->G.S b o:=λb o h=>(z.S b o).1 h;have lt:∀n,(!cP G.N n)=true->n<G.N:=λn h=>by rw[UA,<-Uq,dS]at h;omega
 have gL:∀(A:Array kd)(E v:I AV),(∀(i:Nat)(u:kd)(c:AV),A[i]?=some u->E[i]?=some c->∀x:AV,x.aZ σ=c->x.aN G.N=true->aQ G w u x)->AV.iD σ v=E->AV.lA G.N v=true->∀(i:Nat)(u:kd)(c:AV),A[i]?=some u->v[i]?=some c->aQ G w u c:=by
  intro A E v J e p i u c hu hc;subst e;rw[oH,Zd]at p;exact J i u (c.aZ σ) hu (by rw[iG,Zs,hc];rfl) c rfl (p c (ZY hc))
 induction h with
 |agg A E M _ J=>
  intro x e p;cases x<;>simp only[AV.aZ,AV.agg.injEq,reduceCtorEq]at e
  next v=>
   rw[AV.aN]at p;exact .agg A v (by rw[M,<-e,iG,Zu]) (gL A E v J e p)
 |bq A E M _ J=>
  intro x e p;cases x<;>simp only[AV.aZ,AV.bq.injEq,reduceCtorEq]at e
  next v=>
   rw[AV.aN]at p;exact .bq A v (by rw[M,<-e,iG,Zu]) (gL A E v J e p)
 |fn f A E M _ J=>
  intro x e p;cases x<;>simp only[AV.aZ,AV.fn.injEq,reduceCtorEq]at e
  next g v=>
   obtain⟨rfl,e⟩:=e;rw[AV.aN]at p;exact .fn _ A v (by rw[M,<-e,iG,Zu]) (gL A E v J e p)
 |d h=>
  intro x e p;cases x<;>simp only[AV.aZ,AV.d.injEq,reduceCtorEq]at e
  next y=>subst e;exact .d (h.vS R)
 |full v hp B=>
  intro x e p;cases x<;>simp only[AV.aZ,AV.full.injEq,reduceCtorEq]at e
  next y=>subst e;exact .full y (hp.vS R) B
 |ptr n T h=>
  intro x e p;cases x<;>simp only[AV.aZ,AV.ptr.injEq,reduceCtorEq]at e
  next m o=>
   obtain⟨F,rfl⟩:=e;rw[AV.aN]at p;have t:=lt _ p;rw[<-F,z.bg _ t];exact .ptr _ _ t
 |row n T len cap k h M hY=>
  intro x e p;cases x<;>simp only[AV.aZ,AV.row.injEq,reduceCtorEq]at e
  next m o l c q=>
   obtain⟨F,rfl,rfl,rfl,rfl⟩:=e;rw[AV.aN]at p;have t:=lt _ p;rw[<-F,z.bg _ t];exact .row _ _ _ _ _ t M hY
 |mp n h=>
  intro x e p;cases x<;>simp only[AV.aZ,AV.mp.injEq,reduceCtorEq]at e
  next m=>
   rw[AV.aN]at p;have t:=lt _ p;rw[<-e,z.bg _ t];exact .mp _ t
 |cU n h=>
  intro x e p;cases x<;>simp only[AV.aZ,AV.cU.injEq,reduceCtorEq]at e
  next m=>
   rw[AV.aN]at p;have t:=lt _ p;rw[<-e,z.bg _ t];exact .cU _ t
 |own n v h hp W B=>
  intro x e p;cases x<;>simp only[AV.aZ,AV.own.injEq,reduceCtorEq]at e
  next m l=>
   obtain⟨F,rfl⟩:=e;rw[AV.aN]at p;have t:=lt _ p;rw[<-F]at W B;exact .own _ _ t (hp.vS R) (by rw[<-z.fl _ t];exact W) (by rw[<-z.fl _ t,<-z.sg _ t];exact B)
 |vec n o len L k h hs hL B=>
  intro x e p;cases x<;>simp only[AV.aZ,AV.vec.injEq,reduceCtorEq]at e
  next m a1 a2 a3 a4=>
   obtain⟨F,rfl,rfl,rfl,rfl⟩:=e;rw[AV.aN]at p;have t:=lt _ p;rw[<-F]at hL B;exact .vec _ _ _ _ _ t hs (by rw[<-z.fl _ t];exact hL) (by rw[<-z.fl _ t,<-z.sg _ t];exact B)
 |eH n i j L k h hs hL B=>
  intro x e p;cases x<;>simp only[AV.aZ,AV.eH.injEq,reduceCtorEq]at e
  next m a1 a2 a3 a4=>
   obtain⟨F,rfl,rfl,rfl,rfl⟩:=e;rw[AV.aN]at p;have t:=lt _ p;rw[<-F]at hL B;exact .eH _ _ _ _ _ t hs (by rw[<-z.fl _ t];exact hL) (by rw[<-z.fl _ t,<-z.sg _ t];exact B)
 |bM v i T b o u y hx tt hu=>
  intro x e p;cases x<;>simp only[AV.aZ,AV.bM.injEq,reduceCtorEq]at e
  next a1 a2 a3=>
   obtain⟨rfl,rfl,rfl⟩:=e;exact .bM _ _ _ b o u y hx (λj hj=>⟨R _ _ (tt j hj).1,(tt j hj).2⟩) (λj d hd=>(hu j d hd).vS R)
 |hid h h1=>
  intro x e p;cases x<;>simp only[AV.aZ,AV.hid.injEq,reduceCtorEq]at e
  next c=>subst e;exact .hid (h.keep R (λ_ _ _=>rfl)) h1
 |dead u=>
  intro x e p;cases x<;>simp only[AV.aZ,reduceCtorEq]at e
  exact .dead u
def V5{σ:Nat->Nat}{G b:Gh}(c:sN σ G b){n:Nat}(d:n<G.N)(B:ar):(B.aZ σ).eZ b (σ n)=B.eZ G n:=by
 cases B<;>simp only[ar.aZ,ar.eZ,c.bg n d,c.ow n d]
def fb.aZ{σ:Nat->Nat}{G G2:Gh}{w:Zy}(d:sN σ G G2){n:Nat}(m:n<G.N){B:ar}(R:∀b,B.eZ G n=some b->¬G2.Z b)(h:fb G w n B):fb G2 w (σ n) (B.aZ σ):=by
 have W:∀b o,¬G.S b o->¬G2.S b o:=λb o h q=>h ((d.S b o).1 q);cases B with
 |gone=>trivial
 |cells cs=>
  obtain⟨L,q,vs,T,v,F,J⟩:=h;rw[ar.aZ];refine⟨by rw[d.bg n m];exact R _ rfl,by rw[d.bg n m];exact λo=>W _ _ (q o),vs,T,by rw[d.bg n m];exact v,by rw[iG,Zu];exact F,λi u c hu t=> ?_⟩;rw[iG,Zs]at t;cases E:cs[i]? with
  |none=>rw[E]at t;cases t
  |some x=>rw[E]at t;cases t;exact(J i u x hu E).aZ d
 |lp ls p as bd cs=>
  obtain⟨L,q,fn,vs,T,v,F,J⟩:=h;rw[ar.aZ];refine⟨by rw[d.bg n m];exact R _ rfl,by rw[d.bg n m];exact λo=>W _ _ (q o),fn,vs,T,by rw[d.bg n m];exact v,by rw[iG,Zu];exact F,λi u c hu t=> ?_⟩;rw[iG,Zs]at t;cases E:cs[i]? with
  |none=>rw[E]at t;cases t
  |some x=>rw[E]at t;cases t;exact(J i u x hu E).aZ d
 |it sn cs=>
  obtain⟨L,q,fn,vs,T,v,F,J⟩:=h;rw[ar.aZ];refine⟨by rw[d.bg n m];exact R _ rfl,by rw[d.bg n m];exact λo=>W _ _ (q o),fn,vs,T,by rw[d.bg n m];exact v,by rw[iG,Zu];exact F,λi u c hu t=> ?_⟩;rw[iG,Zs]at t;cases E:cs[i]? with
  |none=>rw[E]at t;cases t
  |some x=>rw[E]at t;cases t;exact(J i u x hu E).aZ d
 |fM T0 cs=>
  obtain⟨L,q,fn,vs,T,v,F,J⟩:=h;rw[ar.aZ];refine⟨by rw[d.bg n m];exact R _ rfl,by rw[d.bg n m];exact λo=>W _ _ (q o),fn,vs,T,by rw[d.bg n m];exact v,by rw[iG,Zu,d.bg n m];exact F,λi u c hu t=> ?_⟩;rw[iG,Zs]at t;cases E:cs[i]? with
  |none=>rw[E]at t;cases t
  |some x=>rw[E]at t;cases t;exact(J i u x hu E).aZ d
 |map kv=>
  obtain⟨L,q,es,c,v,F⟩:=h;exact⟨by rw[d.bg n m];exact R _ rfl,by rw[d.bg n m];exact λo=>W _ _ (q o),es,c,by rw[d.bg n m];exact v,F.keep (λb o h=>(d.S b o).2 h) (λ_ _ _=>rfl)⟩
 |jX kv=>
  obtain⟨L,q,es,c,v,F⟩:=h;exact⟨by rw[d.bg n m];exact R _ rfl,by rw[d.bg n m];exact λo=>W _ _ (q o),es,c,by rw[d.bg n m];exact v,F.keep (λb o h=>(d.S b o).2 h) (λ_ _ _=>rfl)⟩
 |jE e b=>
  obtain⟨L,hm,q⟩:=h;refine⟨(d.fl n m).trans L,hm,?_⟩;rcases q with⟨q,h0,A,v⟩|⟨g,cap,M,q,v,F,J,h6,h7,h8,h9,aU⟩
  ·exact .inl ⟨(d.ow n m).trans q,h0,A,(d.sg n m).trans v⟩
  ·exact .inr ⟨g,cap,M,(d.ow n m).trans q,(d.sg n m).trans v,R g q,J,h6,h7,h8,λo=>W _ _ (h9 o),aU⟩
 |front e k len=>
  obtain⟨L,hm,q⟩:=h;refine⟨(d.fl n m).trans L,hm,?_⟩;rcases q with⟨q,A,v⟩|⟨g,cap,M,q,v,F,J,h6,h7,h8,h9⟩
  ·exact .inl ⟨(d.ow n m).trans q,A,(d.sg n m).trans v⟩
  ·exact .inr ⟨g,cap,M,(d.ow n m).trans q,(d.sg n m).trans v,R g q,J,h6,h7,h8,λo ho=>W _ _ (h9 o ho)⟩
 |vec e k cs=>
  obtain⟨L,hm,hk,q⟩:=h;rw[ar.aZ];refine⟨by rw[Zu];exact(d.fl n m).trans L,by rw[Zu];exact hm,λc t=> ?_,?_⟩;{obtain⟨x,E,rfl⟩:=UU.1 t;rw[iG,Zu];exact hk x E}
  ·rcases q with⟨q,e2,A,v⟩|⟨g,cap,M,q,v,F,J,h6,h7,h8,h9,aU⟩
   ·exact .inl ⟨(d.ow n m).trans q,by rw[e2];rfl,A,(d.sg n m).trans v⟩
   ·refine .inr ⟨g,cap,M,(d.ow n m).trans q,by rw[Zu];exact(d.sg n m).trans v,R g q,J,by rw[Zu];exact h6,h7,h8,λo=>W _ _ (h9 o),λi j c x u t E hu=> ?_⟩;rw[Zs]at t;cases hy:cs[i]? with
    |none=>rw[hy]at t;cases t
    |some y=>
     rw[hy]at t;cases t
     rw[iG,Zs]at E;cases hw:y[j]? with
     |none=>rw[hw]at E;cases E
     |some z=>rw[hw]at E;cases E;exact(aU i j y z u hy hw hu).aZ d
def fb.uA{σ:Nat->Nat}{G G2:Gh}{w:Zy}(q:sN σ G G2){n:Nat}(z:n<G.N){B:ar}(L:B.aN G.N=true)(M:∀b,B.eZ G n=some b->¬G.Z b)(h:fb G2 w (σ n) (B.aZ σ)):fb G w n B:=by
 have R:∀b o,¬G2.S b o->¬G.S b o:=λb o h d=>h ((q.S b o).2 d);cases B with
 |gone=>trivial
 |cells cs=>
  rw[ar.aZ]at h;obtain⟨E,d,vs,T,m,t,F⟩:=h;rw[q.bg n z]at d m;rw[iG,Zu]at t;simp only[ar.aN,Zd]at L;exact⟨M _ rfl,λo=>R _ _ (d o),vs,T,m,t,λi u c W v=>aQ.uA q (F i u (c.aZ σ) W (by rw[iG,Zs,v];rfl)) c rfl (L c (ZY v))⟩
 |lp ls p as bd cs=>
  rw[ar.aZ]at h;obtain⟨E,d,fn,vs,T,m,t,F⟩:=h;rw[q.bg n z]at d m;rw[iG,Zu]at t;simp only[ar.aN,Zd]at L;exact⟨M _ rfl,λo=>R _ _ (d o),fn,vs,T,m,t,λi u c W v=>aQ.uA q (F i u (c.aZ σ) W (by rw[iG,Zs,v];rfl)) c rfl (L c (ZY v))⟩
 |it sn cs=>
  rw[ar.aZ]at h;obtain⟨E,d,fn,vs,T,m,t,F⟩:=h;rw[q.bg n z]at d m;rw[iG,Zu]at t;simp only[ar.aN,Zd]at L;exact⟨M _ rfl,λo=>R _ _ (d o),fn,vs,T,m,t,λi u c W v=>aQ.uA q (F i u (c.aZ σ) W (by rw[iG,Zs,v];rfl)) c rfl (L c (ZY v))⟩
 |fM T0 cs=>
  rw[ar.aZ]at h;obtain⟨E,d,fn,vs,T,m,t,F⟩:=h;rw[q.bg n z]at d m t;rw[iG,Zu]at t;simp only[ar.aN,Zd]at L;exact⟨M _ rfl,λo=>R _ _ (d o),fn,vs,T,m,t,λi u c W v=>aQ.uA q (F i u (c.aZ σ) W (by rw[iG,Zs,v];rfl)) c rfl (L c (ZY v))⟩
 |map kv=>
  obtain⟨E,d,es,c,m,t⟩:=h;rw[q.bg n z]at d m;exact⟨M _ rfl,λo=>R _ _ (d o),es,c,m,t.keep (λb o h=>(q.S b o).1 h) (λ_ _ _=>rfl)⟩
 |jX kv=>
  obtain⟨E,d,es,c,m,t⟩:=h;rw[q.bg n z]at d m;exact⟨M _ rfl,λo=>R _ _ (d o),es,c,m,t.keep (λb o h=>(q.S b o).1 h) (λ_ _ _=>rfl)⟩
 |jE e b=>
  obtain⟨E,hm,d⟩:=h;rw[q.fl n z]at E;rw[q.ow n z,q.sg n z]at d;refine⟨E,hm,?_⟩;rcases d with⟨d,h0,A,m⟩|⟨g,cap,J,d,m,t,F,h6,h7,h8,h9,aU⟩
  ·exact .inl ⟨d,h0,A,m⟩
  ·exact .inr ⟨g,cap,J,d,m,M g d,F,h6,h7,h8,λo=>R _ _ (h9 o),aU⟩
 |front e k len=>
  obtain⟨E,hm,d⟩:=h;rw[q.fl n z]at E;rw[q.ow n z,q.sg n z]at d;refine⟨E,hm,?_⟩;rcases d with⟨d,A,m⟩|⟨g,cap,J,d,m,t,F,h6,h7,h8,h9⟩
  ·exact .inl ⟨d,A,m⟩
  ·exact .inr ⟨g,cap,J,d,m,M g d,F,h6,h7,h8,λo ho=>R _ _ (h9 o ho)⟩
 |vec e k cs=>
  rw[ar.aZ]at h;obtain⟨E,hm,hk,d⟩:=h;rw[q.fl n z,Zu]at E;rw[Zu]at hm;rw[q.ow n z,q.sg n z,Zu]at d;simp only[ar.aN,Zd]at L;refine⟨E,hm,λc v=> ?_,?_⟩
  ·have:=hk _ (UU.2 ⟨c,v,rfl⟩)
   rwa [iG,Zu]at this
  ·rcases d with⟨d,e2,A,m⟩|⟨g,cap,J,d,m,t,F,h6,h7,h8,h9,aU⟩
   ·exact .inl ⟨d,List.map_eq_nil_iff.1 e2,A,m⟩
   ·refine .inr ⟨g,cap,J,d,m,M g d,F,h6,h7,h8,λo=>R _ _ (h9 o),λi j c x u v hx W=> ?_⟩;exact aQ.uA q (aU i j (AV.iD σ c) (x.aZ σ) u (by rw[Zs,v];rfl) (by rw[iG,Zs,hx];rfl) W) x rfl (L c (ZY v) x (ZY hx))
def Xt:∀(l:I Nat)(Bs h:I ar),l.length<=Bs.length->(iW l Bs h).length=h.length+(Bs.length-l.length)
 |[],Bs,h,_=>by simp [iW]
 |j::l,[],h,b=>by simp at b
 |j::l,B::Bs,h,b=>by rw[iW,Xt l Bs _ (by simpa using b),ZJ];simp
def QZ:∀(l:I Nat)(Bs h:I ar)(n:Nat),l.length<=Bs.length->n<h.length->n ∉ l->(iW l Bs h)[n]?=h[n]?
 |[],Bs,h,n,_,b,_=>by rw[iW,ZX b]
 |j::l,[],h,n,c,_,_=>by simp at c
 |j::l,B::Bs,h,n,c,b,d=>by
  simp only[Za,not_or]at d;rw[iW,QZ l Bs _ n (by simpa using c) (by rw[ZJ];exact b) d.2,ZD (Ne.symm d.1)]
def Xp:∀(l:I Nat)(Bs h:I ar)(i:Nat),l.length<=Bs.length->l.Nodup->(∀j∈l,j<h.length)->i<Bs.length->(iW l Bs h)[rn l h.length i]?=Bs[i]?
 |[],Bs,h,i,_,_,_,e=>by rw[iW,rn,ZI (Yu _ _),Nat.add_sub_cancel_left]
 |j::l,[],h,i,b,_,_,_=>by simp at b
 |j::l,B::Bs,h,0,b,c,d,_=>by
  rw[List.nodup_cons]at c;rw[iW,rn,QZ l Bs _ j (by simpa using b) (by rw[ZJ];exact d j (by simp)) c.1,ZC (d j (by simp))];rfl
 |j::l,B::Bs,h,i+1,b,c,d,e=>by
  rw[List.nodup_cons]at c;have:=Xp l Bs (h.set j B) i (by simpa using b) c.2 (λx g=>by rw[ZJ];exact d x (by simp [g])) (by simpa using e);rw[ZJ]at this;rw[iW,rn,this];simp
def zC(l:I Nat)(base n:Nat):U Nat:=if n∈l then some (l.idxOf n)else if base<=n then some (l.length+(n-base))else none
def SM{l:I Nat}{base:Nat}(c:l.Nodup)(d:∀j∈l,j<base)(i:Nat):zC l base (rn l base i)=some i:=by
 unfold zC;by_cases b:i<l.length;{have e:l[i]?=some l[i]:=Ze b;rw[A9 l base i _ e,ab (List.getElem_mem _),List.Nodup.idxOf_getElem c i b]}
 ·rw[J7 l base i (by omega),ae (λh=>by have:=d _ h;omega),ab (Yu _ _)]
  congr 1;omega
def Rp{l:I Nat}{base n i:Nat}(h:zC l base n=some i):rn l base i=n:=by
 unfold zC at h;split at h
 ·rename_i b
  cases h
  have c:=List.idxOf_lt_length_of_mem b;refine A9 l base _ n ?_;rw[Ze c,List.getElem_idxOf]
 ·split at h
  ·cases h
   rw[J7 _ _ _ (by omega)];omega
  ·cases h
def akX{l:I Nat}{base n:Nat}(h:zC l base n=none):n<base/\n ∉ l:=by
 unfold zC at h;split at h;{cases h}
 ·split at h
  ·cases h
  ·rename_i b c;exact⟨by omega,b⟩
def uk{α:Type}(o:U Nat)(f:Nat->α)(d:α):α:=match o with|some i=>f i|none=>d
def Xn{H:I ar}{l:I Nat}{h:I ar}
 (hd:l.Nodup) (aV:∀j∈l,j<h.length) (hH:∀(i j:Nat),l[i]?=some j->h[j]?=(H[i]?).map (ar.aZ (rn l h.length))) (hk:l.length=H.length)
 (hb:H.all (ar.aN H.length)=true) {G:Gh} {w:Zy} (hi:cu G w h):
 ∃G0:Gh,G0.N=H.length/\cu G0 w H/\sN (rn l h.length) G0 G/\∀(G1:Gh)(w':Zy)(H':I ar),cq H.length G0 w G1 w'->H.length<=G1.N->cu G1 w' H'->
  ∃G2:Gh,cq G.N G w G2 w'/\G.N<=G2.N/\cu G2 w' (iW l (H'.map (ar.aZ (rn l h.length))) h)/\sN (rn l h.length) G1 G2:=by
 obtain⟨σ,J⟩:∃σ,σ=rn l h.length:=⟨_,rfl⟩;rw[<-J]at hH ⊢;have K3:h.length=G.N:=hi.len;obtain⟨own,fu⟩:∃own:Nat->Prop,own=λb=>∃j∈l,cr h G j=some b:=⟨_,rfl⟩;obtain⟨G0,u⟩:∃G0:Gh,G0={N:=H.length,Z:=λb=>b<w.heap.size/\¬own b,S:=G.S,bg:=λi=>G.bg (σ i),sg:=λi=>G.sg (σ i),ow:=λi=>G.ow (σ i),fl:=λi=>G.fl (σ i),M:=G.M}:=⟨_,rfl⟩;have JR:∀i,i<H.length->∃j,l[i]?=some j/\σ i=j/\j∈l:=λi v=>by
  have kQ:i<l.length:=by rw[hk];exact v
  exact⟨l[i],Ze kQ,by rw[J];exact A9 l _ i _ (Ze kQ),List.getElem_mem _⟩
 have pc:sN σ G0 G:=by
  subst u;refine⟨λn E=> ?_,λ_ _=>rfl,λ_ _=>rfl,λ_ _=>rfl,λ_ _=>rfl,λ_ _=>Iff.rfl⟩;obtain⟨j,_,e,hj⟩:=JR n E;rw[e,<-K3];exact aV j hj
 have cJ:G0.N=H.length:=by rw[u]
 have hσH:∀(i:Nat)(B:ar),H[i]?=some B->h[σ i]?=some (B.aZ σ):=λi B c=>by
  obtain⟨j,e1,e2,_⟩:=JR i (Zo.1 c).1;rw[e2,hH i j e1,c];rfl
 have VB:∀(i:Nat)(B:ar)(b:Nat),H[i]?=some B->B.eZ G0 i=some b->cr h G (σ i)=some b:=λi B b c p=>by
  rw[eG (hσH i B c),V5 pc (by rw[cJ];exact(Zo.1 c).1) B];exact p
 have zD:∀(i:Nat)(B:ar)(b:Nat),H[i]?=some B->B.eZ G0 i=some b->¬G0.Z b:=λi B b c p d=>by
  rw[u]at d;refine d.2 ?_;rw[fu];obtain⟨j,_,e2,hj⟩:=JR i (Zo.1 c).1;exact⟨j,hj,by rw[<-e2];exact VB i B b c p⟩
 have alk:∀i i',σ i=σ i'->i=i':=λi i' e=>by
  have g:=SM hd aV i;have R:=SM hd aV i';rw[J]at e;rw[e,R]at g;exact(Zw g).symm
 have uG:cu G0 w H:=by
  refine⟨cJ.symm,λb d=> ?_,λb o q=> ?_,λi B c=> ?_,λm n b g R=> ?_,by rw[u];exact hi.gl⟩;{rw[u]at d;exact d.1};{rw[u]at q;exact hi.S b o q}
  ·have hiN:i<G0.N:=by rw[cJ];exact(Zo.1 c).1
   rw[Zd]at hb;exact fb.uA pc hiN (by rw[cJ];exact hb B (ZY c)) (λb p=>zD i B b c p) (hi.dM (σ i) _ (hσH i B c))
  ·obtain⟨B1,vV,iU⟩:=n9 g;obtain⟨B2,V6,lu⟩:=n9 R;exact alk m n (hi.inj _ _ b (VB m B1 b vV iU) (VB n B2 b V6 lu))
 refine⟨G0,cJ,uG,pc,λG1 w' H' x gU lv=> ?_⟩;have Ey:H'.length=G1.N:=lv.len;obtain⟨t,Et⟩:∃t,t=zC l h.length:=⟨_,rfl⟩;obtain⟨G2,k⟩:∃G2:Gh,G2={N:=G.N+(G1.N-H.length),Z:=G.Z,S:=G1.S,bg:=λn=>uk (t n) G1.bg (G.bg n),sg:=λn=>uk (t n) G1.sg (G.sg n),ow:=λn=>uk (t n) G1.ow (G.ow n),fl:=λn=>uk (t n) G1.fl (G.fl n),M:=G.M}:=⟨_,rfl⟩;have OL:∀i,t (σ i)=some i:=λi=>by rw[Et,J];exact SM hd aV i
 have Mi:∀i,H.length<=i->σ i=G.N+(i-H.length):=λi lq=>by rw[J,J7 l _ i (by omega),K3,hk]
 have asI:∀i,i<H.length->σ i<G.N:=λi Ow=>by
  obtain⟨j,_,e,hj⟩:=JR i Ow;rw[e,<-K3];exact aV j hj
 have QH:sN σ G1 G2:=by
  subst k;refine⟨λn E=> ?_,λn _=>by simp only[OL];rfl,λn _=>by simp only[OL];rfl,λn _=>by simp only[OL];rfl,λn _=>by simp only[OL];rfl,λ_ _=>Iff.rfl⟩;show σ n<G.N+(G1.N-H.length);by_cases fO:n<H.length;{have:=asI n fO;omega};{rw[Mi n (by omega)];omega}
 have hZ1:∀b,G0.Z b->G1.Z b:=x.Z.1.1;have S6:∀b,G.Z b->G0.Z b:=λb d=>by
  rw[u];refine⟨hi.z b d,λL=> ?_⟩;rw[fu]at L;obtain⟨j,_,L⟩:=L;obtain⟨B,c,p⟩:=n9 L;exact(hi.dM j B c).mz p d
 have kD:cq G.N G w G2 w':=by
  refine⟨x.size,λb o q=> ?_,λb o q=> ?_,λn E=> ?_,λn E=> ?_,iX (by rw[k]) (by rw[k]),λb d=>x.old b (S6 b d),x.os,x.tape,x.output,λb o q=> ?_⟩;{rw[k];exact x.S b o (by rw[u];exact q)};{exact x.cell b o (by rw[u];exact q)}
  ·rw[k];show uk (t n) G1.bg (G.bg n)=G.bg n;cases A:t n with
   |none=>rfl
   |some i=>
    have e:σ i=n:=by rw[J];rw[Et]at A;exact Rp A
    have v:i<H.length:=Nat.lt_of_not_le λlq=>by rw[Mi i lq]at e;omega
    show G1.bg i=G.bg n;rw[x.bg i v,u,<-e]
  ·rw[k];show(uk (t n) G1.fl (G.fl n)=G.fl n/\uk (t n) G1.sg (G.sg n)=G.sg n)\/G.fl n<uk (t n) G1.fl (G.fl n);cases A:t n with
   |none=>exact .inl ⟨rfl,rfl⟩
   |some i=>
    have e:σ i=n:=by rw[J];rw[Et]at A;exact Rp A
    have v:i<H.length:=Nat.lt_of_not_le λlq=>by rw[Mi i lq]at e;omega
    have:=x.fr i v;rw[u]at this;simp only[e]at this;exact this
  ·rw[k]at q;rcases x.new b o q with g|g
   ·rw[u]at g;exact .inl g
   ·exact .inr λd=>g (S6 b d)
 have T:(iW l (H'.map (ar.aZ σ)) h).length=G2.N:=by
  rw[Xt _ _ _ (by rw[Zu,hk,Ey];omega),Zu,Ey,hk,K3,k]
 have ahp:∀i,i<G1.N->(iW l (H'.map (ar.aZ σ)) h)[σ i]?=(H'[i]?).map (ar.aZ σ):=λi v=>by
  rw[<-Zs,J];exact Xp l _ h i (by rw[Zu,hk,Ey];omega) hd aV (by rw[Zu,Ey];exact v)
 have Kn:∀(n:Nat)(B:ar),(iW l (H'.map (ar.aZ σ)) h)[n]?=some B->(∃i B',i<G1.N/\n=σ i/\H'[i]?=some B'/\B=B'.aZ σ)\/(t n=none/\n ∉ l/\h[n]?=some B):=λn B c=>by
  have ac6:n<G2.N:=by rw[<-T];exact(Zo.1 c).1
  cases A:t n with
  |none=>
   rw[Et]at A;obtain⟨g,R⟩:=akX A;exact .inr ⟨rfl,R,by rw[<-QZ l (H'.map (ar.aZ σ)) h n (by rw[Zu,hk,Ey];omega) g R];exact c⟩
  |some i=>
   have e:σ i=n:=by rw[J];rw[Et]at A;exact Rp A
   have v:i<G1.N:=Nat.lt_of_not_le λlq=>by
    rw[Mi i (by omega)]at e;rw[k]at ac6;have:n<G.N+(G1.N-H.length):=ac6;omega
   rw[<-e,ahp i v]at c;cases hx:H'[i]? with
   |none=>rw[hx]at c;cases c
   |some B'=>rw[hx]at c;cases c;exact .inl ⟨i,B',v,e.symm,hx,rfl⟩
 have W:∀(n b:Nat),n ∉ l->cr h G n=some b->G0.Z b:=λn b E p=>by
  rw[u];refine⟨hi.iO p,λL=> ?_⟩;rw[fu]at L;obtain⟨j,hj,L⟩:=L;exact E ((hi.inj n j b p L)▸hj)
 have Gx:∀(n b:Nat),cr (iW l (H'.map (ar.aZ σ)) h) G2 n=some b->(∃i,n=σ i/\cr H' G1 i=some b/\¬G0.Z b)\/(n ∉ l/\cr h G n=some b/\G0.Z b):=λn b p=>by
  obtain⟨B,c,iU⟩:=n9 p;rcases Kn n B c with⟨i,B',v,rfl,F,rfl⟩|⟨A,E,F⟩
  ·rw[V5 QH v]at iU;exact .inl ⟨i,rfl,(eG F).trans iU,λd=>(lv.dM i B' F).mz iU (hZ1 _ d)⟩
  ·have e:B.eZ G2 n=B.eZ G n:=by
    subst k;cases B<;>simp only[ar.eZ,A,uk]
   have:=(eG F).trans (e▸iU);exact .inr ⟨E,this,W n b E this⟩
 refine⟨G2,kD,by rw[k];exact Yu _ _,⟨T,λb d=> ?_,λb o q=> ?_,λn B c=> ?_,λm n b g R=> ?_,hi.gl.keep kD⟩,QH⟩;{rw[k]at d;exact ZU (hi.z b d) x.size};{rw[k]at q;exact lv.S b o q}
 ·rcases Kn n B c with⟨i,B',v,rfl,F,rfl⟩|⟨A,E,F⟩
  ·refine fb.aZ QH v (λb p d=> ?_) (lv.dM i B' F);have:=(lv.dM i B' F).mz p;rw[k]at d;exact this (hZ1 b (S6 b d))
  ·have pN:n<G.N:=by rw[<-hi.len];exact(Zo.1 F).1
   refine fb.keep pN kD (by rw[k];exact Yu _ _) (by rw[k];simp only[A];exact⟨rfl,rfl,rfl⟩) (λb p=> ?_) (hi.dM n B F);have d:=W n b E ((eG F).trans p);refine⟨x.old b d,λo kE q=> ?_⟩;rw[k]at q;rcases x.new b o q with g|g
   ·rw[u]at g;exact kE g
   ·exact g d
 ·rcases Gx m b g with⟨i,rfl,a1,a2⟩|⟨a0,a1,a2⟩<;>rcases Gx n b R with⟨j,rfl,b1,b2⟩|⟨b0,b1,b2⟩
  ·rw[lv.inj i j b a1 b1]
  ·exact absurd b2 a2
  ·exact absurd a2 b2
  ·exact hi.inj m n b a1 b1
def dt.afC{P:dg}{f:FuncId}{args:I AV}{H:I ar}{K:AV->I ar->Prop}(d:dt P f args H K){l:I Nat}{h:I ar}
 (t:l.Nodup) (x:∀j∈l,j<h.length) (z:∀(i j:Nat),l[i]?=some j->h[j]?=(H[i]?).map (ar.aZ (rn l h.length))) (A:l.length=H.length)
 (g:args.all (AV.aN H.length)=true) (B:H.all (ar.aN H.length)=true):
 dt P f (args.map (AV.aZ (rn l h.length))) h λE h'=>∃r H',K r H'/\E=r.aZ (rn l h.length)/\h'=iW l (H'.map (ar.aZ (rn l h.length))) h:=by
 refine⟨d.1,λG w F J L b=> ?_⟩;obtain⟨M,k,N,R,S⟩:=Xn t x z A B J;refine(d.2 M w F N (by rw[L,Zu]) λi u c T m=> ?_).mono λe W hp=> ?_
 ·rw[Zd]at g;exact aQ.uA R (b i u (c.aZ (rn l h.length)) T (by rw[Zs,m];rfl)) c rfl (by rw[k];exact g c (ZY m))
 ·obtain⟨v,G1,r,H',rfl,p,q,lv,hv,hK⟩:=hp;rw[k]at q p;obtain⟨G2,e1,e2,e3,e4⟩:=S G1 W H' p q lv;exact⟨v,G2,r.aZ _,_,rfl,e1,e2,e3,hv.aZ e4,r,H',hK,rfl,rfl⟩
mutual
def D0{σ τ:Nat->Nat}{k:Nat}(h:∀i,i<k->σ i=τ i):∀x:AV,x.aN k=true->x.aZ σ=x.aZ τ
 | .ptr n off,hb=>by rw[AV.aN]at hb;rw[AV.aZ,AV.aZ,h n (by rw[UA,<-Uq,dS]at hb;omega)]
 | .own n xs,hb=>by rw[AV.aN]at hb;rw[AV.aZ,AV.aZ,h n (by rw[UA,<-Uq,dS]at hb;omega)]
 | .row n off len cap q,hb=>by rw[AV.aN]at hb;rw[AV.aZ,AV.aZ,h n (by rw[UA,<-Uq,dS]at hb;omega)]
 | .mp n,hb=>by rw[AV.aN]at hb;rw[AV.aZ,AV.aZ,h n (by rw[UA,<-Uq,dS]at hb;omega)]
 | .cU n,hb=>by rw[AV.aN]at hb;rw[AV.aZ,AV.aZ,h n (by rw[UA,<-Uq,dS]at hb;omega)]
 | .vec n o len L q,hb=>by rw[AV.aN]at hb;rw[AV.aZ,AV.aZ,h n (by rw[UA,<-Uq,dS]at hb;omega)]
 | .eH n i j L q,hb=>by rw[AV.aN]at hb;rw[AV.aZ,AV.aZ,h n (by rw[UA,<-Uq,dS]at hb;omega)]
 | .agg cs,hb=>by rw[AV.aN]at hb;rw[AV.aZ,AV.aZ,uB h cs hb]
 | .bq cs,hb=>by rw[AV.aN]at hb;rw[AV.aZ,AV.aZ,uB h cs hb]
 | .fn f cs,hb=>by rw[AV.aN]at hb;rw[AV.aZ,AV.aZ,uB h cs hb]
 | .d x,_=>by rw[AV.aZ,AV.aZ]
 | .bM xs i off,_=>by rw[AV.aZ,AV.aZ]
 | .full xs,_=>by rw[AV.aZ,AV.aZ]
 | .hid c,_=>by rw[AV.aZ,AV.aZ]
 | .dead,_=>by rw[AV.aZ,AV.aZ]
def uB{σ τ:Nat->Nat}{k:Nat}(h:∀i,i<k->σ i=τ i):∀l:I AV,AV.lA k l=true->AV.iD σ l=AV.iD τ l
 |[],_=>by rw[AV.iD,AV.iD]
 |x::l,hb=>by
  rw[AV.lA,Zr]at hb;rw[AV.iD,AV.iD,D0 h x hb.1,uB h l hb.2]
end
def Wz{σ τ:Nat->Nat}{k:Nat}(h:∀i,i<k->σ i=τ i)(B:ar)(d:B.aN k=true):B.aZ σ=B.aZ τ:=by
 cases B with
 |cells b=>rw[ar.aZ,ar.aZ,uB h b (by rw[oH];exact d)]
 |lp m p as t b=>rw[ar.aZ,ar.aZ,uB h b (by rw[oH];exact d)]
 |it u b=>rw[ar.aZ,ar.aZ,uB h b (by rw[oH];exact d)]
 |fM v b=>rw[ar.aZ,ar.aZ,uB h b (by rw[oH];exact d)]
 |vec e q b=>
  rw[ar.aZ,ar.aZ]
  congr 1
  refine Z8 λc g=>uB h c ?_;simp only[ar.aN,Zd]at d;rw[oH,Zd];exact d c g
 |_=>rfl
def Xm:∀(l:I Nat)(b c i:Nat),i<l.length->rn l b i=rn l c i
 |[],b,c,i,h=>by simp at h
 |a::l,b,c,0,_=>by rw[rn,rn]
 |a::l,b,c,i+1,h=>by rw[rn,rn];exact Xm l b c i (by simpa using h)
def qQ:I Nat->Bool
 |[]=>true
 |a::l=> !l.any (·==a)&&qQ l
def Xl:∀{l:I Nat},qQ l=true->l.Nodup
 |[],_=>List.nodup_nil
 |a::l,h=>by
  rw[qQ,Zr,UA,<-Uq]at h;rw[List.nodup_cons];exact⟨λb=>h.1 (List.any_eq_true.2 ⟨a,b,by simp⟩),Xl h.2⟩
def Yp:∀(l:I Nat)(h Bs:I ar),l.map (λj=>h[j]?)=Bs.map some->iW l Bs h=h
 |[],h,Bs,e=>by
  cases Bs with
  |nil=>rw[iW,ZV]
  |cons=>simp at e
 |j::l,h,Bs,e=>by
  cases Bs with
  |nil=>simp at e
  |cons B Bs=>
   rw[ZS,ZS]at e;injection e with b d;have g:h.set j B=h:=by
     refine List.ext_getElem? λm=> ?_;by_cases c:j=m
     ·subst c;rw[ZC (Zo.1 b).1,b]
     ·rw[ZD c]
   rw[iW,g];exact Yp l h Bs d
section
variable {P:dg} {f:FuncId} {fJ:I AV} {H:I ar} {l:I Nat} {h:I ar}
def Xk{l:I Nat}{h H:I ar}{σ:Nat->Nat}(d:l.map (λj=>h[j]?)=H.map λB=>some (B.aZ σ)):l.length=H.length/\(∀j∈l,j<h.length)/\∀(i j:Nat),l[i]?=some j->h[j]?=(H[i]?).map (ar.aZ σ):=by
 have g:l.length=H.length:=by simpa using congrArg List.length d
 have b:∀(i j:Nat),l[i]?=some j->∃B,H[i]?=some B/\h[j]?=some (B.aZ σ):=λi j e=>by
  have k:i<H.length:=by rw[<-g];exact(Zo.1 e).1
  have:=congrArg (·[i]?) d;simp only[Zs,e,Ze k,a6,UW]at this;exact⟨_,Ze k,this⟩
 refine⟨g,λj m=> ?_,λi j e=> ?_⟩;{obtain⟨i,p⟩:=List.mem_iff_getElem?.1 m;obtain⟨B,_,c⟩:=b i j p;exact(Zo.1 c).1};{obtain⟨B,c,q⟩:=b i j e;rw[c,q];rfl}
def dt.pH{r:AV}{H':I ar}(d:dt P f fJ H λb h1=>b=r/\h1=H')(e:qQ l=true)(g:l.map (λj=>h[j]?)=H.map λB=>some (B.aZ (rn l h.length)))(c:(fJ.all (AV.aN H.length)&&H.all (ar.aN H.length))=true):
 dt P f (fJ.map (AV.aZ (rn l h.length))) h λb h1=>b=r.aZ (rn l h.length)/\h1=iW l (H'.map (ar.aZ (rn l h.length))) h:=by
 rw[Zr]at c;obtain⟨h1,i,k⟩:=Xk g;exact(d.afC (Xl e) i k h1 c.1 c.2).mono λb h1 ⟨u,v,⟨m,p⟩,q,t⟩=>by subst m;subst p;exact⟨q,t⟩
def dt.rq{r:AV}(q:dt P f fJ H λb h1=>b=r/\h1=H)(t:qQ l=true)(k:l.map (λj=>h[j]?)=H.map λB=>some (B.aZ (rn l 0)))(m:(fJ.all (AV.aN H.length)&&H.all (ar.aN H.length)&&r.aN H.length)=true)(e:I ar):
 dt P f (fJ.map (AV.aZ (rn l 0))) (h++e) λb h1=>b=r.aZ (rn l 0)/\h1=h++e:=by
 rw[Zr,Zr]at m;obtain⟨⟨c,d⟩,u⟩:=m;obtain⟨h1,v,_⟩:=Xk k;have g:∀i,i<H.length->rn l (h++e).length i=rn l 0 i:=λi z=>Xm l _ _ i (by rw[h1];exact z);have A:H.map (λB=>some (B.aZ (rn l (h++e).length)))=H.map λB=>some (B.aZ (rn l 0)):=by
   refine Z8 λB E=> ?_;rw[Zd]at d;rw[Wz g B (d B E)]
 have p:l.map (λj=>(h++e)[j]?)=H.map λB=>some (B.aZ (rn l (h++e).length)):=by
  rw[A,<-k];refine Z8 λj F=> ?_;rw[ZX (v j F)]
 have:=q.pH t p (by rw[c,d];rfl);have J:fJ.map (AV.aZ (rn l (h++e).length))=fJ.map (AV.aZ (rn l 0)):=by
  refine Z8 λx L=> ?_;rw[Zd]at c;exact D0 g x (c x L)
 rw[J,D0 g r u]at this;refine this.mono λb h1 ⟨M,N⟩=>⟨M,?_⟩;rw[N];refine Yp l _ _ ?_;rw[p,List.map_map];rfl
end
end Go.Proofs.YtnnapanbbbcalaaGreatDoor
