/-
  Part 2 of the proof: AbsLeave, AbsLoop, AbsZero, AbsIter, AbsCode, AbsWalk, GrowF, AbsDraw, AbsFrame.
-/
import Derived.Test.YtnnapanbbbcalaaGreatDoorPd1
import Derived.Lib.AppendZeros
import Derived.Maps.RangeRun
set_option linter.defProp false
namespace Go.Proofs.YtnnapanbbbcalaaGreatDoor
open Go.RowKit
def aO.zm{G:Gh}{w:Zz}{u:kd}{x:AV}(Z:Nat->Prop)(M:Nat)(h:aO G w u x):aO {G with Z:=Z,M:=M} w u x:=by
 induction h with
 |agg m p e _ q=>exact .agg m p e q
 |bn m p e _ q=>exact .bn m p e q
 |fn f m p e _ q=>exact .fn f m p e q
 |own n t h v z g=>exact .own n t h v z g
 |ptr n c h=>exact .ptr (G:={G with Z:=Z,M:=M}) n c h
 |row n c len cap k h e E=>exact .row (G:={G with Z:=Z,M:=M}) n c len cap k h e E
 |mp n h=>exact .mp (G:={G with Z:=Z,M:=M}) n h
 |cF n h=>exact .cF (G:={G with Z:=Z,M:=M}) n h
 |vec n o len L k h A B g=>exact .vec (G:={G with Z:=Z,M:=M}) n o len L k h A B g
 |eC n i j L k h A B g=>exact .eC (G:={G with Z:=Z,M:=M}) n i j L k h A B g
 |hid h F=>exact .hid h F
 |d h=>exact .d h
 |bK t i c b o u x J N R=>exact .bK t i c b o u x J N R
 |full t v g=>exact .full t v g
 |dead u=>exact .dead u
def e8.zm{G:Gh}{w:Zz}{n:Nat}{B:ar}(Z:Nat->Prop)(M:Nat)(A:∀b,Z b->G.Z b)(h:e8 G w n B):e8 {G with Z:=Z,M:=M} w n B:=by
 cases B with
 |gone=>trivial
 |cells R=>
  obtain⟨m,d,J,T,q,t,v⟩:=h;exact⟨λk=>m (A _ k),d,J,T,q,t,λi u c E F=>(v i u c E F).zm Z M⟩
 |lp ls p as bd R=>
  obtain⟨m,d,L,J,T,q,t,v⟩:=h;exact⟨λk=>m (A _ k),d,L,J,T,q,t,λi u c E F=>(v i u c E F).zm Z M⟩
 |it sn R=>
  obtain⟨m,d,L,J,T,q,t,v⟩:=h;exact⟨λk=>m (A _ k),d,L,J,T,q,t,λi u c E F=>(v i u c E F).zm Z M⟩
 |fG T0 R=>
  obtain⟨m,d,L,J,T,q,t,v⟩:=h;exact⟨λk=>m (A _ k),d,L,J,T,q,t,λi u c E F=>(v i u c E F).zm Z M⟩
 |map W=>
  obtain⟨m,d,S,c,q,t⟩:=h;exact⟨λk=>m (A _ k),d,S,c,q,t⟩
 |jx W=>
  obtain⟨m,d,S,c,q,t⟩:=h;exact⟨λk=>m (A _ k),d,S,c,q,t⟩
 |front e k len=>
  obtain⟨m,N,d⟩:=h;refine⟨m,N,?_⟩;rcases d with d|⟨g,cap,z,d,q,t,v⟩
  ·exact .inl d
  ·exact .inr ⟨g,cap,z,d,q,λk=>t (A _ k),v⟩
 |jq e b2=>
  obtain⟨m,N,d⟩:=h;refine⟨m,N,?_⟩;rcases d with d|⟨g,cap,z,d,q,t,v⟩
  ·exact .inl d
  ·exact .inr ⟨g,cap,z,d,q,λk=>t (A _ k),v⟩
 |vec e k R=>
  obtain⟨m,N,hk,d⟩:=h;refine⟨m,N,hk,?_⟩;rcases d with d|⟨g,cap,z,d,q,t,v,h6,h7,h8,h9,aX⟩
  ·exact .inl d
  ·exact .inr ⟨g,cap,z,d,q,λk=>t (A _ k),v,h6,h7,h8,h9,λi j c x u F hx E=>(aX i j c x u F hx E).zm Z M⟩
def Ki{h:I ar}{G:Gh}{n:Nat}(Z:Nat->Prop)(M:Nat):ct h {G with Z:=Z,M:=M} n=ct h G n:=by
 unfold ct;cases h[n]? with
 |none=>rfl
 |some B=>cases B<;>rfl
def cu.zm{G:Gh}{w:Zz}{h:I ar}(hi:cu G w h)(Z:Nat->Prop)(M:Nat)(c:∀b,Z b->G.Z b)(d:M<=w.heap.size):cu {G with Z:=Z,M:=M} w h:=
 ⟨hi.len,λb e=>hi.z b (c b e),hi.S,λn B g=>(hi.dJ n B g).zm Z M c,λm n b i k=>hi.inj m n b (by rw[<-Ki Z M];exact i) (by rw[<-Ki Z M];exact k),⟨hi.gl.1,d⟩⟩
def sm(l:I Nat)(w:Zz):Zz:=l.foldl (λw D=>w.putObj D (.deferred none)) w
def Xx:∀(l:I Nat)(w:Zz),(∀D∈l,w.heap[D]?=some (.deferred (some [])))->l.Nodup->
 (sm l w).heap.size=w.heap.size/\(∀b,b ∉ l->(sm l w).heap[b]?=w.heap[b]?)/\(∀b o,(sm l w).cell? ⟨b,o,none⟩=w.cell? ⟨b,o,none⟩)/\(sm l w).os=w.os/\(sm l w).tape=w.tape/\(sm l w).output=w.output
 |[],w,_,_=>⟨rfl,λ_ _=>rfl,λ_ _=>rfl,rfl,rfl,rfl⟩
 |D::l,w,d,c=>by
  rw[List.nodup_cons]at c;have g:=d D Zl;have m:=(ZT.1 g).1;obtain⟨p,q,t,u,v,x⟩:=Xx l (w.putObj D (.deferred none)) (λE i=>by
    have z:E≠D:=λe=>c.1 (e▸i);rw[World.putObj_heap_other z];exact d E (Zg _ i)) c.2
  refine⟨p.trans (by simp),λb k=> ?_,λb o=> ?_,u,v,x⟩;{exact(q b λh=>k (Zg _ h)).trans (World.putObj_heap_other λe=>k (e▸Zl))}
  ·refine(t b o).trans ?_;by_cases e:b=D
   ·subst e;unfold World.cell?;simp only[World.putObj_heap_same m,g]
   ·exact World.cell?_of_block (World.putObj_heap_other e)
def WG{F:Fence}{n:Nat}{P:dg}{fn:Func}{tmps:Array kd}{R:Ending->Zz->Prop}:∀(l:I Nat)(w:Zz),(∀D∈l,w.heap[D]?=some (.deferred (some [])))->l.Nodup->
 LeavesIn F n P fn tmps R [] .returning (sm l w)->LeavesInM F n P fn tmps R (l.map λD=>{target:= .collected D,args:= #[]}) .returning w
 |[],w,_,_,h=>h
 |D::l,w,c,b,h=>by
  rw[List.nodup_cons]at b;exact⟨by simp,.inl ⟨D,_,rfl,run_takeDeferred (c D Zl),WG l _ (λE d=>by
    have g:E≠D:=λe=>b.1 (e▸d);rw[World.putObj_heap_other g];exact c E (Zg _ d)) b.2 h⟩⟩
def asd{N0:Nat}{G G1:Gh}{w w':Zz}{a':Act}{s1:St}(c:cn N0 {G with M:=w.heap.size} w G1 w')(T:N0<=G1.N)(W:∀b,G.Z b->b<w.heap.size)(q:G.M<=w.heap.size)(k:dx G1 w' a' s1):
 ∃(m:Zz)(G2:Gh),(∀(F:Fence)(n:Nat)(P:dg)(fn:Func)(R:Ending->Zz->Prop),(∃v,(results fn a'.tmps).run P m= .ok v m/\R (.returned v) m)->LeavesInM F n P fn a'.tmps R a'.defers .returning w')/\
  cn N0 G w G2 m/\G2.N=G1.N/\dx G2 m {a' with defers:=[]} s1:=by
 obtain⟨l,E,l2,t⟩:=k.df;have J:∀D∈l,w'.heap[D]?=some (.deferred (some [])):=λD hD=>(t D hD).2.2;obtain⟨u,L,h3,h4,h5,h6⟩:=Xx l w' J E;have hM:G1.M=w.heap.size:=c.Z.2;have kH:∀b,G.Z b->b ∉ l:=λb d x=>by
  have:=(t b x).1;have:=W b d;omega
 obtain⟨G2,e⟩:∃G2:Gh,G2={G1 with Z:=G.Z,M:=G.M}:=⟨_,rfl⟩;have vr:∀b,G.Z b->G1.Z b:=c.Z.1.1;have g:cu G2 w' s1.h:=by rw[e];exact k.inv.zm _ _ vr (Za q c.size)
 have iZ:cn N0 G w G2 w':=by
  rw[e];exact⟨c.size,c.S,c.cell,c.aZ,c.fr,iO rfl,c.old,c.os,c.tape,c.output,c.new⟩
 have p:cn G2.N G2 w' G2 (sm l w'):=⟨by rw[u];exact Zr _,λ_ _ h=>h,λb o _=>h3 b o,λ_ _=>rfl,λ_ _=>.inl ⟨rfl,rfl⟩,iO rfl,λb d=>L b (kH b (by rw[e]at d;exact d)),h4,h5,h6,λ_ _ h=>.inl h⟩;have Lq:cu G2 (sm l w') s1.h:=⟨g.len,λb d=>by rw[u];exact g.z b d,λb o d=>by rw[u];exact g.S b o d,λn B A=>e8.keep (g.lt A) p (Zr _) ⟨rfl,rfl,rfl⟩ (λb d=>⟨L b λx=>(k.inv.dJ n B A).my (by rw[e]at d;cases B<;>exact d) (t b x).2.1,λ_ h=>h⟩) (g.dJ n B A),g.inj,g.gl.keep p⟩;refine⟨sm l w',G2,λF n P fn R h=> ?_,iZ.trans (p.less (by rw[e];exact T)),by rw[e],⟨k.size,λi=>aO.keep p (Zr _) (by rw[e];exact(k.tmp i).zm _ _),Lq,tC.nil _ _⟩⟩;rw[l2];exact WG l w' J E h
section
variable {G:Gh} {w:Zz} {h:I ar}
def ahm(hi:cu G w h)(fn:FuncId)(k:Array kd)(D p:Nat)(as g:Code)(cs:I AV)(R:k.size=cs.length)(T:∀(i:Nat)(u:kd)(c:AV),k[i]?=some u->cs[i]?=some c->aO G w u c):cn G.N G w (G.dz w.heap.size) (w.alloc (.loop {state:= .ready,pending:=none,fn:=fn,tmps:=k,params:= #[p],assign:=as,body:=g,defers:=D}))/\cu (G.dz w.heap.size) (w.alloc (.loop {state:= .ready,pending:=none,fn:=fn,tmps:=k,params:= #[p],assign:=as,body:=g,defers:=D})) (h++[.lp .ready p as g cs])/\aO (G.dz w.heap.size) (w.alloc (.loop {state:= .ready,pending:=none,fn:=fn,tmps:=k,params:= #[p],assign:=as,body:=g,defers:=D})) (.func (.yield w.heap.size) #[] #[]) (.cF h.length):=by
 have q:=uf G w hi.z hi.S (.loop {state:= .ready,pending:=none,fn:=fn,tmps:=k,params:= #[p],assign:=as,body:=g,defers:=D});have L:G.N<=(G.dz w.heap.size).N:=an _;have v:(G.dz w.heap.size).aZ h.length=w.heap.size:=by simp [Gh.dz,hi.len]
 have W:∀n(B:ar),n<G.N->B.eZ (G.dz w.heap.size) n=B.eZ G n:=λn B d=>by
  cases B<;>simp [ar.eZ,Gh.dz,Nat.ne_of_lt d]
 have gn:∀n,n<G.N->ct (h++[.lp .ready p as g cs]) (G.dz w.heap.size) n=ct h G n:=λn d=>by
  have x:n<h.length:=by rw[hi.len];exact d
  unfold ct;rw[ZW x,Zd x];exact W n _ d
 have uk:ct (h++[.lp .ready p as g cs]) (G.dz w.heap.size) h.length=some w.heap.size:=by
  rw[eJ (B:= .lp .ready p as g cs) (by simp)];exact congrArg some v
 refine⟨q,⟨by simp [Gh.dz,hi.len],λb E=>ZU (hi.z b E) q.size,λb o F=>ZU (hi.S b o F) q.size,λn B t=> ?_,λm n b hm d=> ?_,hi.gl.keep q⟩,?_⟩
 ·by_cases d:n<h.length
  ·rw[ZW d]at t;have J:n<G.N:=hi.len▸d;exact e8.keep J q L ⟨rfl,rfl,rfl⟩ (λb E=>⟨Below.heap_alloc w _ _ (hi.iS (n:=n) ((eJ t).trans E)),λo h=>h⟩) (hi.dJ n B t)
  ·have lH:n=h.length:=by
    have:=(Zk.1 t).1;simp at this;omega
   subst lH;simp at t;subst t;exact⟨by rw[v];exact λhz=>Yv _ (hi.z _ hz),λo F=>by rw[v]at F;exact Yv _ (hi.S _ _ F),fn,k,D,by rw[v];exact World.alloc_heap_new w _,R,λi u c hu hc=>(T i u c hu hc).keep q L⟩
 ·have A:∀n b,ct (h++[.lp .ready p as g cs]) (G.dz w.heap.size) n=some b->(n<G.N/\ct h G n=some b)\/(n=h.length/\b=w.heap.size):=λn b d=>by
   by_cases x:n<G.N;{exact .inl ⟨x,by rw[<-gn n x];exact d⟩}
   ·by_cases e:n=h.length
    ·subst e;rw[uk]at d;cases d;exact .inr ⟨rfl,rfl⟩
    ·rw[xr (Yz (by simp;have:=hi.len;omega))]at d;cases d
  rcases A m b hm with⟨_,M⟩|⟨rfl,rfl⟩<;>rcases A n _ d with⟨_,J⟩|⟨rfl,E⟩
  ·exact hi.inj m n b M J
  ·have:=hi.iS M;omega
  ·have:=hi.iS J;omega
  ·rfl
 ·have:=aO.cF (G:=G.dz w.heap.size) (w:=w.alloc (.loop {state:= .ready,pending:=none,fn:=fn,tmps:=k,params:= #[p],assign:=as,body:=g,defers:=D})) h.length (by simp [Gh.dz,hi.len])
  rwa [v]at this
def Tv{k:Nat}{B B':ar}{M yp:Obj}(hi:cu G w h)(i:h[k]?=some B)(v:B.eZ G k=some (G.aZ k))(R:∀o,¬G.S (G.aZ k) o)(T:w.heap[G.aZ k]?=some M)(p:B'= .gone\/B'.eZ G k=some (G.aZ k))
 (W:∀w',(∀b o,G.S b o->w'.cell? ⟨b,o,none⟩=w.cell? ⟨b,o,none⟩)->w'.heap[G.aZ k]?=some yp->cn G.N G w G w'->e8 G w' k B'):cn G.N G w G (w.putObj (G.aZ k) yp)/\cu G (w.putObj (G.aZ k) yp) (h.set k B'):=by
 have aS:=(ZT.1 T).1;have hZ:¬G.Z (G.aZ k):=(hi.dJ k B i).my v;have q:∀b,b≠G.aZ k->(w.putObj (G.aZ k) yp).heap[b]?=w.heap[b]?:=λb c=>World.putObj_heap_other c;have x:∀b o,G.S b o->(w.putObj (G.aZ k) yp).cell? ⟨b,o,none⟩=w.cell? ⟨b,o,none⟩:=λb o t=>World.cell?_of_block (q b (λe=>R o (e▸t)));have d:cn G.N G w G (w.putObj (G.aZ k) yp):=⟨by simp,λ_ _ h=>h,x,λ_ _=>rfl,λ_ _=>.inl ⟨rfl,rfl⟩,iO rfl,λb c=>q b (λe=>hZ (e▸c)),rfl,rfl,rfl,λ_ _ h=>.inl h⟩;refine⟨d,?_⟩;have u:=(Zk.1 i).1;have A:(h.set k B')[k]?=some B':=by rw[Z1 u]
 have E:∀m,m≠k->(h.set k B')[m]?=h[m]?:=λm hm=>by rw[Z3 (Ne.symm hm)]
 have F:ct h G k=some (G.aZ k):=(eJ i).trans v;have J:∀m b,ct (h.set k B') G m=some b->ct h G m=some b:=λm b c=>by
  by_cases e:m=k
  ·subst e;rw[eJ A]at c;rcases p with rfl|p
   ·cases c
   ·rw[p]at c;cases c;exact F
  ·unfold ct at c ⊢;rw[E m e]at c;exact c
 refine⟨by rw[YR];exact hi.len,λb c=>ZU (hi.z b c) d.size,λb o t=>ZU (hi.S b o t) d.size,λm C g=> ?_,λm L b h1 h2=>hi.inj m L b (J m b h1) (J L b h2),hi.gl.keep d⟩;by_cases e:m=k
 ·subst e;rw[A]at g;cases g
  exact W _ x (World.putObj_heap_same aS) d
 ·rw[E m e]at g;have cX:∀b,ct h G m=some b->b≠G.aZ k:=λb c eb=>e (hi.inj m k b c (by rw[eb];exact F));exact e8.keep (hi.lt g) d (Zr _) ⟨rfl,rfl,rfl⟩ (λb c=>⟨q b (cX _ ((eJ g).trans c)),λo h=>h⟩) (hi.dJ m C g)
def Kt{k:Nat}{e:LS}{p:Nat}{as d:Code}{cs:I AV}(hi:cu G w h)(m:h[k]?=some (.lp e p as d cs)):
 (∀o,¬G.S (G.aZ k) o)/\∃(fn:FuncId)(b:Array kd)(D:Nat),w.heap[G.aZ k]?=some (.loop {state:=e.st,pending:=e.pd,fn:=fn,tmps:=b,params:= #[p],assign:=as,body:=d,defers:=D})/\b.size=cs.length/\(∀(i:Nat)(u:kd)(c:AV),b[i]?=some u->cs[i]?=some c->aO G w u c)/\
   ∀(Bq:LS),cn G.N G w G (w.putObj (G.aZ k) (.loop {state:=Bq.st,pending:=Bq.pd,fn:=fn,tmps:=b,params:= #[p],assign:=as,body:=d,defers:=D}))/\cu G (w.putObj (G.aZ k) (.loop {state:=Bq.st,pending:=Bq.pd,fn:=fn,tmps:=b,params:= #[p],assign:=as,body:=d,defers:=D})) (h.set k (.lp Bq p as d cs)):=by
 obtain⟨x,g,fn,b,D,q,t,v⟩:=hi.dJ k _ m;refine⟨g,fn,b,D,q,t,v,λBq=>Tv hi m rfl g q (.inr rfl) λF J z A=>⟨x,g,fn,b,D,z,t,λi u c B E=>(v i u c B E).keep A (Zr _)⟩⟩
def aip{k:Nat}{d:LS}{p:Nat}{as e:Code}{cs:I AV}(hi:cu G w h)(b:h[k]?=some (.lp d p as e cs))(c:Obj):cn G.N G w G (w.putObj (G.aZ k) c)/\cu G (w.putObj (G.aZ k) c) (h.set k .gone):=by
 obtain⟨m,g,q,t,D,i,u,v⟩:=hi.dJ k _ b;exact Tv hi b rfl g i (.inl rfl) λ_ _ _ _=>trivial
def aoo(hi:cu G w h):cn G.N G w {G with Z:=λb=>G.Z b\/b=w.heap.size} (w.alloc (.deferred (some [])))/\cu {G with Z:=λb=>G.Z b\/b=w.heap.size} (w.alloc (.deferred (some []))) h:=by
 have d:cn G.N G w {G with Z:=λb=>G.Z b\/b=w.heap.size} (w.alloc (.deferred (some []))):=
  ⟨by simp,λ_ _ h=>h,λb _ h=>World.cell?_alloc_lt _ _ _ (hi.S _ _ h),λ_ _=>rfl,λ_ _=>.inl ⟨rfl,rfl⟩,⟨⟨λ_ h=>.inl h,λb h=>h.imp id λe=>Nat.le_of_eq e.symm⟩,rfl⟩,λb c=>Below.heap_alloc w _ b (hi.z b c),rfl,rfl,rfl,λ_ _ h=>.inl h⟩
 refine⟨d,hi.len,λb c=> ?_,λb o i=>ZU (hi.S b o i) d.size,λn B g=> ?_,λm n b k p=>hi.inj m n b (by rw[<-Ki (λb=>G.Z b\/b=w.heap.size) G.M];exact k) (by rw[<-Ki (λb=>G.Z b\/b=w.heap.size) G.M];exact p),hi.gl.keep d⟩
 ·rcases c with c|rfl
  ·exact ZU (hi.z b c) d.size
  ·simp
 ·exact e8.keep (hi.lt g) d (Zr _) ⟨rfl,rfl,rfl⟩ (λb c=>⟨Below.heap_alloc w _ _ (hi.iS (n:=n) ((eJ g).trans c)),λo h=>h⟩) (hi.dJ n B g)
end
open Go.RowKit Go.Lib
def AV.isNil:AV->Bool
 | .d (.v (.slice none 0 0))=>true
 |_=>false
def ai4{x:AV}(h:x.isNil=true):x= .d (.v (.slice none 0 0)):=by
 unfold AV.isNil at h;split at h;{rfl};{cases h}
def De(P:dg)(op:Op)(ρ:Operand->AV)(h:I ar):U (AV×I ar):=
 match op with
 | .slice T x g i none=>match fO P T,vW ρ 0 g,vW ρ 0 i with
   |some _,some 0,some 0=>bif (ρ x).isNil then some (.d (.v (.slice none 0 0)),h)else none
   |_,_,_=>none
 | .call c=>match c.callee with
   | .builtin .cap=>match c.args.toList,c.argTypes.toList with
     |[x],[T]=>bif (ρ x).isNil&&(fO P T).isSome then some (.d (.v (.int .i64 0)),h)else none
     |_,_=>none
   | .builtin .append=>match c.args.toList,c.argTypes.toList with
     |[x,y],[T,b]=>match fO P T,tn P b,ρ y with
      |some (e,k),some _,.d (.v (.int _ (.ofNat m)))=>match jz P e,tu P e with
       |some z,some p=>bif (ρ x).isNil&&cG 1 m&&cG 1 k&&z.cells.toList.length==k&&cG m maxLen&&cG (m*p) 140737488355328 then some (.vec h.length 0 m m k,h++[.vec e k (List.replicate m (z.cells.toList.map λu=>.d (.v u)))])else none
       |_,_=>none
      |_,_,_=>none
     |_,_=>none
   |_=>none
 |_=>none
section
variable {P:dg} {r:U Nat} {n N0:Nat} {G:Gh} {w:Zz} {a:Act} {s:St} {o:Oper} {K:St->Prop} {Q:Exit->Act->Zz->Prop}
def ahK{x:Operand}{T:TypeId}(c:Call)(b:c.callee= .builtin .cap)(h1:c.args.toList=[x])(d:c.argTypes.toList=[T])(e:o.op= .call c):
 (execOp a.eval o).run P w=((Builtin.cap_ #[T] o.type #[a.eval x]).run P w).andThen λv w'=>.ok (.value v) w':=by
 have g:c.args= #[x]:=by rw[<-Array.toList_inj];exact h1
 have i:c.argTypes= #[T]:=by rw[<-Array.toList_inj];exact d
 unfold execOp;simp only[e,resolve,b,g,i,invoke,builtin,Sem.run_bind,Sem.run_pure,Result.andThen_ok,List.map_toArray,ZS,a6]
def Xv(b:dx G w a s){x:U Operand}(h:vW (ev s) 0 x=some 0):DZ a x 0 0:=by
 cases x with
 |none=>rfl
 |some y=>exact Wb (d:=0) b h (Int.le_refl _)
def ajF{x:AV}{h':I ar}(B:dx G w a s)(cN:N0<=G.N)(p:De P o.op (ev s) s.h=some (x,h'))(hK:K ((s.wh h').put o.dst x)):o.wpIn (WF r) n P a w (jw N0 G w K) Q:=by
 have dV:=B.ev;have E:∀{y:Operand},(ev s y).isNil=true->a.eval y= .slice none 0 0:=fun{y} h=>by
  have:=dV y;rw[ai4 h]at this;exact this.val
 unfold De at p;split at p
 next T y lo hi F=>
  split at p
  ·next ek R S e3=>
   obtain⟨q,W⟩:=nW p;cases W
   obtain⟨gJ,t⟩:=ld R;refine gx (by rw[F];simp) B cN (v:= .slice none 0 0) ?_ (.d (.v _)) hK;have lh:=Jt (P:=P) (Cz:=true) (Xv B S) (Xv B e3) (Zr _) (Zr 0) w;unfold execOp;simp [F,E q,Instr.sliceAt,Instr.slice,run_underlying gJ,lh,nK t]
  ·cases p
 next c F=>
  split at p
  ·next A=>
   split at p
   ·next y T R S=>
    obtain⟨q,W⟩:=nW p;cases W
    rw[Zo]at q;cases hT:fO P T with
    |none=>rw[hT]at q;cases q.2
    |some ek=>
     obtain⟨gJ,t⟩:=ld hT;refine gx (by rw[F];simp) B cN (v:= .int .i64 0) ?_ (.d (.v _)) hK;rw[ahK c A R S F,E q.1];simp [Builtin.cap_,run_underlying gJ,goInt]
   ·cases p
  ·next A=>
   split at p
   ·next y z T g R S=>
    split at p
    ·next e k kn kq m f1 f2 f3=>
     split at p
     ·next zz dy g1 g2=>
      obtain⟨q,W⟩:=nW p;cases W
      simp only[Zo,dS,Ve]at q;obtain⟨⟨⟨⟨⟨iP,lh⟩,Oc⟩,sC⟩,TY⟩,Se⟩:=q;clear p;obtain⟨gJ,t⟩:=ld f1;obtain⟨i,mD,lv⟩:∃i,P.info? e=some i/\i.size=k:=by
       unfold ZA at t;cases J:P.info? e with
       |none=>rw[J]at t;cases t
       |some i=>rw[J]at t;exact⟨i,rfl,Zs t⟩
      have hz:i.zero=some zz:=by unfold jz at g1;rw[mD]at g1;exact g1
      have hbt:i.bytes=dy:=by unfold tu at g2;rw[mD]at g2;exact Zs g2
      subst lv;subst hbt;have hy:=dV z;rw[f3]at hy;have ey:a.eval z= .int kq (m:Nat):=hy.val;have eN:=run_append_nil_zeros (P:=P) w T g o.type e i zz kq kn gJ (JX f2) mD hz m (by omega) (by omega) (by have:=TY;simp [maxLen]at this;omega) (by omega);have kH:zz.cells.size=i.size:=by rw[<-Z0];exact sC
      have L:(List.replicate m (zz.cells.toList.map λu=>AV.d (.v u))).length=m:=Yd;obtain⟨cap,la⟩:∃cap,cap=grownCap w m 0 e:=⟨_,rfl⟩;have lu:m<=cap:=by rw[la];exact grownCap_ge _ _ _ _
      have hle:cap<=maxLen:=by rw[la];exact grownCap_le_maxLen _ _ _ _ TY
      rw[<-la]at eN;obtain⟨cur,lA⟩:∃cur,cur=Builtin.zeroCells zz.cells m++Builtin.zeroCells zz.cells (cap-m):=⟨_,rfl⟩;rw[<-lA]at eN;have iF:cur.size=cap*i.size:=by
        rw[lA,Array.size_append,size_zeroCells,size_zeroCells,kH,<-YF]
        congr 1
        omega
      obtain⟨G',q1,q2,q3,q4⟩:=RL (e:=e) (k:=i.size) (cap:=cap) (cs:=List.replicate m (zz.cells.toList.map λu=>AV.d (.v u))) (cur:=cur) B.inv (by rw[L];exact lu) hle iF (λc A=>by
       rw[List.eq_of_mem_replicate A,Zq];exact sC) w.drew ⟨rfl,rfl,rfl,rfl⟩ (λa' b c x u A p M=>by
       have:=List.eq_of_mem_replicate (ZX A);subst this;rw[Zm]at p;cases J:zz.cells.toList[b]? with
       |none=>rw[J]at p;cases p
       |some y=>
        rw[J]at p;cases p
        have kC:b<i.size:=by rw[<-sC];exact(Zk.1 J).1
        have Wm:a'<m:=by have:=(Zk.1 A).1;rwa [L]at this
        have aS:a'*i.size+b<m*i.size:=oG Wm kC;rw[lA,Array.getElem?_append_left (by rw[size_zeroCells,kH];exact aS)]at M;unfold Builtin.zeroCells at M;rw[Array.getElem?_map,Array.getElem?_range,kH,ZL aS]at M;simp only[YV,W2]at M;rw[(JH (i:=a') kC).2]at M;have qp:zz.cells[b]?=some y:=by rw[<-ZF];exact J
        rw[getElem!_pos zz.cells b (by rw[kH];exact kC)]at M;rw[ZH (by rw[kH];exact kC)]at qp;cases qp
        subst M;exact .d (.v _))
      rw[L]at q4;refine nC (by rw[F];simp) B cN (by rw[GG c A R S F,E iP,ey,eN];rfl) q1 q2 q3 (q4 m (Zr _)) hK
     ·cases p
    ·cases p
   ·cases p
  ·cases p
 next=>cases p
end
section
variable {G:Gh} {w:Zz} {h:I ar}
def al1(hi:cu G w h){b g c:Nat}(M:aO G w (.map (some b)) (.mp g)):cn G.N G w (G.dz w.heap.size) (w.alloc (.mapIter (some b) c #[] c))/\cu (G.dz w.heap.size) (w.alloc (.mapIter (some b) c #[] c)) (h++[.it (c,[]) [.mp g]])/\aO (G.dz w.heap.size) (w.alloc (.mapIter (some b) c #[] c)) (.pointer (some ⟨w.heap.size,0,none⟩)) (.ptr h.length 0):=by
 have k:=uf G w hi.z hi.S (.mapIter (some b) c #[] c);have F:G.N<=(G.dz w.heap.size).N:=an _;have q:(G.dz w.heap.size).aZ h.length=w.heap.size:=by simp [Gh.dz,hi.len]
 have R:∀n(B:ar),n<G.N->B.eZ (G.dz w.heap.size) n=B.eZ G n:=λn B d=>by
  cases B<;>simp [ar.eZ,Gh.dz,Nat.ne_of_lt d]
 have T:∀n,n<G.N->ct (h++[.it (c,[]) [.mp g]]) (G.dz w.heap.size) n=ct h G n:=λn d=>by
  have t:n<h.length:=by rw[hi.len];exact d
  unfold ct;rw[ZW t,Zd t];exact R n _ d
 have W:ct (h++[.it (c,[]) [.mp g]]) (G.dz w.heap.size) h.length=some w.heap.size:=by
  rw[eJ (B:= .it (c,[]) [.mp g]) (by simp)];exact congrArg some q
 refine⟨k,⟨by simp [Gh.dz,hi.len],λb x=>ZU (hi.z b x) k.size,λb o A=>ZU (hi.S b o A) k.size,λn B p=> ?_,λm n b hm d=> ?_,hi.gl.keep k⟩,?_⟩
 ·by_cases d:n<h.length
  ·rw[ZW d]at p;have E:n<G.N:=hi.len▸d;exact e8.keep E k F ⟨rfl,rfl,rfl⟩ (λb x=>⟨Below.heap_alloc w _ _ (hi.iS (n:=n) ((eJ p).trans x)),λo h=>h⟩) (hi.dJ n B p)
  ·have lH:n=h.length:=by
    have:=(Zk.1 p).1;simp at this;omega
   subst lH;simp at p;subst p;exact⟨by rw[q];exact λhz=>Yv _ (hi.z _ hz),λo A=>by rw[q]at A;exact Yv _ (hi.S _ _ A),b, #[.map (some b)],(),by rw[q];exact World.alloc_heap_new w _,⟨rfl,rfl⟩,λi u c J hc=>by
    match i with
    |0=>cases J;cases hc;exact M.keep k F
    |i+1=>simp at J⟩
 ·have v:∀n b,ct (h++[.it (c,[]) [.mp g]]) (G.dz w.heap.size) n=some b->(n<G.N/\ct h G n=some b)\/(n=h.length/\b=w.heap.size):=λn b d=>by
   by_cases t:n<G.N;{exact .inl ⟨t,by rw[<-T n t];exact d⟩}
   ·by_cases e:n=h.length
    ·subst e;rw[W]at d;cases d;exact .inr ⟨rfl,rfl⟩
    ·rw[xr (Yz (by simp;have:=hi.len;omega))]at d;cases d
  rcases v m b hm with⟨_,L⟩|⟨rfl,rfl⟩<;>rcases v n _ d with⟨_,E⟩|⟨rfl,x⟩
  ·exact hi.inj m n b L E
  ·have:=hi.iS L;omega
  ·have:=hi.iS E;omega
  ·rfl
 ·have:=aO.ptr (G:=G.dz w.heap.size) (w:=w.alloc (.mapIter (some b) c #[] c)) h.length 0 (by simp [Gh.dz,hi.len])
  rwa [q]at this
def Xt(hi:cu G w h)(e:TypeId):cu (G.dz w.heap.size) (w.alloc (.cells #[.pointer none,.slice none 0 0] e)) (h++[.fG e [.d (.v (.slice none 0 0))]])/\aO (G.dz w.heap.size) (w.alloc (.cells #[.pointer none,.slice none 0 0] e)) (.pointer (some ⟨w.heap.size,0,none⟩)) (.ptr h.length 0):=by
 have x:=uf G w hi.z hi.S (.cells #[.pointer none,.slice none 0 0] e);have M:G.N<=(G.dz w.heap.size).N:=an _;have p:(G.dz w.heap.size).aZ h.length=w.heap.size:=by simp [Gh.dz,hi.len]
 have R:∀n(B:ar),n<G.N->B.eZ (G.dz w.heap.size) n=B.eZ G n:=λn B g=>by
  cases B<;>simp [ar.eZ,Gh.dz,Nat.ne_of_lt g]
 have T:∀n,n<G.N->ct (h++[.fG e [.d (.v (.slice none 0 0))]]) (G.dz w.heap.size) n=ct h G n:=λn g=>by
  have q:n<h.length:=by rw[hi.len];exact g
  unfold ct;rw[ZW q,Zd q];exact R n _ g
 have W:ct (h++[.fG e [.d (.v (.slice none 0 0))]]) (G.dz w.heap.size) h.length=some w.heap.size:=by
  rw[eJ (B:= .fG e [.d (.v (.slice none 0 0))]) (by simp)];exact congrArg some p
 refine⟨⟨by simp [Gh.dz,hi.len],λb A=>ZU (hi.z b A) x.size,λb o E=>ZU (hi.S b o E) x.size,λn B k=> ?_,λm n b hm g=> ?_,hi.gl.keep x⟩,?_⟩
 ·by_cases g:n<h.length
  ·rw[ZW g]at k;have F:n<G.N:=hi.len▸g;exact e8.keep F x M ⟨rfl,rfl,rfl⟩ (λb A=>⟨Below.heap_alloc w _ _ (hi.iS (n:=n) ((eJ k).trans A)),λo h=>h⟩) (hi.dJ n B k)
  ·have lH:n=h.length:=by
    have:=(Zk.1 k).1;simp at this;omega
   subst lH;simp at k;subst k;exact⟨by rw[p];exact λhz=>Yv _ (hi.z _ hz),λo E=>by rw[p]at E;exact Yv _ (hi.S _ _ E),(), #[.slice none 0 0],.pointer none,by rw[p];exact World.alloc_heap_new w _,⟨rfl,.inl rfl,λv hv=>Or.inl (by simpa using hv)⟩,λi u c J hc=>by
    match i with
    |0=>cases J;cases hc;exact .d (.v _)
    |i+1=>simp at J⟩
 ·have t:∀n b,ct (h++[.fG e [.d (.v (.slice none 0 0))]]) (G.dz w.heap.size) n=some b->(n<G.N/\ct h G n=some b)\/(n=h.length/\b=w.heap.size):=λn b g=>by
   by_cases q:n<G.N;{exact .inl ⟨q,by rw[<-T n q];exact g⟩}
   ·by_cases e:n=h.length
    ·subst e;rw[W]at g;cases g;exact .inr ⟨rfl,rfl⟩
    ·rw[xr (Yz (by simp;have:=hi.len;omega))]at g;cases g
  rcases t m b hm with⟨_,L⟩|⟨rfl,rfl⟩<;>rcases t n _ g with⟨_,F⟩|⟨rfl,A⟩
  ·exact hi.inj m n b L F
  ·have:=hi.iS L;omega
  ·have:=hi.iS F;omega
  ·rfl
 ·have:=aO.ptr (G:=G.dz w.heap.size) (w:=w.alloc (.cells #[.pointer none,.slice none 0 0] e)) h.length 0 (by simp [Gh.dz,hi.len])
  rwa [p]at this
def MF{n b:Nat}{c:Nat×I Nat}(hi:cu G w h)(d:h[n]?=some (.it c [.mp b])):(∀o,¬G.S (G.aZ n) o)/\w.heap[G.aZ n]?=some (.mapIter (some (G.aZ b)) c.1 c.2.toArray c.1)/\aO G w (.map (some (G.aZ b))) (.mp b):=by
 obtain⟨q,e,g,t,_,i,⟨_,k⟩,m⟩:=hi.dJ n _ d;have:=m 0 (.map (some g)) (.mp b) (by rw[k];rfl) rfl;cases this with
 |mp _ p=>exact⟨e,i,.mp b p⟩
def Xr(hi:cu G w h):cn G.N G w G w.drew/\cu G w.drew h:=by
 have b:cn G.N G w G w.drew:=⟨Zr _,λ_ _ h=>h,λ_ _ _=>rfl,λ_ _=>rfl,λ_ _=>.inl ⟨rfl,rfl⟩,iO rfl,λ_ _=>rfl,rfl,rfl,rfl,λ_ _ h=>.inl h⟩;exact⟨b,hi.len,hi.z,hi.S,λn B c=>e8.keep (hi.lt c) b (Zr _) ⟨rfl,rfl,rfl⟩ (λ_ _=>⟨rfl,λ_ h=>h⟩) (hi.dJ n B c),hi.inj,hi.gl.keep b⟩
end
def Sy(P:dg)(o:Oper)(K:St->Prop)(s:St):Prop:=
 match o.op with
 | .range T m=>match wT P T,ev s m with
   |some _,.mp i=>match s.h[i]? with
    |some (.jx c)=>K ((s.wh (s.h++[.it (c.length,[]) [.mp i]])).put o.dst (.ptr s.h.length 0))
    |_=>False
   |_,_=>False
 | .next k false=>match ev s k with
   | .ptr m 0=>match s.h[m]? with
     |some (.it g [.mp i])=>match s.h[i]? with
      |some (.jx c)=>g.1=c.length/\(∀b p,c[b]?=some p->b ∉ g.2->K ((s.wh (s.h.set m (.it (g.1,g.2++[b]) [.mp i]))).put o.dst (.bn [.d (.v (.bool true)),.d (.v (.string p.1)),.d p.2])))/\((∀b,b<c.length->b∈g.2)->K (s.put o.dst (.bn [.d (.v (.bool false))])))
      |_=>False
     |_=>False
   |_=>False
 | .entry k=>match ev s k with
   | .ptr m 0=>match s.h[m]? with
     |some (.it g [.mp i])=>match s.h[i]? with
      |some (.jx c)=>g.1=c.length/\∃l b p,g.2=l++[b]/\c[b]?=some p/\K (s.put o.dst (.bn [.d (.v (.string p.1)),.d p.2]))
      |_=>False
     |_=>False
   |_=>False
 | .alloc e=>match jz P e with
   |some z=>z.cells= #[.pointer none,.slice none 0 0]/\K ((s.wh (s.h++[.fG e [.d (.v (.slice none 0 0))]])).put o.dst (.ptr s.h.length 0))
   |none=>False
 | .box e x=>ev s x= .agg [.d (.v (.pointer none)),.d (.v (.slice none 0 0))]/\K ((s.wh (s.h++[.fG e [.d (.v (.slice none 0 0))]])).put o.dst (.ptr s.h.length 0))
 |_=>False
section
variable {P:dg} {r:U Nat} {n N0:Nat} {G:Gh} {w:Zz} {a:Act} {s:St} {o:Oper} {K:St->Prop} {Q:Exit->Act->Zz->Prop}
def Rl{d:Nat}{kv:I (so×D)}(hi:cu G w s.h)(g:s.h[d]?=some (.jx kv)):∃b:Array MapEntry,w.heap[G.aZ d]?=some (.map b kv.length)/\zt G.S w b kv.length kv:=by
 obtain⟨_,_,b,c,i,e⟩:=hi.dJ d _ g;have:c=kv.length:=e.ok.H8.trans e.all.symm;subst this;exact⟨b,i,e⟩
def zt.mem{S:Nat->Nat->Prop}{b:Array MapEntry}{c:Nat}{kv:I (so×D)}(h:zt S w b c kv){e:MapEntry}(g:e∈b.toList):b[e.born]?=some e/\e.born<kv.length:=by
 obtain⟨i,k,rfl⟩:=List.getElem_of_mem g;have d:b[i]?=some b.toList[i]:=by simp
 have m:=h.ok.born i _ d;rw[m];exact⟨d,by rw[h.all];simpa using k⟩
def ajY(k:dx G w a s)(cN:N0<=G.N)(g:Sy P o K s):o.wpIn (WF r) n P a w (jw N0 G w K) Q:=by
 have dV:=k.ev;have R:∀{y:Operand}{n:Nat},ev s y= .ptr n 0->a.eval y= .pointer (some ⟨G.aZ n,0,none⟩):=fun{y n} h=>by
  have:=dV y;rw[h]at this;generalize a.eval y=u at this;cases this;rfl
 unfold Sy at g;split at g
 next T m A=>
  split at g
  ·next ke J e1 e2=>
   split at g
   ·next M hb=>
    obtain⟨es,W,E⟩:=Rl k.inv hb;have L:=dV m;rw[e2]at L;have ea:a.eval m= .map (some (G.aZ J)):=by
     generalize a.eval m=u at L;cases L;rfl
    rw[ea]at L;obtain⟨i1,i2,i3⟩:=al1 (c:=M.length) k.inv L;obtain⟨k0,el⟩:=ke;refine nC (by rw[A];simp) k cN (v:= .pointer (some ⟨w.heap.size,0,none⟩)) (w':=w.alloc (.mapIter (some (G.aZ J)) M.length #[] M.length)) ?_ i1 (an _) i2 i3 g;unfold execOp;simp [A,ea,Instr.range,run_underlying (Ff e1),MapKept.run_getObj_map W,Result.andThen]
   ·cases g
  ·cases g
 next it A=>
  split at g
  ·next m e1=>
   split at g
   ·next sn J hn=>
    split at g
    ·next M hb=>
     obtain⟨t,hK1,hK2⟩:=g;obtain⟨es,W,E⟩:=Rl k.inv hb;obtain⟨t1,t2,t3⟩:=MF k.inv hn;rw[t]at t2;have F:=run_next_at (P:=P) w o.type _ _ _ _ _ _ _ t2 W (λx g=>(E.mem g).2) (Zr _);rcases F with⟨h0,F⟩|⟨e',nI,w1,sy,F⟩
     ·refine gx (by rw[A];simp) k cN (v:= .tuple #[.bool false]) ?_ (.bn _ _ rfl λi u c B t=> ?_) (hK2 λb ie=> ?_)
      ·unfold execOp;simp [A,R e1,F]
      ·match i with
       |0=>cases B;cases t;exact .d (.v _)
       |i+1=>simp at B
      ·have aS:b<es.size:=by rw[<-E.all];exact ie
       have OX:es[b]?=some es[b]:=ZH aS;have Fv:=E.ok.born b _ OX;have Uj:leftOf es sn.2.toArray= #[]:=Array.eq_empty_of_size_eq_zero h0;unfold leftOf at Uj;rw[Array.filter_eq_empty_iff]at Uj;have:=Uj es[b] (Array.getElem_mem aS);rw[Fv]at this
       simpa using this
     ·have hm:e'∈es.toList/\e'.born ∉ sn.2:=by
       unfold leftOf at nI;simp only[Array.toList_filter,List.mem_filter]at nI;exact⟨nI.1,by simpa using nI.2⟩
      obtain⟨q1,q2⟩:=E.mem hm.1;obtain⟨p,p1,p2,p3⟩:=E.ord _ _ q1;have hK:=hK1 e'.born p p1 hm.2;obtain⟨iZ,Aj⟩:cn G.N G w G w1/\cu G w1 s.h:=by
       rcases sy with rfl|rfl
       ·exact⟨cn.refl _ _ _,k.inv⟩
       ·exact Xr k.inv
      obtain⟨t1',t2',_⟩:=MF Aj hn;obtain⟨z1,z2,z3,z4,z5,z6,z7⟩:=Aj.dJ m _ hn;obtain⟨kr,MV⟩:=Tv (B':= .it (sn.1,sn.2++[e'.born]) [.mp J]) (yp:= .mapIter (some (G.aZ J)) M.length (sn.2.toArray.push e'.born) M.length) Aj hn rfl t1' t2' (.inr rfl) λw' gP fU hE=>by
       have hvv:=(MF Aj hn).2.2;refine⟨z1,z2,G.aZ J, #[.map (some (G.aZ J))],(),?_,⟨rfl,rfl⟩,λi u c B t=> ?_⟩;{rw[fU];simp [t]}
       ·match i with
        |0=>cases B;cases t;exact hvv.keep hE (Zr _)
        |i+1=>simp at B
      refine nC (by rw[A];simp) k cN (v:= .tuple #[.bool true,e'.key,e'.val]) ?_ (iZ.trans kr) (Zr _) MV (.bn _ _ rfl λi u c B t=> ?_) hK;{unfold execOp;simp only[A,R e1];simp [F];rfl}
      ·match i with
       |0=>cases B;cases t;exact .d (.v _)
       |1=>cases B;cases t;rw[p2];exact .d (.v _)
       |2=>cases B;cases t;exact .d (p3.keep (iZ.trans kr).S (iZ.trans kr).cell)
       |i+3=>simp at B
    ·cases g
   ·cases g
  ·cases g
 next it A=>
  split at g
  ·next m e1=>
   split at g
   ·next sn J hn=>
    split at g
    ·next M hb=>
     obtain⟨t,l,b,p,hl,hp,hK⟩:=g;obtain⟨es,W,E⟩:=Rl k.inv hb;obtain⟨t1,t2,t3⟩:=MF k.inv hn;have aS:b<es.size:=by rw[<-E.all];exact(Zk.1 hp).1
     have OX:es[b]?=some es[b]:=ZH aS;have Fv:=E.ok.born b _ OX;obtain⟨p',p1,p2,p3⟩:=E.ord _ _ OX;rw[hp]at p1;cases p1
     have lq:(es.toList.map (·.born)).Nodup:=by
      have e:es.toList.map (·.born)=List.range es.size:=by
       apply List.ext_getElem?;intro i;rw[Zm,ZF];by_cases hi:i<es.size;{rw[ZH hi,YV,E.ok.born i _ (ZH hi),List.getElem?_range hi]};{rw[Array.getElem?_eq_none (by omega),Yz (by simp;omega)];rfl}
      rw[e];exact List.nodup_range
     have F:=run_entry_at (P:=P) w (G.aZ m) (G.aZ J) sn.1 l.toArray es M.length es[b] (by rw[t2,hl,Fv,t];simp) W (by simp) lq;refine gx (by rw[A];simp) k cN (v:= .tuple #[es[b].key,es[b].val]) ?_ (.bn _ _ rfl λi u c B t=> ?_) hK;{unfold execOp;simp [A,R e1,F]}
     ·match i with
      |0=>cases B;cases t;rw[p2];exact .d (.v _)
      |1=>cases B;cases t;exact .d p3
      |i+2=>simp at B
    ·cases g
   ·cases g
  ·cases g
 next e A=>
  split at g
  ·next z hz=>
   obtain⟨t,hK⟩:=g;obtain⟨i1,i2⟩:=Xt k.inv e;exact nC (by rw[A];simp) k cN (by unfold execOp;simp [A,Instr.alloc,GD hz,newVar,newRow,t]) (uf G w k.inv.z k.inv.S _) (an _) i1 i2 hK
  ·cases g
 next e x A=>
  obtain⟨hx1,hK⟩:=g;have t:(a.eval x).cells= #[.pointer none,.slice none 0 0]:=by
   have L:=dV x;rw[hx1]at L;generalize a.eval x=u at L;cases L with|agg vs _ hl F=>
   obtain⟨l⟩:=vs
   match l,hl with
   |[p,q],_=>
    have h0:=(F 0 p _ rfl rfl).val;have W:=(F 1 q _ rfl rfl).val;subst h0;subst W;rfl
  obtain⟨i1,i2⟩:=Xt k.inv e;exact nC (by rw[A];simp) k cN (by unfold execOp;simp [A,Instr.box,newVar,newRow,t]) (uf G w k.inv.z k.inv.S _) (an _) i1 i2 hK
 ·cases g
end
def jX(ops:Array Oper)(o:Oper)(s:St)(e g:Prop):Prop:=
 match o.guard with
 |none=>e
 |some (j,c)=>match (ops[j]?).bind (·.dst)with
  |some d=>match bM s.t d with
   | .d (.v (.bool b))=>(b=c->e)/\(b= !c->g)
   | .d (.v (.tuple _))=>g
   |_=>False
  |none=>False
structure bQ(P:Program)(r:Option Nat)(N0:Nat)(c:Code)(Q:Exit->St->Prop)(s:St):Prop where
 run:∀(G:Gh)(w:World)(a:Act)(n:Nat),dx G w a s->N0<=G.N->c.wpIn (WF r) n P (λe a' w'=>jw N0 G w (Q e) a' w') a w
def jk(K:St->Prop)(Q:Exit->St->Prop):Exit->St->Prop
 | .normal,s=>K s
 |e,s=>Q e s
def nj:Nat->I AV->I (Nat×AV)
 |_,[]=>[]
 |k,x::l=>(k,x)::nj (k+1) l
def S3:∀(l:I AV)(k i:Nat),bM (nj k l) i=if k<=i then(l[i-k]?).getD .dead else .dead
 |[],k,i=>by simp [nj,bM]
 |x::l,k,i=>by
  rw[nj,mi,S3 l (k+1) i];by_cases h:i=k;{subst h;simp}
  ·rw[ZN h];by_cases b:k<=i
   ·rw[ZL (by omega),ZL b,show i-k=i-(k+1)+1 by omega,Yt]
   ·rw[ZN (by omega),ZN b]
def YS(P:dg)(k:Nat)(x:AV)(h:I ar)(C:Bool->I ar->Prop):Prop:=∀(G:Gh)(w:Zz)(v:kd)(r:U Nat)(n:Nat),cu G w h->aO G w v x->k<G.N/\∃(p:Nat)(as c:Code)(fn:FuncId)(d:Array kd)(D:Nat),w.heap[G.aZ k]?=some (.loop {state:= .ready,pending:=none,fn:=fn,tmps:=d,params:= #[p],assign:=as,body:=c,defers:=D})/\ RoundIn (WF r) n P (G.aZ k) fn (d.setIfInBounds p v) as c w λe g=>∃(b:Bool)(G':Gh)(i:I ar),e= .returned (.bool b)/\cn G.N G w G' g/\G.N<=G'.N/\cu G' g i/\C b i
def ai2(C:Bool->I ar->Prop)(k:Nat):Exit->St->Prop
 | .normal,b=>∃p as c d,b.h[k]?=some (.lp .busy p as c d)/\C true (b.h.set k (.lp .ready p as c d))
 | .ret,b=>∃p as c d,b.h[k]?=some (.lp .busy p as c d)/\C false (b.h.set k (.lp (.done .ret) p as c d))
 | .exit i,b=>∃p as c d,b.h[k]?=some (.lp .busy p as c d)/\C false (b.h.set k (.lp (.done (.exit i)) p as c d))
 |_,_=>False
def L3(P:dg)(o:Oper)(K:St->Prop)(s:St):Prop:=
 match o.op with
 | .call c=>match c.callee with
   | .value f=>match ev s f,c.args.toList.map (ev s)with
     | .cF k,[x]=>YS P k x s.h λb e=>K ((s.wh e).put o.dst (.d (.v (.bool b))))
     |_,_=>False
   |_=>False
 |_=>False
def alK(P:dg)(o:Oper)(K:St->Prop)(s:St):Prop:=∃x b,De P o.op (ev s) s.h=some (x,b)/\K ((s.wh b).put o.dst x)
def pL(P:dg)(o:Oper)(K:St->Prop)(s:St):Prop:=J1 P o K s\/HI P o K s\/sw P o K s\/L3 P o K s\/alK P o K s\/Sy P o K s
def tV(P:dg)(ops:Array Oper):I Oper->(St->Prop)->St->Prop
 |[],K,s=>K s
 |o::rest,K,s=>jX ops o s (pL P o (tV P ops rest K) s) (tV P ops rest K (s.put o.dst (.d (.v undef))))
def sX(id:Nat)(Q:Exit->St->Prop):Exit->St->Prop
 | .exit b,s=>bif b==id then Q .normal s else Q (.exit b) s
 |e,s=>Q e s
section
variable {P:dg} {r:U Nat} {n N0:Nat} {G:Gh} {w:Zz} {a:Act} {s:St} {o:Oper} {Q:Exit->St->Prop}
def jw.mono{K b:St->Prop}(h:∀s,K s->b s){a':Act}{w':Zz}(c:jw N0 G w K a' w'):jw N0 G w b a' w':=
 let ⟨d,e,g,i,k,m⟩:=c;⟨d,e,g,i,k,h _ m⟩
def jw.trans{K:St->Prop}{G1:Gh}{b:Zz}(c:cn N0 G w G1 b){a':Act}{w':Zz}(d:jw N0 G1 b K a' w'):jw N0 G w K a' w':=
 let ⟨e,g,i,k,m,p⟩:=d;⟨e,g,c.trans i,k,m,p⟩
def bQ.mono{c:Code}{b:Exit->St->Prop}(h:bQ P r N0 c Q s)(d:∀e s,Q e s->b e s):bQ P r N0 c b s:=
 ⟨λG w a n g i=>wpIn_mono (h.run G w a n g i) λe _ _ k=>k.mono (d e)⟩
def Sa{ops:Array Oper}{i no:Prop}(v:dx G w a s)(h:jX ops o s i no):if Region.wanted o (yielded ops a.tmps)then i else no:=by
 unfold jX at h;split at h
 ·rename_i k
  rw[ZL (by simp [Region.wanted,k])];exact h
 ·rename_i j c k
  split at h
  ·rename_i d u
   have m:=v.tmp d;split at h
   ·rename_i b q
    rw[q]at m;have e:=m.bool;have p:yielded ops a.tmps j=some b:=by
      unfold yielded;rw[u,re];by_cases g:d<a.tmps.size
      ·rw[ZH g];have:a.tmps.getD d undef=a.tmps[d]:=by simp [Array.getD,g]
       rw[this]at e;rw[e]
      ·have:a.tmps.getD d undef=undef:=by simp [Array.getD,g]
       rw[this]at e;cases e
    by_cases t:b=c;{rw[ZL (by simp [Region.wanted,k,p,t])];exact h.1 t};{rw[ZN (by simp [Region.wanted,k,p,t])];exact h.2 (by cases b<;>cases c<;>simp_all)}
   ·rename_i x q
    rw[q]at m;have e:=m.val;have p:yielded ops a.tmps j=none:=by
      unfold yielded;rw[u,re];by_cases g:d<a.tmps.size
      ·rw[ZH g];have:a.tmps.getD d undef=a.tmps[d]:=by simp [Array.getD,g]
       rw[this]at e;rw[e]
      ·rw[Array.getElem?_eq_none (Nat.le_of_not_lt g)]
    rw[ZN (by simp [Region.wanted,k,p])];exact h
   ·exact h.elim
  ·exact h.elim
def YS.mono{k:Nat}{x:AV}{h:I ar}{C C':Bool->I ar->Prop}(c:YS P k x h C)(d:∀b h',C b h'->C' b h'):YS P k x h C':=λG w v r n e g=>
 let ⟨i,p,as,bd,m,q,D,t,u⟩:=c G w v r n e g
 ⟨i,p,as,bd,m,q,D,t,u.mono λ_ _ ⟨b,z,h',A,B,E,F,J⟩=>⟨b,z,h',A,B,E,F,d _ _ J⟩⟩
def apK{k:Nat}{x:AV}{h:I ar}{C:Bool->I ar->Prop}
 (hA:∃p as g cs,h[k]?=some (.lp .ready p as g cs)/\p<cs.length/\∀(l:Nat),bQ P (some l) h.length as (jk (λm=>∃z A B T,m.h[k]?=some (.lp .ready z A B T)/\bQ P (some l) h.length g (ai2 C k) ⟨m.n,m.t,m.h.set k (.lp .busy z A B T)⟩) (λ_ _=>False)) ⟨cs.length,(p,x)::nj 0 cs,h⟩):YS P k x h C:=by
 intro G w v r n W Sn;obtain⟨p,as,g,cs,hk,hp,hA⟩:=hA;have Dr:k<G.N:=W.lt hk;obtain⟨hS,fn,tm,D,h3,h4,h5,ath⟩:=Kt W hk;refine⟨Dr,p,as,g,fn,tm,D,h3,?_⟩;refine roundIn_of_wpIn (F:=WF r) trivial ?_;have qf:dx G w {tmps:=tm.setIfInBounds p v,defers:=[]} ⟨cs.length,(p,x)::nj 0 cs,h⟩:=by
  refine⟨by simp [h4],λi=> ?_,W,tC.nil _ _⟩;show aO _ _ _ (bM ((p,x)::nj 0 cs) i);rw[mi];split
  ·next e=>
   subst e;have:(tm.setIfInBounds i v).getD i undef=v:=by simp [Array.getD,h4,hp]
   rw[this];exact Sn
  ·next e=>
   rw[S3];simp only[WJ,if_true,Nat.sub_zero];cases gP:cs[i]? with
   |none=>exact .dead _
   |some y=>
    have aS:i<tm.size:=by rw[h4];exact(Zk.1 gP).1
    have:(tm.setIfInBounds p v).getD i undef=tm[i]:=by
     simp [Array.getD,aS,Ne.symm e]
    rw[this];exact h5 i _ y (ZH aS) gP
 have qa:=hA (G.aZ k);rw[W.len]at qa;refine wpIn_mono (qa.run G w _ n qf (Zr _)) λe1 a1 w1 zX=> ?_;obtain⟨G1,m,iZ,gU,fR,tO⟩:=zX;cases e1 with
 |normal=>
  obtain⟨z,A,B,T,kE,iP⟩:=tO;have FT:G1.aZ k=G.aZ k:=iZ.aZ k Dr;obtain⟨_,fn1,tm1,D1,g3,g4,g5,acC⟩:=Kt fR.inv kE;obtain⟨gE,gI⟩:=acC .busy;rw[FT]at g3 gE gI;refine⟨_,run_beginRound g3 rfl,?_⟩;have zW:dx G1 (w1.putObj (G.aZ k) (.loop {state:= .busy,pending:=none,fn:=fn1,tmps:=tm1,params:= #[z],assign:=A,body:=B,defers:=D1})) a1 ⟨m.n,m.t,m.h.set k (.lp .busy z A B T)⟩:=fR.move gE (Zr _) gI;refine wpIn_mono (iP.run G1 _ a1 n zW gU) λe3 a3 w3 hn3=> ?_;obtain⟨G3,s3,E,ZM,hs3,sf⟩:=hn3;have q:∀(c:U Code)(u:LS)(b:Bool)(p:Nat)(as g:Code)(d:I AV),s3.h[k]?=some (.lp .busy p as g d)->u.pd=c->u.st=(if c.isNone then .ready else .done)->c.isNone=b->C b (s3.h.set k (.lp u p as g d))->
   ∃v w',(Instr.endRound (G.aZ k) c).run P w3= .ok v w'/\∃(b:Bool)(G':Gh)(h':I ar),(Ending.returned v:Ending)= .returned (.bool b)/\cn G.N G w G' w'/\G.N<=G'.N/\cu G' w' h'/\C b h':=λc u b p as g d Pb q1 q2 q3 hK=>by
   have hr3:G3.aZ k=G.aZ k:=(E.aZ k Dr).trans FT;obtain⟨_,fn3,tm3,D3,z3,z4,z5,aiC⟩:=Kt hs3.inv Pb;obtain⟨zE,zI⟩:=aiC u;rw[hr3]at z3 zE zI;subst q1;have H3:=run_endRound (P:=P) u.pd z3;rw[<-q2]at H3;refine⟨_,_,H3,b,G3,_,by rw[q3],?_,ZM,zI,hK⟩;exact(iZ.trans ((gE.less gU).trans E)).trans (zE.less ZM)
  cases e3 with
  |normal=>obtain⟨J,L,M,d,R,S⟩:=sf;exact q none .ready true J L M d R rfl rfl rfl S
  |ret=>obtain⟨J,L,M,d,R,S⟩:=sf;exact q (some .ret) (.done .ret) false J L M d R rfl rfl rfl S
  |exit i=>obtain⟨J,L,M,d,R,S⟩:=sf;exact q (some (.exit i)) (.done (.exit i)) false J L M d R rfl rfl rfl S
  |_=>exact sf.elim
 |_=>exact tO.elim
def aoa{K:St->Prop}{Q:Exit->Act->Zz->Prop}(m:dx G w a s)(t:N0<=G.N)(h:L3 P o K s):o.wpIn (WF r) n P a w (jw N0 G w K) Q:=by
 unfold L3 at h;split at h
 ·next c z=>
  split at h
  ·next f L=>
   split at h
   ·next k x M A=>
    have q:=m.ev f;rw[M]at q;have R:a.eval f= .func (.yield (G.aZ k)) #[] #[]:=by
     generalize a.eval f=u at q;cases q;rfl
    obtain⟨S,T⟩:=Am m c.args;obtain⟨v,B⟩:∃v,c.args.map a.eval= #[v]:=by
     have:(c.args.map a.eval).size=1:=by rw[S,A];rfl
     exact⟨(c.args.map a.eval)[0],Array.ext (by simp [this]) λi h1 E=>by
      have:i=0:=by simp at E;exact E
      subst this;rfl⟩
    have W:aO G w v x:=T 0 v x (by rw[B];rfl) (by rw[A];rfl);obtain⟨Dr,p,as,bd,fn,tm,D,h3,hA⟩:=h G w v r (n-1) m.inv W;have lq:∀c',o.op≠ .defer c':=λc' e=>by rw[z]at e;cases e
    have hy:=run_yield (P:=P) (args:= #[v]) h3 rfl;have eN:(o.semAt (WF r).round a.eval).run P w= .ok (.round (G.aZ k) fn (tm.setIfInBounds p v) as bd) w:=by
     rw[Oper.semAt_eq _ _ _ lq];unfold execOp;simp only[z,resolve,L,R];simp [Deferred.ofValue,invoke,B,hy]
    unfold Oper.wpIn;refine⟨λg hg=>trivial,?_⟩;rw[eN,Oper.uponIn_round];refine⟨λh=>(by simp [WF,Fence.wide]at h),hA.mono λe w' hp=> ?_⟩;obtain⟨b,G',h',rfl,F,J,eY,hK⟩:=hp;exact⟨G',_,F.less t,Za t J,(m.move F J eY).put (.d (.v _)) o.dst,hK⟩
   ·exact h.elim
  ·exact h.elim
 ·exact h.elim
def aih{K:St->Prop}{Q:Exit->Act->Zz->Prop}(b:dx G w a s)(c:N0<=G.N)(h:pL P o K s):o.wpIn (WF r) n P a w (jw N0 G w K) Q:=by
 rcases h with h|h|h|h|⟨x,e,h,d⟩|h
 ·exact UO b c (.inl h)
 ·exact UO b c (.inr (.inl h))
 ·exact UO b c (.inr (.inr h))
 ·exact aoa b c h
 ·exact ajF b c h d
 ·exact ajY b c h
def RV{ops:Array Oper}{K:St->Prop}{q:Exit->Act->Zz->Prop}(m:∀a' w',jw N0 G w K a' w'->q .normal a' w'):∀(l:I Oper)(k:Nat),(∀j,l[j]?=ops[k+j]?)->∀(G1:Gh)(b:Zz)(a:Act)(s:St),
 cn N0 G w G1 b->N0<=G1.N->dx G1 b a s->tV P ops l K s->wpOpsIn (WF r) n P ops q (List.range' k l.length) a b
 |[],k,_,G1,b,a,s,e,g,c,h=>m _ _ ⟨G1,s,e,g,c,h⟩
 |o::l,k,t,G1,b,a,s,e,g,c,h=>by
  have x:ops[k]?=some o:=by simpa using (t 0).symm
  have u:∀j,l[j]?=ops[k+1+j]?:=λj=>by have:=t (j+1);simpa [Nat.add_assoc,Nat.add_comm 1 j]using this
  have i:=Sa c h;simp only[Zi,List.range'_succ,wpOpsIn,x];split
  ·rename_i p
   rw[ZL p]at i;exact Oper.wpIn_mono (λa' w' z=>by
     obtain⟨A,B,E,F,J,L⟩:=z;exact RV m l (k+1) u A w' a' B (e.trans E) F J L) (aih c g i)
  ·rename_i p
   rw[ZN p]at i;exact⟨λ_ _=>trivial,RV m l (k+1) u G1 b _ _ e g (c.put (.d (.v undef)) o.dst) i⟩
def fS{id:Nat}{ops:Array Oper}(h:tV P ops ops.toList (Q .normal) s):bQ P r N0 (.region id ops false) Q s:=by
 constructor
 intro G w a n b c;refine wpIn_region ?_;rw[List.range_eq_range',<-Z0];exact RV (G:=G) (w:=w) (K:=Q .normal) (λ_ _ h=>h) ops.toList 0 (by simp) G w a s (cn.refl _ _ _) c b h
def cO(h:Q .normal s):bQ P r N0 .skip Q s:=⟨λG _ _ _ b c=>wpIn_skip ⟨G,s,cn.refl _ _ _,c,b,h⟩⟩
def dk(h:Q .ret s):bQ P r N0 .ret Q s:=⟨λG _ _ _ b c=>wpIn_ret ⟨G,s,cn.refl _ _ _,c,b,h⟩⟩
def lW{id:Nat}(h:Q (.exit id) s):bQ P r N0 (.exit id) Q s:=⟨λG _ _ _ b c=>wpIn_exit ⟨G,s,cn.refl _ _ _,c,b,h⟩⟩
def aw{x y:Code}(h:bQ P r N0 x (jk (λs'=>bQ P r N0 y Q s') Q) s):bQ P r N0 (.seq x y) Q s:=by
 constructor
 intro G w a n m p;refine wpIn_seq (wpIn_mono (h.run G w a n m p) λe q t b=> ?_);obtain⟨c,u,d,g,i,k⟩:=b;cases e with
 |normal=>exact wpIn_mono (k.run c t q n i g) λ_ _ _ b=>b.trans d
 |_=>exact⟨c,u,d,g,i,k⟩
def UR{c:Operand}{x y:Code}{t:Bool}(k:ev s c= .d (.v (.bool t)))(h1:t=true->bQ P r N0 x Q s)(m:t=false->bQ P r N0 y Q s):bQ P r N0 (.cond c x y) Q s:=by
 constructor
 intro G w a n b g;have i:=b.ev c;rw[k]at i;exact wpIn_cond_split i.bool (λe=>(h1 e).run G w a n b g) (λe=>(m e).run G w a n b g)
def dI{id:Nat}{c:Code}(h:bQ P r N0 c (sX id Q) s):bQ P r N0 (.block id c) Q s:=by
 constructor
 intro G w a n u v;refine wpIn_block (wpIn_mono (h.run G w a n u v) λe z A x=> ?_);obtain⟨g,i,k,m,p,b⟩:=x;cases e with
 |exit t=>
  by_cases d:t=id;{simp only[sX,d,BEq.rfl,V1]at b;simp only[Exit.inBlock,ZL d];exact⟨g,i,k,m,p,b⟩}
  ·have q:(t==id)=false:=by simpa using d
   simp only[sX,q,UQ]at b;simp only[Exit.inBlock,ZN d];exact⟨g,i,k,m,p,b⟩
 |_=>exact⟨g,i,k,m,p,b⟩
def Wv{F:Fence}{c:Code}{Q:Exit->Act->Zz->Prop}{ι:Type}(d:ι->Act->Zz->Prop)(μ:ι->Nat)(J:ι)(L:d J a w)
 (round:∀i a w,d i a w->c.wpIn F n P (Exit.then (λa' w'=>∃i',d i' a' w'/\μ i'<μ i) Q) a w):(Code.loop c).wpIn F n P Q a w:=by
 intro b k t M u v;have z:∀j i a w,μ i=j->d i a w->
  ∃e a' w',Q e a' w'/\ArrivesIn (Machine.fenced P F) P (lone (b.atR a (.code c:: .inLoop c::k)) t w) b k t e a' w':=by
  intro j
  induction j using Nat.strongRecOn with
  |_ j N=>
   intro i a w R S;obtain⟨e,p,q,g,m⟩:=round i a w S b (.inLoop c::k) t M u v;cases e with
   |normal=>
    obtain⟨i',A,T⟩:=g;obtain⟨W,a₂,w₂,B,E⟩:=N (μ i') (R▸T) i' p q rfl A;exact⟨W,a₂,w₂,B,.of_steps (StepsIn.trans m (.one (fenced_calm u v rfl) stepR_inLoop)) E⟩
   |exit id=>exact⟨_,p,q,g,.pass (x:= .inLoop c) rfl (λ_ _=>.inl (by simp)) m⟩
   |goto l=>exact⟨_,p,q,g,.pass (x:= .inLoop c) rfl (λ_ _=>.inl (by simp)) m⟩
   |ret=>exact⟨_,p,q,g,.pass (x:= .inLoop c) rfl (λ_ _=>.inl (by simp)) m⟩
   |panic ch=>exact⟨_,p,q,g,.pass (x:= .inLoop c) rfl (λ_ _=>.inl (by simp)) m⟩
   |outgrown=>exact⟨_,p,q,g,.pass (x:= .inLoop c) rfl (λ_ _=>.inl (by simp)) m⟩
 obtain⟨e,a',w',g,m⟩:=z _ J a w rfl L;exact⟨e,a',w',g,.of_steps (.one (fenced_calm u v rfl) stepR_loop) m⟩
end
mutual
def AV.bR(m:Nat):AV->AV
 | .own n xs=>bif cG m n then .d (.sl xs)else .own n xs
 | .agg cs=>.agg (AV.rP m cs)
 | .bn cs=>.bn (AV.rP m cs)
 | .fn f cs=>.fn f (AV.rP m cs)
 |x=>x
def AV.rP(m:Nat):I AV->I AV
 |[]=>[]
 |x::l=>x.bR m::AV.rP m l
end
mutual
def AV.aN(m:Nat):AV->Bool
 | .own n _| .ptr n _| .row n _ _ _ _| .mp n| .cF n| .vec n _ _ _ _| .eC n _ _ _ _=> !cG m n
 | .agg cs=>AV.lB m cs
 | .bn cs=>AV.lB m cs
 | .fn _ cs=>AV.lB m cs
 |_=>true
def AV.lB(m:Nat):I AV->Bool
 |[]=>true
 |x::l=>x.aN m&&AV.lB m l
end
def IS(m:Nat):∀l,AV.rP m l=l.map (AV.bR m)
 |[]=>by simp [AV.rP]
 |x::l=>by simp [AV.rP,IS m l]
def oe(m:Nat):∀l,AV.lB m l=l.all (AV.aN m)
 |[]=>by simp [AV.lB]
 |x::l=>by simp [AV.lB,oe m l]
def ar.bR(m:Nat):ar->ar
 | .cells b=>.cells (b.map (AV.bR m))
 | .lp c p as bd b=>.lp c p as bd (b.map (AV.bR m))
 | .it d b=>.it d (b.map (AV.bR m))
 | .fG T b=>.fG T (b.map (AV.bR m))
 | .vec e k b=>.vec e k (b.map (·.map (AV.bR m)))
 |B=>B
def ar.aN(m:Nat):ar->Bool
 | .cells b=>b.all (AV.aN m)
 | .lp _ _ _ _ b=>b.all (AV.aN m)
 | .it _ b=>b.all (AV.aN m)
 | .fG _ b=>b.all (AV.aN m)
 | .vec _ _ b=>b.all (·.all (AV.aN m))
 |_=>true
def aO.bR{G:Gh}{w:Zz}(m:Nat){u:kd}{x:AV}(h:aO G w u x):aO G w u (x.bR m):=by
 have F:∀(e:Array kd)(p:I AV),(∀(i:Nat)(u:kd)(c:AV),e[i]?=some u->p[i]?=some c->aO G w u (c.bR m))->∀(i:Nat)(u:kd)(c:AV),e[i]?=some u->(AV.rP m p)[i]?=some c->aO G w u c:=by
  intro e p q i u c J z;rw[IS,Zm]at z;cases A:p[i]? with
  |none=>rw[A]at z;cases z
  |some x=>rw[A]at z;cases z;exact q i u x J A
 induction h with
 |agg e p t _ q=>rw[AV.bR];exact .agg e _ (by rw[IS,Zq];exact t) (F e p q)
 |bn e p t _ q=>rw[AV.bR];exact .bn e _ (by rw[IS,Zq];exact t) (F e p q)
 |fn f e p t _ q=>rw[AV.bR];exact .fn f e _ (by rw[IS,Zq];exact t) (F e p q)
 |own n B h E M v=>
  rw[AV.bR,cond_eq_ite];split;{exact .d E};{exact .own n B h E M v}
 |d h=>simp only[AV.bR];exact .d h
 |ptr n g h=>simp only[AV.bR];exact .ptr n g h
 |bK B i g b o u x A S J=>simp only[AV.bR];exact .bK B i g b o u x A S J
 |full B E v=>simp only[AV.bR];exact .full B E v
 |row n g len cap k h t T=>simp only[AV.bR];exact .row n g len cap k h t T
 |mp n h=>simp only[AV.bR];exact .mp n h
 |cF n h=>simp only[AV.bR];exact .cF n h
 |vec n o len L k h N R v=>simp only[AV.bR];exact .vec n o len L k h N R v
 |eC n i j L k h N R v=>simp only[AV.bR];exact .eC n i j L k h N R v
 |hid h W=>simp only[AV.bR];exact .hid h W
 |dead u=>simp only[AV.bR];exact .dead u
def Gh.cut(G:Gh)(m:Nat):Gh:={G with N:=m}
def aO.cut{G:Gh}{w:Zz}{m:Nat}{u:kd}{x:AV}(h:aO G w u x)(e:x.aN m=true):aO (G.cut m) w u x:=by
 induction h with
 |agg z A q _ B=>
  rw[AV.aN,oe,Zb]at e;exact .agg z A q λi u c t p=>B i u c t p (e c (ZX p))
 |bn z A q _ B=>
  rw[AV.aN,oe,Zb]at e;exact .bn z A q λi u c t p=>B i u c t p (e c (ZX p))
 |fn f z A q _ B=>
  rw[AV.aN,oe,Zb]at e;exact .fn f z A q λi u c t p=>B i u c t p (e c (ZX p))
 |own n E h F J v=>rw[AV.aN]at e;exact .own n E (show n<m by rw[VJ,<-VC,dS]at e;omega) F J v
 |ptr n g h=>rw[AV.aN]at e;exact .ptr (G:=G.cut m) n g (show n<m by rw[VJ,<-VC,dS]at e;omega)
 |row n g len cap k h q R=>rw[AV.aN]at e;exact .row (G:=G.cut m) n g len cap k (show n<m by rw[VJ,<-VC,dS]at e;omega) q R
 |mp n h=>rw[AV.aN]at e;exact .mp (G:=G.cut m) n (show n<m by rw[VJ,<-VC,dS]at e;omega)
 |cF n h=>rw[AV.aN]at e;exact .cF (G:=G.cut m) n (show n<m by rw[VJ,<-VC,dS]at e;omega)
 |vec n o len L k h M N v=>rw[AV.aN]at e;exact .vec (G:=G.cut m) n o len L k (show n<m by rw[VJ,<-VC,dS]at e;omega) M N v
 |eC n i j L k h M N v=>rw[AV.aN]at e;exact .eC (G:=G.cut m) n i j L k (show n<m by rw[VJ,<-VC,dS]at e;omega) M N v
 |hid h S=>exact .hid (G:=G.cut m) h S
 |d h=>exact .d h
 |bK E i g b o u x T W t=>exact .bK E i g b o u x T W t
 |full E F v=>exact .full E F v
 |dead u=>exact .dead u
def St.mask(s:St)(live:I Nat)(m:Nat):St:={s with t:=live.map λk=>(k,(bM s.t k).bR m),h:=(s.h.take m).map (ar.bR m)}
def St.C2(s:St)(live:I Nat)(m:Nat):Prop:=m<=s.h.length/\(live.all λk=>((bM s.t k).bR m).aN m)=true/\(((s.h.take m).map (ar.bR m)).all (ar.aN m))=true
def sK(f:Nat->AV):∀(live:I Nat)(i:Nat),bM (live.map λk=>(k,f k)) i=if i∈live then f i else .dead
 |[],i=>by simp [bM]
 |k::l,i=>by
  simp only[ZS,mi,sK f l i,ZY];by_cases h:i=k;{subst h;simp};{simp [h]}
def TS{G:Gh}{w:Zz}{h:I ar}(hi:cu G w h){m:Nat}(hm:m<=h.length)(hb:(((h.take m).map (ar.bR m)).all (ar.aN m))=true):cu (G.cut m) w ((h.take m).map (ar.bR m)):=by
 have fD:∀(n:Nat)(B:ar),((h.take m).map (ar.bR m))[n]?=some B->n<m/\∃B',h[n]?=some B'/\B=B'.bR m/\(B'.bR m).aN m=true:=λn B t=>by
  have R:=Zb.1 hb B (ZX t);rw[Zm,List.getElem?_take]at t;split at t
  ·rename_i hn
   cases q:h[n]? with
   |none=>rw[q]at t;cases t
   |some B'=>rw[q]at t;cases t;exact⟨hn,B',rfl,rfl,R⟩
  ·cases t
 have fp:∀n b,ct ((h.take m).map (ar.bR m)) (G.cut m) n=some b->ct h G n=some b:=λn b hb=>by
  obtain⟨B,t,hb⟩:=n9 hb;obtain⟨_,B',h1,rfl,_⟩:=fD n B t;rw[eJ h1,<-hb];cases B'<;>rfl
 refine⟨by simp [Gh.cut];omega,hi.z,hi.S,λn B t=> ?_,λi j b h1 h2=>hi.inj i j b (fp i b h1) (fp j b h2),hi.gl⟩;obtain⟨hn,B',h1,rfl,R⟩:=fD n B t;have v:=hi.dJ n B' h1;cases B' with
 |gone=>trivial
 |front e k len=>exact v
 |jq e b=>exact v
 |map kv=>exact v
 |jx kv=>exact v
 |vec e k E=>
  obtain⟨F,J,L,M⟩:=v;refine⟨by rw[Zq];exact F,by rw[Zq];exact J,λc d=> ?_,?_⟩;{obtain⟨x,q,rfl⟩:=W1.1 d;rw[Zq];exact L x q}
  ·rcases M with⟨d1,d2,A,d3⟩|⟨g,cap,cur,d1,d2,d3,d4,d5,d6,d7,d8,d9⟩
   ·exact .inl ⟨d1,by rw[d2];rfl,A,d3⟩
   ·refine .inr ⟨g,cap,cur,d1,by rw[Zq];exact d2,d3,d4,by rw[Zq];exact d5,d6,d7,d8,λi j c x u d q N=> ?_⟩;simp only[ar.bR,ar.aN,Zb]at R;rw[Zm]at d;cases hy:E[i]? with
    |none=>rw[hy]at d;cases d
    |some y=>
     rw[hy]at d;cases d
     have hz:=q;rw[Zm]at q;cases hw:y[j]? with
     |none=>rw[hw]at q;cases q
     |some z=>
      rw[hw]at q;cases q
      exact((d9 i j y z u hy hw N).bR m).cut (R _ (W1.2 ⟨y,ZX hy,rfl⟩) _ (ZX hz))
 |cells E=>
  obtain⟨F,J,W,T,L,M,c5⟩:=v;refine⟨F,J,W,T,L,by rw[Zq];exact M,λi u c N d=> ?_⟩;have kK:=ZX d;rw[Zm]at d;cases q:E[i]? with
  |none=>rw[q]at d;cases d
  |some x=>
   rw[q]at d;cases d
   exact((c5 i u x N q).bR m).cut (Zb.1 R _ kK)
 |lp ls p as bd E=>
  obtain⟨F,J,fn,W,T,L,M,c5⟩:=v;refine⟨F,J,fn,W,T,L,by rw[Zq];exact M,λi u c N d=> ?_⟩;have kK:=ZX d;rw[Zm]at d;cases q:E[i]? with
  |none=>rw[q]at d;cases d
  |some x=>
   rw[q]at d;cases d
   exact((c5 i u x N q).bR m).cut (Zb.1 R _ kK)
 |it sn E=>
  obtain⟨F,J,fn,W,T,L,M,c5⟩:=v;refine⟨F,J,fn,W,T,L,by rw[Zq];exact M,λi u c N d=> ?_⟩;have kK:=ZX d;rw[Zm]at d;cases q:E[i]? with
  |none=>rw[q]at d;cases d
  |some x=>
   rw[q]at d;cases d
   exact((c5 i u x N q).bR m).cut (Zb.1 R _ kK)
 |fG T0 E=>
  obtain⟨F,J,fn,W,T,L,M,c5⟩:=v;refine⟨F,J,fn,W,T,L,by rw[Zq];exact M,λi u c N d=> ?_⟩;have kK:=ZX d;rw[Zm]at d;cases q:E[i]? with
  |none=>rw[q]at d;cases d
  |some x=>
   rw[q]at d;cases d
   exact((c5 i u x N q).bR m).cut (Zb.1 R _ kK)
def rC(N:Nat)(G:Gh)(w:Zz)(m:Nat):cn N G w (G.cut m) w:=
 ⟨Zr _,λ_ _ h=>h,λ_ _ _=>rfl,λ_ _=>rfl,λ_ _=>.inl ⟨rfl,rfl⟩,iO rfl,λ_ _=>rfl,rfl,rfl,rfl,λ_ _ h=>.inl h⟩
section
variable {P:dg} {r:U Nat} {n N0:Nat} {G:Gh} {w:Zz} {a:Act} {s:St} {o:Oper} {Q:Exit->St->Prop}
def dx.mask(b:dx G w a s){live:I Nat}{m:Nat}(h:s.C2 live m):dx (G.cut m) w a (s.mask live m):=by
 obtain⟨c,d,e⟩:=h;refine⟨b.size,λi=> ?_,TS b.inv c e,b.df⟩;show aO _ _ _ (bM (live.map λk=>(k,(bM s.t k).bR m)) i);rw[sK (λk=>(bM s.t k).bR m)];split
 ·rename_i g
  exact((b.tmp i).bR m).cut (Zb.1 d i g)
 ·exact .dead _
def Ph{c:Code}{ι:Type}(live:I Nat)(m:Nat)(d:ι->St)(b:ι->Prop)(μ:ι->Nat)(k:ι)(t:N0<=m)(A:s.C2 live m)(B:s.mask live m=d k)(E:b k)
 (round:∀i,b i->bQ P r N0 c (jk (λs'=>s'.C2 live m/\∃i',s'.mask live m=d i'/\b i'/\μ i'<μ i) Q) (d i)):bQ P r N0 (.loop c) Q s:=by
 constructor
 intro G w a n F _;refine Wv (λ(i:ι) p g=>∃G',b i/\cn N0 G w G' g/\N0<=G'.N/\dx G' g p (d i)) μ k ⟨G.cut m,E,rC _ _ _ _,t,B▸F.mask A⟩ ?_;rintro i p g ⟨G',J,u,L,M⟩;refine wpIn_mono ((round i J).run G' g p n M L) λe a1 w1 R=> ?_;obtain⟨G1,S,v,T,x,z⟩:=R;cases e with
 |normal=>
  obtain⟨q,i',W,h2,h3⟩:=z;exact⟨i',⟨G1.cut m,h2,(u.trans v).trans (rC _ _ _ _),t,W▸x.mask q⟩,h3⟩
 |_=>exact⟨G1,S,u.trans v,T,x,z⟩
def oD(P:dg)(s:St):I ResultVar->(I AV->Prop)->Prop
 |[],C=>C []
 | .tmp t::l,C=>oD P s l λb=>C (bM s.t t::b)
 | .cell p t::l,C=>qq P t s.h (bM s.t p) λx=>oD P s l λb=>C (x::b)
def lx:I AV->AV
 |[x]=>x
 |l=>.bn l
def tz(P:dg)(fn:Func)(m:Nat)(K:AV->I ar->Prop)(s:St):Prop:=oD P s fn.results.toList λl=>m<=s.h.length/\((lx l).bR m).aN m=true/\(((s.h.take m).map (ar.bR m)).all (ar.aN m))=true/\K ((lx l).bR m) ((s.h.take m).map (ar.bR m))
def OU(P:dg)(fn:Func)(m:Nat)(K:AV->I ar->Prop):Exit->St->Prop
 | .normal,s=>tz P fn m K s
 | .ret,s=>tz P fn m K s
 |_,_=>False
def ak6{C:I AV->Prop}(m:dx G w a s)(g:ResultVar->Sem kd)(z:∀t,g (.tmp t)=pure (a.tmps.getD t undef))(T:∀p t,g (.cell p t)=(do loadVar t (<-asAddr (a.tmps.getD p undef)))):
 ∀(l:I ResultVar),oD P s l C->∃(d:I kd)(xs:I AV),(l.mapM g).run P w= .ok d w/\d.length=xs.length/\(∀(i:Nat)(u:kd)(c:AV),d[i]?=some u->xs[i]?=some c->aO G w u c)/\C xs:=by
 intro l
 induction l generalizing C with
 |nil=>exact λh=>⟨[],[],by simp,rfl,λi u c b=>by simp at b,h⟩
 |cons x l N=>
  intro h;cases x with
  |tmp t=>
   obtain⟨d,xs,A,B,E,F⟩:=N h;refine⟨a.tmps.getD t undef::d,bM s.t t::xs,by simp only[List.mapM_cons,z,Sem.run_bind,Sem.run_pure,Result.andThen_ok,A],by simp [B],λi u c b k=> ?_,F⟩
   match i with
   |0=>simp only[List.getElem?_cons_zero,W2]at b k;subst b;subst k;exact m.tmp t
   |i+1=>exact E i u c (by simpa using b) (by simpa using k)
  |cell p t=>
   obtain⟨R,W,J,r2,r3⟩:=YL (P:=P) m.inv (m.tmp p) h;obtain⟨d,xs,A,B,E,F⟩:=N r3;have L:=m.tmp p;have e:∃q,a.tmps.getD p undef= .pointer (some q):=by
    have S:qq P t s.h (bM s.t p) λx=>oD P s l λxs=>C (x::xs):=h;generalize a.tmps.getD p undef=v at L J;generalize bM s.t p=y at L S;cases L with
    |ptr=>exact⟨_,rfl⟩
    |bK=>exact⟨_,rfl⟩
    |_=>exact(show False from S).elim
   obtain⟨q,e⟩:=e;rw[e]at J;have M:(loadVar t q).run P w= .ok R w:=by simpa [Instr.loadAt,Instr.sureAddr]using J
   have ha:(asAddr (a.tmps.getD p undef)).run P w= .ok q w:=by rw[e];rfl
   refine⟨R::d,W::xs,by simp only[List.mapM_cons,T,Sem.run_bind,Sem.run_pure,Result.andThen_ok,A,ha,M],by simp [B],λi u c b k=> ?_,F⟩
   match i with
   |0=>simp only[List.getElem?_cons_zero,W2]at b k;subst b;subst k;exact r2
   |i+1=>exact E i u c (by simpa using b) (by simpa using k)
def aj2:∀(d:I kd)(xs:I AV),d.length=xs.length->(∀(i:Nat)(u:kd)(c:AV),d[i]?=some u->xs[i]?=some c->aO G w u c)->aO G w (if h:d.toArray.size=1 then d.toArray[0]else .tuple d.toArray) (lx xs)
 |[v],[x],_,h=>h 0 v x rfl rfl
 |[],[],_,_=>.bn _ _ rfl λi u c e=>by simp at e
 |v::u::d,x::y::xs,b,h=>by
  have:¬(v::u::d).toArray.size=1:=by simp
  rw[dif_neg this];exact .bn _ _ (by simpa using b) λi p q g k=>h i p q (by simpa using g) k
 |[],_::_,b,_=>by simp at b
 |_::_,[],b,_=>by simp at b
 |[_],_::_::_,b,_=>by simp at b
 |_::_::_,[_],b,_=>by simp at b
def apf{fn:Func}{m:Nat}{K:AV->I ar->Prop}(d:dx G w a s)(h:tz P fn m K s):∃v G' r h',(results fn a.tmps).run P w= .ok v w/\cn N0 G w G' w/\m<=G'.N/\cu G' w h'/\aO G' w v r/\K r h':=by
 obtain⟨g,c⟩:∃g:ResultVar->Sem kd,results fn a.tmps=(do let b <-fn.results.mapM g;pure (if h:b.size=1 then b[0]else .tuple b))/\(∀t,g (.tmp t)=pure (a.tmps.getD t undef))/\(∀p t,g (.cell p t)=(do loadVar t (<-asAddr (a.tmps.getD p undef)))):=
  ⟨_,rfl,λ_=>rfl,λ_ _=>rfl⟩
 obtain⟨b,i,k,q,u,x,z,A,B⟩:=ak6 d g c.2.1 c.2.2 fn.results.toList h;have E:(results fn a.tmps).run P w= .ok (if h:b.toArray.size=1 then b.toArray[0]else .tuple b.toArray) w:=by
  rw[c.1,Sem.run_bind,Array.mapM_eq_mapM_toList];have e:∀X:Sem (I kd),(Functor.map List.toArray X:Sem _)=X>>=λl=>pure l.toArray:=λ_=>rfl;rw[e,Sem.run_bind,k];rfl
 have F:=aj2 b i q u;exact⟨_,G.cut m,_,_,E,rC _ _ _ _,Zr _,TS d.inv x A,(F.bR m).cut z,B⟩
def vU{f:FuncId}{fn:Func}{c:Code}{args:I AV}{h:I ar}{K:AV->I ar->Prop}(m:Nat)(u:P.funcs[f]?=some fn)(A:fn.body=some c)(p:(fn.name== "runtime.NumGoroutine")=false)(L:h.length<=m)
 (R:bQ P none h.length c (OU P fn m K) {n:=args.length+(fn.ntmps-args.length),t:=nj 0 args,h:=h}):dq P f args h K:=by
 refine⟨by unfold O2;rw[u];simp [A];simpa using p,λG w vs b B S=> ?_⟩;refine callsIn_wide (n:=8).1 (callsIn_of_wp_marks (F:=Fence.wide) u A trivial ?_);have T:dx {G with M:=w.heap.size} w {tmps:=vs++Array.replicate (fn.ntmps-vs.size) undef,defers:=[]} {n:=args.length+(fn.ntmps-args.length),t:=nj 0 args,h:=h}:=by
  refine⟨by simp [B],λi=> ?_,b.zm G.Z _ (λ_ h=>h) (Zr _),tC.nil _ _⟩;show aO _ _ _ (bM (nj 0 args) i);rw[S3];simp only[WJ,if_true,Nat.sub_zero];cases E:args[i]? with
  |none=>exact .dead _
  |some x=>
   have q:i<vs.size:=by rw[B];exact(Zk.1 E).1
   have:(vs++Array.replicate (fn.ntmps-vs.size) undef).getD i undef=vs[i]:=by
    simp [Array.getElem?_append_left q,ZH q]
   simp only[this,Option.getD_some];exact(S i _ x (ZH q) E).zm G.Z _
 refine wpIn_mono (R.run _ w _ 8 T (by rw[b.len];exact Zr _)) λe J w' p=> ?_;obtain⟨G1,W,hE,gU,fR,d⟩:=p;have g:tz P fn m K W->LeavesInM Fence.wide 8 P fn J.tmps (λe w'=>∃v G' r k,e= .returned v/\cn G.N G w G' w'/\G.N<=G'.N/\cu G' w' k/\aO G' w' v r/\K r k) J.defers .returning w':=λd=>by
  obtain⟨w2,G2,k1,k2,k3,k4⟩:=asd hE gU b.z b.gl.2 fR;obtain⟨v,G',r,k,r1,r2,r3,r4,r5,r6⟩:=apf (N0:=h.length) k4 d;exact k1 _ _ _ _ _ ⟨v,r1,v,G',r,k,rfl,by rw[<-b.len];exact k2.trans r2,by rw[<-b.len];exact Za L r3,r4,r5,r6⟩
 cases e with
 |normal=>exact g d
 |ret=>exact g d
 |_=>exact d.elim
end
section
variable {P:dg} {r:U Nat} {N0:Nat} {s:St} {Q:Exit->St->Prop}
end
def dq.frame{P:dg}{f:FuncId}{args:I AV}{K:AV->Prop}(A:dq P f args [] λr h=>h=[]/\K r)(ha:args.all (AV.aN 0)=true)(hK:∀r,K r->r.aN 0=true)(h:I ar):
 dq P f args h λr h'=>h'=h/\K r:=by
 refine⟨A.1,λG w t E g p=> ?_⟩;have vf:cu {G with N:=0,Z:=λb=>b<w.heap.size} w []:=⟨rfl,λb hb=>hb,E.S,λn B hB=>by simp at hB,λm n b h1=>by simp [ct]at h1,E.gl⟩;refine(A.2 {G with N:=0,Z:=λb=>b<w.heap.size} w t vf g λi u c F hx=> ?_).mono λe w' hp=> ?_
 ·have:=(p i u c F hx).cut (Zb.1 ha c (ZX hx));clear A;generalize hG:({G with N:=0,Z:=λb=>b<w.heap.size}:Gh)=G0;have e:∀{v y},aO (G.cut 0) w v y->aO G0 w v y:=by
   intro v y hv;subst hG
   induction hv with
   |agg t J g _ M=>exact .agg t J g M
   |bn t J g _ M=>exact .bn t J g M
   |fn f t J g _ M=>exact .fn f t J g M
   |own n T h hp hle hf=>exact absurd h (Z5 _)
   |ptr n q h=>exact absurd h (Z5 _)
   |row n q len cap k h g hm=>exact absurd h (Z5 _)
   |mp n h=>exact absurd h (Z5 _)
   |cF n h=>exact absurd h (Z5 _)
   |vec n o len L k h=>exact absurd h (Z5 _)
   |eC n i j L k h=>exact absurd h (Z5 _)
   |hid h h1=>exact .hid h h1
   |d h=>exact .d h
   |bK T i q b o u x hx hS F=>exact .bK T i q b o u x hx hS F
   |full T hp hf=>exact .full T hp hf
   |dead u=>exact .dead u
  exact e this
 ·obtain⟨v,G',r,h',rfl,R,hN,eY,hv,rfl,hk⟩:=hp;have atl:G'.N=0:=eY.len.symm;have gn:∀b o,G'.S b o->G.S b o\/w.heap.size<=b:=λb o W=>(R.new b o W).imp id Nat.le_of_not_lt;have kr:cn G.N G w {G with S:=G'.S} w':=
   ⟨R.size,R.S,R.cell,λ_ _=>rfl,λ_ _=>.inl ⟨rfl,rfl⟩,iO rfl,λb hb=>R.old b (E.z b hb),R.os,R.tape,R.output,λb o W=>(gn b o W).imp id λlu hz=>by have:=E.z b hz;omega⟩
  refine⟨v,{G with S:=G'.S},r,h,rfl,kr,Zr _,⟨E.len,λb hb=>ZU (E.z b hb) R.size,eY.S,λn B hB=> ?_,λm n b h1 h2=>E.inj m n b h1 h2,E.gl.keep kr⟩,?_,rfl,hk⟩
  ·refine e8.keep (E.lt hB) kr (Zr _) ⟨rfl,rfl,rfl⟩ (λb hb=> ?_) (E.dJ n B hB);have aS:=E.iS (n:=n) (b:=b) ((eJ hB).trans hb);refine⟨R.old _ aS,λo kL W=> ?_⟩;rcases gn _ o W with W|W
   ·exact kL W
   ·omega
  ·have p:=hK r hk;clear hk kr
   induction hv with
   |agg t J g _ M=>
    rw[AV.aN,oe,Zb]at p;exact .agg t J g λi u c F A=>M i u c F A (p c (ZX A))
   |bn t J g _ M=>
    rw[AV.aN,oe,Zb]at p;exact .bn t J g λi u c F A=>M i u c F A (p c (ZX A))
   |fn f t J g _ M=>
    rw[AV.aN,oe,Zb]at p;exact .fn f t J g λi u c F A=>M i u c F A (p c (ZX A))
   |own n T h hp hle hf=>simp [AV.aN,cG]at p
   |ptr n q h=>simp [AV.aN,cG]at p
   |row n q len cap k h g hm=>simp [AV.aN,cG]at p
   |mp n h=>simp [AV.aN,cG]at p
   |cF n h=>simp [AV.aN,cG]at p
   |vec n o len L k h=>simp [AV.aN,cG]at p
   |eC n i j L k h=>simp [AV.aN,cG]at p
   |hid h h1=>exact .hid h h1
   |d h=>exact .d h
   |bK T i q b o u x hx hS F=>exact .bK T i q b o u x hx hS F
   |full T hp hf=>exact .full T hp hf
   |dead u=>exact .dead u
def gZ(P:dg)(f:FuncId)(args:I AV)(K:AV->Prop):Prop:=dq P f args [] λr h=>h=[]/\K r
def gZ.use{P:dg}{f:FuncId}{args:I AV}{r:AV}{h:I ar}{C:AV->I ar->Prop}(b:gZ P f args (·=r))(c:args.all (AV.aN 0)=true)(d:r.aN 0=true)(g:C r h):dq P f args h C:=
 (b.frame c (λ_ e=>e▸d) h).mono λ_ _ ⟨i,k⟩=>by subst i;subst k;exact g
def ass:I FuncId:=[64,86,222]
def ah6:I FuncId:=[53,54,63,64,67,92,94,95,136,156,159,237]
def rF:Operand->Bool
 | .func g=>ass.any (·==g)
 |_=>false
def cS(o:Oper):Nat:=
 match o.op with
 | .move _| .assign _| .pick .. | .nilCheck _| .fieldAddr .. | .field .. | .indexAddr .. | .index .. | .build .. | .buildSlice .. | .slice .. | .extract .. | .makeFunc .. | .binOp .. | .unOp .. | .convert .. =>0
 | .load .. | .lookup .. =>1
 | .alloc _| .box .. =>2
 | .store .. | .makeMap .. | .mapUpdate .. =>3
 | .call c=>match c.callee with
   | .builtin .len| .builtin .max| .builtin .min=>0
   | .builtin .append=>5
   | .value f=>bif rF f then 6 else 4
   |_=>9
 |_=>9
def X9(P:dg)(g:FuncId)(args:I AV)(h:I ar)(C:AV->Prop):Prop:=∃r,C r/\∀e,dq P g args (h++e) λb c=>b=r/\c=h++e
def Ct(P:dg)(o:Oper)(K:St->Prop)(s:St):Prop:=
 match o.op with
 | .call c=>match c.callee with
   | .value f=>match ev s f with
     | .fn g b=>X9 P g (c.args.toList.map (ev s)++b) s.h λr=>K (s.put o.dst r)
     | .hid q=>∃g as,q.app (c.args.toList.map (ev s))=some (g,as)/\X9 P g as s.h λr=>K (s.put o.dst r)
     |_=>False
   |_=>sw P o K s
 |_=>sw P o K s
def kZ(o:Oper):Bool:=
 match o.op with
 | .indexAddr .. | .fieldAddr .. | .nilCheck .. | .load .. | .store .. =>true
 | .call c=>match c.callee with
   | .builtin .len=>true
   |_=>false
 |_=>false
def Oj(o:Oper):Bool:=match o.op with
 | .call c=>match c.callee with
   | .value (.tmp _)=>true
   | .value (.func g)=>ah6.any (·==g)
   |_=>false
 |_=>false
def vo(o:Oper):Bool:=match o.op with
 | .call c=>match c.callee with
   | .builtin .append=>true
   |_=>false
 |_=>false
def oJ(m:Bool)(o:Oper):Bool:=m&&(Oj o||vo o)
def ze(m:Bool)(P:dg)(o:Oper)(K:St->Prop)(s:St):Prop:=Ct P o K s\/(oJ m o=true/\∃x b,K ((s.wh b).put o.dst x)/\∀C:AV->I ar->Prop,C x b->dm P o (ev s) s.h C)\/((kZ o=true/\(m&&cS o==0)=false\/(m&&vo o)=true)/\J1 P o K s)\/(cS o=6/\∃x c,K ((s.wh (s.h++c)).put o.dst x)/\∀C:AV->I ar->Prop,C x (s.h++c)->dm P o (ev s) s.h C)
def kR(P:dg)(o:Oper)(ρ:Operand->AV)(h:I ar)(C:AV->I ar->Prop):Prop:=dm P o ρ h C\/((kZ o=true\/vo o=true)/\∃a x b p,js P o.op ρ h a=some (x,b,p)/\p/\C x b)
def xF(m:Bool)(P:dg)(ops:Array Oper):I Oper->(St->Prop)->St->Prop
 |[],K,s=>K s
 |o::rest,K,s=>jX ops o s (ze m P o (xF m P ops rest K) s) (xF m P ops rest K (s.put o.dst (.d (.v undef))))
abbrev Yl(P:dg)(o:Oper)(K:St->Prop)(s:St):Prop:=ze false P o K s
abbrev Ew(P:dg)(ops:Array Oper)(l:I Oper)(K:St->Prop)(s:St):Prop:=xF false P ops l K s
section
variable {P:dg} {o:Oper} {ρ ρ':Operand->AV} {h:I ar} {C:AV->I ar->Prop}
def Us(x:U Operand)(b:∀y∈x.toArray,ρ y=ρ' y)(d:Nat)(F:Nat->Prop):ln ρ x d F=ln ρ' x d F:=by
 cases x with
 |none=>rfl
 |some y=>simp only[ln,b y (by simp)]
def aor(e:∀x∈o.op.operands,ρ x=ρ' x):dm P o ρ h C=dm P o ρ' h C:=by
 obtain⟨dst,op,type,pos,after,guard⟩:=o;have A:∀m:Array (Nat×Operand),(∀x∈m.map (·.2),ρ x=ρ' x)->(m.toList.map λp=>(p.1,ρ p.2))=(m.toList.map λp=>(p.1,ρ' p.2)):=λm N=>
  Yy λp z=>by rw[N p.2 (Array.mem_map.2 ⟨p,Array.mem_toList_iff.1 z,rfl⟩)]
 have B:∀l:Array Operand,(∀x∈l,ρ x=ρ' x)->l.toList.map ρ=l.toList.map ρ':=λl R=>Yy λx z=>R x (Array.mem_toList_iff.1 z);cases op with
 |build t m=>simp only[dm,A m λx g=>e x (by simpa [Op.operands]using g)]
 |buildSlice t n m=>simp only[dm,A m λx g=>e x (by simpa [Op.operands]using g)]
 |makeFunc S first captured=>
  cases S with
  |func f=>simp only[dm,B captured λx g=>e x (by simp [Op.operands,g]),B first λx g=>e x (by simp [Op.operands,g])]
  |_=>rfl
 |slice t x J L M=>
  have T:ρ x=ρ' x:=e x (by simp [Op.operands]);have W:=λd F=>Us (ρ:=ρ) (ρ':=ρ') J (λy q=>e y (by simp at q;simp [Op.operands,q])) d F;have e3:=λd F=>Us (ρ:=ρ) (ρ':=ρ') L (λy q=>e y (by simp at q;simp [Op.operands,q])) d F;have e4:=λd F=>Us (ρ:=ρ) (ρ':=ρ') M (λy q=>e y (by simp at q;simp [Op.operands,q])) d F;cases J<;>cases L<;>cases M<;>simp only[dm,wP,T,W,e3,e4]
 |call c=>
  have E:c.args.toList.map ρ=c.args.toList.map ρ':=B c.args λx g=>e x (by simp [Op.operands,Call.operands,g]);have z:∀x,x∈c.args.toList->ρ x=ρ' x:=λx g=>e x (by simp [Op.operands,Call.operands];right;exact Array.mem_toList_iff.1 g);cases v:c.callee with
  |value f=>
   have hf:ρ f=ρ' f:=e f (by simp [Op.operands,Call.operands,v]);simp only[dm,v,hf,E]
  |invoke=>simp only[dm,v]
  |builtin b=>
   cases b with
   |len=>
    simp only[dm,v];split
    ·rename_i x _ k _
     rw[z x (by rw[k];simp)]
    ·rfl
   |append=>
    simp only[dm,v];split
    ·rename_i x y _ _ k _
     rw[z x (by rw[k];simp),z y (by rw[k];simp)]
    ·rfl
   |max=>simp only[dm,v,E]
   |min=>simp only[dm,v,E]
   |_=>simp only[dm,v]
 |makeMap t r=>cases r<;>rfl
 |lookup t a b ok=>simp only[dm,rO,e a (by simp [Op.operands]),e b (by simp [Op.operands])]
 |mapUpdate t a b c=>simp only[dm,rO,e a (by simp [Op.operands]),e b (by simp [Op.operands]),e c (by simp [Op.operands])]
 |pick c a b=>simp only[dm,e c (by simp [Op.operands]),e a (by simp [Op.operands]),e b (by simp [Op.operands])]
 |store t a b=>simp only[dm,e a (by simp [Op.operands]),e b (by simp [Op.operands])]
 |binOp op t a b u=>simp only[dm,e a (by simp [Op.operands]),e b (by simp [Op.operands])]
 |indexAddr t a b=>simp only[dm,e a (by simp [Op.operands]),e b (by simp [Op.operands])]
 |index t a b=>simp only[dm,e a (by simp [Op.operands]),e b (by simp [Op.operands])]
 |move a|assign a|box t a|load t a|nilCheck a|fieldAddr t a f|field t a f|extract a i|unOp op t a|convert t u a=>simp only[dm,e a (by simp [Op.operands])]
 |_=>rfl
def ajk(i:kZ o=true\/vo o=true)(e:∀x∈o.op.operands,ρ x=ρ' x)(a:VA):js P o.op ρ h a=js P o.op ρ' h a:=by
 obtain⟨dst,op,type,pos,after,guard⟩:=o;cases op with
 |store t a b=>simp only[js,e a (by simp [Op.operands]),e b (by simp [Op.operands])]
 |indexAddr t a b=>simp only[js,e a (by simp [Op.operands]),e b (by simp [Op.operands])]
 |load t a|nilCheck a|fieldAddr t a f=>simp only[js,e a (by simp [Op.operands])]
 |call c=>
  have k:∀x,x∈c.args.toList->ρ x=ρ' x:=λx m=>e x (by simp [Op.operands,Call.operands];right;exact Array.mem_toList_iff.1 m);cases g:c.callee with
  |builtin b=>
   cases b with
   |len=>
    simp only[js,g];split
    ·rename_i x _ d _
     rw[k x (by rw[d];simp)]
    ·rfl
   |append=>
    simp only[js,g];split
    ·rename_i x y _ _ d _
     rw[k x (by rw[d];simp),k y (by rw[d];simp)]
    ·rfl
   |_=>simp [kZ,vo,g]at i
  |_=>simp [kZ,vo,g]at i
 |_=>simp [kZ,vo]at i
def Tx(b:∀x∈o.op.operands,ρ x=ρ' x):kR P o ρ h C=kR P o ρ' h C:=by
 unfold kR;rw[aor b];by_cases c:kZ o=true\/vo o=true;{simp only[ajk c b]};{simp only[c,false_and]}
end
def akz:ar->Bool
 | .cells _| .map _| .vec .. =>true
 |_=>false
def o6:U ar->U (Nat×Nat)
 |some (.vec _ k b)=>some (k,b.length)
 |_=>none
def j0(h h':I ar):Prop:=∀(m:Nat)(q:Nat×Nat),o6 h[m]?=some q->o6 h'[m]?=some q
def jF(h h':I ar):Prop:=∀m:Nat,o6 h[m]?=o6 h'[m]?
def jF.i{h h':I ar}(e:jF h h'):j0 h h':=λm q b=>by rw[<-e m];exact b
def jF.j{h h':I ar}(e:jF h h'):j0 h' h:=λm q b=>by rw[e m];exact b
def j0.refl(h:I ar):j0 h h:=λ_ _ e=>e
def j0.trans{a b c:I ar}(x:j0 a b)(y:j0 b c):j0 a c:=λm q e=>y m q (x m q e)
def j0.app(h e:I ar):j0 h (h++e):=λm q b=>by
 by_cases c:m<h.length;{rw[ZW c];exact b};{rw[Yz (by omega)]at b;cases b}
def jF.app{h:I ar}{B:ar}(b:o6 (some B)=none):jF h (h++[B]):=λm=>by
 by_cases c:m<h.length;{rw[ZW c]}
 ·rw[ZC (by omega),Yz (by omega:h.length<=m)];by_cases d:m-h.length=0
  ·rw[d];exact b.symm
  ·rw[Yz (by simp;omega)]
def jF.set{h:I ar}{n:Nat}{B B':ar}(b:h[n]?=some B)(c:o6 (some B)=o6 (some B')):jF h (h.set n B'):=λm=>by
 by_cases e:n=m;{subst e;rw[Z1 (Zk.1 b).1,b];exact c};{rw[Z3 e]}
def jY(h h':I ar):Prop:=∀(n:Nat)(B:ar),h[n]?=some B->akz B=true->h'[n]?=some B
def jY.app(h e:I ar):jY h (h++e):=λn c b _=>by
 rw[ZW (Zk.1 b).1];exact b
def jY.refl(h:I ar):jY h h:=λ_ _ b _=>b
def alU{P:dg}{ρ:Operand->AV}{h h1:I ar}{T:TypeId}{m i:Operand}{ok:Bool}{x:AV}{p:Sd}(c:rO P (.lookup T m i ok) ρ h=some (x,h1,p)):h1=h/\∀h',jY h h'->rO P (.lookup T m i ok) ρ h'=some (x,h',p):=by
 simp only[rO]at c ⊢;split at c
 ·next k e t=>
  split at c
  ·next z u=>
   split at c
   ·next b v A B=>
    split at c
    ·next E g=>
     cases d:ja P k with
     |false=>rw[d]at c;cases c
     |true=>
      rw[d]at c;cases c
      refine⟨rfl,λh' q=> ?_⟩;rw[q b _ g rfl];simp only[V1]
    ·cases c
   ·cases c
  ·cases c
 ·cases c
def Xq{h:I ar}{n e k:Nat}{cs:I (I AV)}(b:h[n]?=some (.vec e k cs)):o6 h[n]?=some (k,cs.length):=by rw[b];rfl
def Z6{h:I ar}{n k l:Nat}(b:o6 h[n]?=some (k,l)):∃e cs,h[n]?=some (.vec e k cs)/\cs.length=l:=by
 unfold o6 at b;split at b;{next e d cs c=>cases b;exact⟨e,cs,c,rfl⟩};{cases b}
def aoq{P:dg}{o:Oper}{ρ:Operand->AV}{h h1:I ar}{a:VA}{x:AV}{p:Prop}(m:kZ o=true)(M:cS o=0)(d:js P o.op ρ h a=some (x,h1,p))(q:p):h1=h/\∀h',j0 h h'->∃p',js P o.op ρ h' a=some (x,h',p')/\p':=by
 obtain⟨dst,op,type,pos,after,guard⟩:=o;cases op with
 |indexAddr T y i=>
  simp only[js]at d ⊢;split at d
  ·next n o len L k z e k' i' u N e3=>
   split at d
   ·next e4 R S v=>
    obtain⟨g,A⟩:=nW d;cases A
    rw[Zo,Ve,Ve]at g;obtain⟨rfl,rfl⟩:=g;refine⟨rfl,λh' B=> ?_⟩;obtain⟨W,E,q1,F⟩:=Z6 (B n _ (Xq v));simp only[q1,Ys,Bool.and_self,V1];exact⟨_,rfl,by rw[F];exact q.1,q.2⟩
   ·cases d
  ·cases d
 |fieldAddr T y f=>
  simp only[js]at d ⊢;split at d;{next u N=>cases d;exact⟨rfl,λh' _=>⟨_,rfl,trivial⟩⟩};{cases d}
 |nilCheck y=>
  simp only[js]at d ⊢;split at d;{next u=>cases d;exact⟨rfl,λh' _=>⟨_,rfl,trivial⟩⟩};{cases d}
 |call c=>
  cases J:c.callee with
  |builtin b=>
   cases b with
   |len=>
    simp only[js,J]at d ⊢;split at d
    ·split at d
     ·next n o len L k u=>
      split at d
      ·next N R S v=>
       obtain⟨g,A⟩:=nW d;cases A
       rw[Zo,Ve]at g;obtain⟨iP,rfl⟩:=g;refine⟨rfl,λh' B=> ?_⟩;obtain⟨W,E,q1,F⟩:=Z6 (B n _ (Xq v));simp only[q1,iP,Ys,Bool.and_self,V1];exact⟨_,rfl,by rw[F];exact q⟩
      ·cases d
     ·cases d
    ·cases d
   |_=>simp [kZ,J]at m
  |_=>simp [kZ,J]at m
 |load t y=>simp [cS]at M
 |store t y z=>simp [cS]at M
 |_=>simp [kZ]at m
def alp{P:dg}{o:Oper}{ρ:Operand->AV}{h h1:I ar}{a:VA}{x:AV}{p:Prop}(m:kZ o=true)(d:cS o=1)(e:js P o.op ρ h a=some (x,h1,p))(q:p):h1=h/\∀h',jY h h'->∃p',js P o.op ρ h' a=some (x,h',p')/\p':=by
 obtain⟨dst,op,type,pos,after,guard⟩:=o;cases op with
 |load t y=>
  simp only[js]at e ⊢;split at e
  ·next n i j L k c J=>
   split at e
   ·next M N R z u v=>
    obtain⟨A,B⟩:=nW e;cases B
    refine⟨rfl,λh' E=> ?_⟩;simp only[E n _ u rfl,v,A,V1];exact⟨_,rfl,q⟩
   ·cases e
  ·cases e
 |indexAddr T y i=>simp [cS]at d
 |fieldAddr T y f=>simp [cS]at d
 |nilCheck y=>simp [cS]at d
 |call c=>
  cases g:c.callee with
  |builtin b=>cases b<;>simp [cS,g]at d
  |value f=>cases F:rF f<;>simp [cS,g,F]at d
  |invoke=>simp [cS,g]at d
 |store t y z=>simp [cS]at d
 |_=>simp [kZ]at m
def arD{P:dg}{o:Oper}{ρ:Operand->AV}{h h1:I ar}{a:VA}{x:AV}{p:Prop}(v:kZ o=true)(d:cS o=3)(g:js P o.op ρ h a=some (x,h1,p))(A:p):jF h h1:=by
 obtain⟨dst,op,type,pos,after,guard⟩:=o;cases op with
 |store t y z=>
  simp only[js]at g;split at g
  ·next n i j L k c J M=>
   split at g
   ·next e N R q B S=>
    obtain⟨u,E⟩:=nW g;cases E
    simp only[Zo,Ve]at u;refine jF.set B ?_;simp only[o6,YR,A.2.2,u.1.1.1.1]
   ·cases g
  ·cases g
 |load t y=>simp [cS]at d
 |indexAddr T y i=>simp [cS]at d
 |fieldAddr T y f=>simp [cS]at d
 |nilCheck y=>simp [cS]at d
 |call c=>
  cases m:c.callee with
  |builtin b=>cases b<;>simp [cS,m]at d
  |value f=>cases F:rF f<;>simp [cS,m,F]at d
  |invoke=>simp [cS,m]at d
 |_=>simp [kZ]at v
def kT(m:Bool)(o:Oper):Nat:=bif oJ m o then 7 else cS o
def ff(m:Bool)(P:dg)(o:Oper)(ρ:Operand->AV)(h:I ar)(x:AV)(h1:I ar):Prop:=
 match kT m o with
 |0=>h1=h/\∀b,(m=true\/j0 h b)->∀C:AV->I ar->Prop,C x b->kR P o ρ b C
 |1=>h1=h/\∀b,jY h b->∀C:AV->I ar->Prop,C x b->kR P o ρ b C
 |2=>∃B,o6 (some B)=none/\x= .ptr h.length 0/\h1=h++[B]/\∀b(C:AV->I ar->Prop),C (.ptr b.length 0) (b++[B])->kR P o ρ b C
 |3=>jF h h1/\∀C:AV->I ar->Prop,C x h1->kR P o ρ h C
 |4=>h1=h/\∀e(C:AV->I ar->Prop),C x (h++e)->kR P o ρ (h++e) C
 |5=>(jY h h1/\jY h1 h/\jF h h1)/\∀C:AV->I ar->Prop,C x h1->kR P o ρ h C
 |6=>∃c,h1=h++c/\∀C:AV->I ar->Prop,C x h1->kR P o ρ h C
 |7=>∀C:AV->I ar->Prop,C x h1->kR P o ρ h C
 |_=>False
section
variable {P:dg} {o:Oper} {ρ ρ':Operand->AV} {h:I ar} {C:AV->I ar->Prop}
def apc{p:AV}{K:I AV->Nat->Prop}(b:tL h p K):∃cs off,K cs off/\∀h',jY h h'->∀K':I AV->Nat->Prop,K' cs off->tL h' p K':=by
 unfold tL at b ⊢;split at b
 ·rename_i n off
  split at b
  ·rename_i cs d
   refine⟨cs,off,b,λh' e K' c=> ?_⟩;rw[e n _ d rfl];exact c
  ·exact b.elim
 ·rename_i g i off
  split at b
  ·rename_i cs d
   refine⟨_,off,b,λh' _ K' c=> ?_⟩;exact c
  ·exact b.elim
 ·exact b.elim
def ag8{t:Nat}{p:AV}{K:AV->Prop}(g:qq P t h p K):∃x,K x/\∀h',jY h h'->∀K':AV->Prop,K' x->qq P t h' p K':=by
 unfold qq at g ⊢;obtain⟨q,k,b,i⟩:=apc g;split at b;{rw[cv]at b;refine⟨_,b.2,λh' d K' e=>i h' d _ ?_⟩;exact cv.2 ⟨b.1,e⟩}
 ·split at b
  ·rename_i c m
   refine⟨c,b,λh' d K' e=>i h' d _ ?_⟩;simp only[m];exact e
  ·exact b.elim
 ·exact b.elim
def vJ{x:U Operand}{d:Nat}{F:Nat->Prop}(b:ln ρ x d F):∃m,F m/\∀F':Nat->Prop,F' m->ln ρ x d F':=by
 cases x with
 |none=>exact⟨d,b,λ_ h=>h⟩
 |some y=>
  simp only[ln]at b;split at b
  ·rename_i z c
   exact⟨_,b.2,λF' e=>by simp only[ln,c];exact⟨b.1,e⟩⟩
  ·exact b.elim
def al9(hk:cS o=0)(v:dm P o ρ h C):∃x,C x h/\∀h'(C':AV->I ar->Prop),C' x h'->dm P o ρ h' C':=by
 have vT:∀(F:(AV->Prop)->Prop),(∀K,F K->∃x,K x/\∀E,E x->F E)->F (λx=>C x h)->(∀h' C',dm P o ρ h' C'=F (λx=>C' x h'))->∃x,C x h/\∀h'(C':AV->I ar->Prop),C' x h'->dm P o ρ h' C':=λF M R he=>by
  obtain⟨x,J,L⟩:=M _ R;exact⟨x,J,λh' C' B=>by rw[he];exact L _ B⟩
 obtain⟨dst,op,type,pos,after,guard⟩:=o;cases op with
 |move a=>exact⟨ρ a,v,λ_ _ h=>h⟩
 |assign a=>exact⟨ρ a,v,λ_ _ h=>h⟩
 |pick c a b=>
  simp only[dm]at v;split at v
  ·rename_i t ht
   cases t with
   |true=>exact⟨ρ a,v.1 rfl,λh' C' B=>by simp only[dm,ht];exact⟨λ_=>B,λe=>by cases e⟩⟩
   |false=>exact⟨ρ b,v.2 rfl,λh' C' B=>by simp only[dm,ht];exact⟨λe=>(by cases e),λ_=>B⟩⟩
  ·exact v.elim
 |nilCheck a=>
  simp only[dm]at v;split at v;{rename_i m S e;exact⟨_,v,λh' C' B=>by simp only[dm,e];exact B⟩};{rename_i xs i S e;exact⟨_,v,λh' C' B=>by simp only[dm,e];exact B⟩};{rename_i f cs e;exact⟨_,v,λh' C' B=>by simp only[dm,e];exact B⟩};{exact v.elim}
 |fieldAddr t a f=>
  simp only[dm]at v;split at v
  ·rename_i fo k g hf
   split at v;{rename_i m S e;exact⟨_,v,λh' C' B=>by simp only[dm,hf,e];exact B⟩};{rename_i xs i S e;exact⟨_,v,λh' C' B=>by simp only[dm,hf,e];exact B⟩};{exact v.elim}
  ·exact v.elim
 |field t a f=>
  refine vT (Aw P t (ρ a) f) (λK q=> ?_) v (λ_ _=>rfl);unfold Aw at q ⊢;split at q;{rw[cv]at q;exact⟨_,q.2,λE A=>cv.2 ⟨q.1,A⟩⟩}
  ·split at q
   ·rename_i c gP;exact⟨c,q,λE A=>A⟩
   ·exact q.elim
  ·exact q.elim
 |indexAddr t a b=>
  refine vT (uW P t (ρ a) (ρ b)) (λK q=> ?_) v (λ_ _=>rfl);unfold uW at q ⊢;split at q
  ·rename_i e k hT
   split at q
   ·rename_i n S len cap k'
    split at q
    ·rename_i z hz
     rw[cv]at q;obtain⟨J,L,N,h4⟩:=q;exact⟨_,h4,λE A=>cv.2 ⟨J,L,N,A⟩⟩
    ·exact q.elim
   ·split at q
    ·rename_i xs z nh hz
     obtain⟨R,q⟩:=q;split at q
     ·rename_i c gP
      exact⟨_,q.2,λE A=>⟨R,q.1,A⟩⟩
     ·exact q.elim
    ·exact q.elim
  ·split at q
   ·rename_i n e k b' S z hT hz
    obtain⟨J,L,N⟩:=q;exact⟨_,N,λE A=>⟨J,L,A⟩⟩
   ·rename_i n e k xs i' S z hT hz
    rw[cv]at q;obtain⟨R,J,L,N⟩:=q;split at N
    ·rename_i c gP
     split at N
     ·rename_i d hd
      exact⟨_,N,λE A=>cv.2 ⟨R,J,L,A⟩⟩
     ·exact N.elim
    ·exact N.elim
   ·exact q.elim
 |index t a b=>
  simp only[dm]at v;split at v
  ·rename_i bb z e1 e2
   rw[cv]at v;obtain⟨J,L,N⟩:=v;split at N
   ·rename_i c gP
    exact⟨_,N,λh' C' B=>by simp only[dm,e1,e2];exact cv.2 ⟨J,L,by simp only[gP];exact B⟩⟩
   ·exact N.elim
  ·exact v.elim
 |build t ps=>
  refine vT (yB P t (ps.toList.map λp:Nat×Operand=>(p.1,ρ p.2))) (λK q=> ?_) v (λ_ _=>rfl);unfold yB at q ⊢;split at q
  ·split at q
   ·rename_i cs iF
    rw[cv]at q;exact⟨_,q.2,λE A=>cv.2 ⟨q.1,A⟩⟩
   ·exact q.elim
  ·exact q.elim
 |buildSlice t n ps=>
  refine vT (Al P t n (ps.toList.map λp:Nat×Operand=>(p.1,ρ p.2))) (λK q=> ?_) v (λ_ _=>rfl);unfold Al at q ⊢;split at q
  ·split at q
   ·split at q
    ·rename_i cs iF
     split at q
     ·rename_i ds pR
      rw[cv]at q;exact⟨_,q.2,λE A=>cv.2 ⟨q.1,A⟩⟩
     ·exact q.elim
    ·exact q.elim
   ·exact q.elim
  ·exact q.elim
 |slice t a lo hi mx=>
  refine vT (wP P t ρ (ρ a) lo hi mx) (λK q=> ?_) v (λ_ _=>rfl);unfold wP at q ⊢;split at q
  ·split at q
   ·rw[cv]at q;obtain⟨R,q⟩:=q;obtain⟨m1,q,j1⟩:=vJ q;obtain⟨J,q⟩:=q;obtain⟨m2,q,j2⟩:=vJ q;obtain⟨L,q⟩:=q;exact⟨_,q,λE A=>cv.2 ⟨R,j1 _ ⟨J,j2 _ ⟨L,A⟩⟩⟩⟩
   ·split at q
    ·rw[cv]at q;obtain⟨R,q⟩:=q;obtain⟨m1,q,j1⟩:=vJ q;rw[cv]at q;obtain⟨J,q⟩:=q;obtain⟨m2,q,j2⟩:=vJ q;rw[cv]at q;obtain⟨L,q⟩:=q;exact⟨_,q,λE A=>by rw[cv];exact⟨R,j1 _ (by rw[cv];exact⟨J,j2 _ (by rw[cv];exact⟨L,A⟩)⟩)⟩⟩
    ·exact q.elim
   ·split at q
    ·obtain⟨R,q⟩:=q;obtain⟨m1,q,j1⟩:=vJ q;obtain⟨J,q⟩:=q;obtain⟨m2,q,j2⟩:=vJ q;obtain⟨L,q⟩:=q;exact⟨_,q,λE A=>⟨R,j1 _ ⟨J,j2 _ ⟨L,A⟩⟩⟩⟩
    ·exact q.elim
  ·split at q
   ·split at q
    ·obtain⟨R,q⟩:=q;obtain⟨m1,q,j1⟩:=vJ q;obtain⟨J,q⟩:=q;obtain⟨m2,q,j2⟩:=vJ q;obtain⟨L,q⟩:=q;exact⟨_,q,λE A=>⟨R,j1 _ ⟨J,j2 _ ⟨L,A⟩⟩⟩⟩
    ·exact q.elim
   ·exact q.elim
 |extract a i=>
  simp only[dm]at v;split at v
  ·rename_i cs e
   split at v;{rename_i c gP;exact⟨c,v,λh' C' B=>by simp only[dm,e,gP];exact B⟩};{exact v.elim}
  ·exact v.elim
 |makeFunc fn first dC=>
  cases fn with
  |func f=>
   simp only[dm]at v;split at v;{rename_i e;exact⟨_,v,λh' C' B=>by simp only[dm,e];exact B⟩};{exact v.elim}
  |_=>exact v.elim
 |binOp op t a b u=>
  refine vT (yW P t op (ρ a) (ρ b)) (λK q=> ?_) v (λ_ _=>rfl);unfold yW at q ⊢;split at q
  ·split at q
   ·rw[cv]at q;exact⟨_,q.2.2,λE A=>cv.2 ⟨q.1,q.2.1,A⟩⟩
   ·split at q
    ·exact⟨_,q.2,λE A=>⟨q.1,A⟩⟩
    ·split at q
     ·rw[cv]at q;exact⟨_,q.2,λE A=>cv.2 ⟨q.1,A⟩⟩
     ·exact q.elim
  ·split at q
   ·exact⟨_,q,λE A=>A⟩
   ·split at q
    ·exact⟨_,q.2,λE A=>⟨q.1,A⟩⟩
    ·exact q.elim
  ·split at q
   ·rw[cv]at q;exact⟨_,q.2,λE A=>cv.2 ⟨q.1,A⟩⟩
   ·exact q.elim
  ·split at q
   ·split at q
    ·exact⟨_,q,λE A=>A⟩
    ·exact q.elim
   ·exact q.elim
  ·exact q.elim
 |unOp op t a=>
  refine vT (Ah op (ρ a)) (λK q=> ?_) v (λ_ _=>rfl);unfold Ah at q ⊢;split at q
  ·split at q
   ·exact⟨_,q,λE A=>A⟩
   ·exact q.elim
  ·exact q.elim
 |convert t u a=>
  refine vT (yL P t u (ρ a)) (λK q=> ?_) v (λ_ _=>rfl);unfold yL at q ⊢;split at q
  ·split at q
   ·exact⟨_,q,λE A=>A⟩
   ·exact q.elim
  ·rw[cv]at q;exact⟨_,q.2,λE A=>cv.2 ⟨q.1,A⟩⟩
  ·split at q
   ·rw[cv]at q;obtain⟨J,ns,L,N⟩:=q;exact⟨_,N,λE A=>cv.2 ⟨J,ns,L,A⟩⟩
   ·exact q.elim
 |call c=>
  simp only[cS]at hk;cases W:c.callee with
  |value f=>cases nJ:rF f<;>simp [W,nJ]at hk
  |invoke=>simp [W]at hk
  |builtin b=>
   cases b with
   |len=>
    simp only[dm,W]at v;split at v
    ·rename_i x T e1 e2
     have key:∀F:Nat->Prop,ua P T (ρ x) F->∃m,F m/\∀F':Nat->Prop,F' m->ua P T (ρ x) F':=λF M=>by
      unfold ua at M ⊢;split at M;{rw[cv]at M;exact⟨_,M.2,λF' mE=>cv.2 ⟨M.1,mE⟩⟩};{rw[cv]at M;exact⟨_,M.2,λF' mE=>cv.2 ⟨M.1,mE⟩⟩}
      ·split at M
       ·rw[cv]at M;exact⟨_,M.2,λF' mE=>cv.2 ⟨M.1,mE⟩⟩
       ·exact M.elim
     obtain⟨m,J,L⟩:=key _ v;exact⟨_,J,λh' C' B=>by simp only[dm,W,e1,e2];exact L _ B⟩
    ·exact v.elim
   |max=>
    simp only[dm,W]at v;split at v
    ·rename_i e1
     exact⟨_,v,λh' C' B=>by simp only[dm,W,e1];exact B⟩
    ·exact v.elim
   |min=>
    simp only[dm,W]at v;split at v
    ·rename_i e1
     exact⟨_,v,λh' C' B=>by simp only[dm,W,e1];exact B⟩
    ·exact v.elim
   |_=>simp [W]at hk
 |_=>simp [cS]at hk
def ak0(g:cS o=2)(d:dm P o ρ h C):∃B,o6 (some B)=none/\C (.ptr h.length 0) (h++[B])/\∀h'(C':AV->I ar->Prop),C' (.ptr h'.length 0) (h'++[B])->dm P o ρ h' C':=by
 obtain⟨dst,op,type,pos,after,guard⟩:=o;cases op with
 |alloc e=>
  simp only[dm]at d;split at d;{rename_i z m;exact⟨_,rfl,d,λh' C' i=>by simp only[dm,m];exact i⟩};{exact d.elim}
 |box e x=>
  simp only[dm]at d;rw[cv]at d;exact⟨_,rfl,d.2,λh' C' i=>by simp only[dm];rw[cv];exact⟨d.1,i⟩⟩
 |call c=>
  simp only[cS]at g;cases k:c.callee with
  |value f=>cases p:rF f<;>simp [k,p]at g
  |invoke=>simp [k]at g
  |builtin b=>cases b<;>simp [k]at g
 |_=>simp [cS]at g
def aiu(i:cS o=3)(e:dm P o ρ h C):∃x h1,C x h1/\jF h h1/\∀C':AV->I ar->Prop,C' x h1->dm P o ρ h C':=by
 obtain⟨dst,op,type,pos,after,guard⟩:=o;cases op with
 |store t a b=>
  simp only[dm]at e;have m:∀F:I ar->Prop,xU P t h (ρ a) (ρ b) F->∃h1,F h1/\jF h h1/\∀F':I ar->Prop,F' h1->xU P t h (ρ a) (ρ b) F':=λF g=>by
   unfold xU at g ⊢;split at g
   ·split at g
    ·next q=>
     split at g;{rw[cv]at g;exact⟨_,g.2,jF.set q rfl,λF' z=>cv.2 ⟨g.1,z⟩⟩};{exact g.elim}
    ·exact g.elim
   ·exact g.elim
  obtain⟨h1,A,B,E⟩:=m _ e;exact⟨_,h1,A,B,λC' k=>by simp only[dm];exact E _ k⟩
 |makeMap t r=>
  simp only[dm]at e;split at e
  ·rename_i x u p d
   refine⟨x,u,e.2,?_,λC' k=>by simp only[dm,d];exact⟨e.1,k⟩⟩;unfold rO at d;cases r with
   |none=>
    simp only at d;split at d;{cases d;exact jF.app rfl};{cases d}
   |some r=>cases d
  ·exact e.elim
 |mapUpdate t a b c=>
  simp only[dm]at e;split at e
  ·rename_i x u p d
   refine⟨x,u,e.2,?_,λC' k=>by simp only[dm,d];exact⟨e.1,k⟩⟩;unfold rO at d;simp only at d;split at d
   ·split at d
    ·split at d
     ·next q=>
      obtain⟨M,J⟩:=nW d;cases J
      exact jF.set q rfl
     ·cases d
    ·cases d
   ·cases d
  ·exact e.elim
 |call c=>
  simp only[cS]at i;cases v:c.callee with
  |value f=>cases L:rF f<;>simp [v,L]at i
  |invoke=>simp [v]at i
  |builtin b=>cases b<;>simp [v]at i
 |_=>simp [cS]at i
def Xp{n:Nat}{e:TypeId}{k l e' g i:Nat}(d:h[n]?=some (.front e' g i)):jY h (h.set n (.front e k l))/\jY (h.set n (.front e k l)) h:=by
 refine⟨λm p b c=> ?_,λm p b c=> ?_⟩
 ·have:n≠m:=λe=>by subst e;rw[d]at b;cases b;cases c
  rw[Z3 this];exact b
 ·by_cases e:n=m
  ·subst e;rw[Z1 (Zk.1 d).1]at b;cases b;cases c
  ·rw[Z3 e]at b;exact b
def MH{e:TypeId}{k l:Nat}:jY h (h++[.front e k l])/\jY (h++[.front e k l]) h:=by
 refine⟨jY.app _ _,λm i b c=> ?_⟩;by_cases d:m<h.length;{rw[ZW d]at b;exact b}
 ·rw[ZC (by omega)]at b;by_cases g:m-h.length=0
  ·rw[g]at b;cases b;cases c
  ·rw[Yz (by simp;omega)]at b;cases b
def ain(m:cS o=5)(i:dm P o ρ h C):∃x h1,C x h1/\(jY h h1/\jY h1 h/\jF h h1)/\∀C':AV->I ar->Prop,C' x h1->dm P o ρ h C':=by
 obtain⟨dst,op,type,pos,after,guard⟩:=o;cases op with
 |call c=>
  simp only[cS]at m;cases p:c.callee with
  |value f=>cases N:rF f<;>simp [p,N]at m
  |invoke=>simp [p]at m
  |builtin b=>
   cases b with
   |append=>
    simp only[dm,p]at i;split at i
    ·rename_i x y T d R S
     rw[cv]at i;have z:∀(k:Nat)(y:AV)(F:I (I D)->Prop),xx h k y F->∃A,F A/\∀F':I (I D)->Prop,F' A->xx h k y F':=λk y F e=>by
       unfold xx at e ⊢;split at e
       ·split at e
        ·split at e
         ·rw[cv]at e;exact⟨_,e.2,λF' g=>cv.2 ⟨e.1,g⟩⟩
         ·exact e.elim
        ·exact e.elim
       ·split at e
        ·exact⟨_,e.2,λF' g=>⟨e.1,g⟩⟩
        ·exact e.elim
     have B:∀F:AV->I ar->Prop,wM P T h (ρ x) (ρ y) F->∃v h1,F v h1/\(jY h h1/\jY h1 h/\jF h h1)/\∀F':AV->I ar->Prop,F' v h1->wM P T h (ρ x) (ρ y) F':=λF e=>by
      unfold wM at e ⊢;split at e
      ·split at e
       ·rw[cv]at e;obtain⟨E,e⟩:=e;obtain⟨A,e,J⟩:=z _ _ _ e;split at e
        ·split at e
         ·rename_i L
          rw[cv]at e;obtain⟨W,g2,M,q,t,u⟩:=e;exact⟨_,_,u,⟨(Xp L).1,(Xp L).2,jF.set L rfl⟩,λF' g=>cv.2 ⟨E,J _ (cv.2 ⟨W,g2,M,q,t,g⟩)⟩⟩
         ·exact e.elim
        ·obtain⟨q,t,u⟩:=e;exact⟨_,_,u,⟨MH.1,MH.2,jF.app rfl⟩,λF' g=>cv.2 ⟨E,J _ ⟨q,t,g⟩⟩⟩
        ·obtain⟨M,q,t,u⟩:=e;exact⟨_,_,u,⟨MH.1,MH.2,jF.app rfl⟩,λF' g=>cv.2 ⟨E,J _ ⟨M,q,t,g⟩⟩⟩
        ·exact e.elim
       ·exact e.elim
      ·exact e.elim
     obtain⟨v,h1,k1,c1,k2⟩:=B _ i.2;exact⟨v,h1,k1,c1,λC' eD=>by simp only[dm,p,R,S];rw[cv];exact⟨i.1,k2 _ eD⟩⟩
    ·exact i.elim
   |_=>simp [p]at m
 |_=>simp [cS]at m
def WE{m:Bool}(lN:oJ m o=false){s:St}{K:St->Prop}(z:Ct P o K s):∃x h1,ff m P o (ev s) s.h x h1/\K ((s.wh h1).put o.dst x):=by
 have F:kT m o=cS o:=by unfold kT;rw[lN];rfl
 have plain:sw P o K s->cS o≠4->cS o≠6->∃x h1,ff m P o (ev s) s.h x h1/\K ((s.wh h1).put o.dst x):=λk S HH=>by
  unfold sw at k;by_cases J:cS o=0;{obtain⟨x,h1,T⟩:=al9 J k;exact⟨x,s.h,by unfold ff;rw[F,J];exact⟨rfl,λv _ i d=>.inl (T v i d)⟩,h1⟩}
  ·by_cases h1:cS o=1
   ·obtain⟨dst,op,type,pos,after,guard⟩:=o;cases op with
    |load t a=>
     simp only[dm]at k;obtain⟨x,L,A⟩:=ag8 k;exact⟨x,s.h,by unfold ff;rw[F,h1];exact⟨rfl,λv hh i d=>.inl (by simp only[dm];exact A v hh _ d)⟩,L⟩
    |lookup t a b ok=>
     simp only[dm]at k;split at k
     ·rename_i x v p hx
      obtain⟨rfl,A⟩:=alU hx;exact⟨x,s.h,by unfold ff;rw[F,h1];exact⟨rfl,λv hh i d=>.inl (by simp only[dm,A v hh];exact⟨k.1,d⟩)⟩,k.2⟩
     ·exact k.elim
    |call c=>
     simp only[cS]at h1;cases u:c.callee with
     |value f=>cases nJ:rF f<;>simp [u,nJ]at h1
     |invoke=>simp [u]at h1
     |builtin b=>cases b<;>simp [u]at h1
    |_=>simp [cS]at h1
   ·by_cases T:cS o=2
    ·obtain⟨B,kB,L,A⟩:=ak0 T k;exact⟨_,_,by unfold ff;rw[F,T];exact⟨B,kB,rfl,rfl,λv i d=>.inl (A v i d)⟩,L⟩
    ·by_cases M:cS o=3
     ·obtain⟨x,nQ,L,kv,A⟩:=aiu M k;exact⟨x,nQ,by unfold ff;rw[F,M];exact⟨kv,λi d=>.inl (A i d)⟩,L⟩
     ·by_cases R:cS o=5
      ·obtain⟨x,nQ,L,c1,A⟩:=ain R k;exact⟨x,nQ,by unfold ff;rw[F,R];exact⟨c1,λi d=>.inl (A i d)⟩,L⟩
      exfalso;obtain⟨dst,op,type,pos,after,guard⟩:=o;cases op with
      |call c=>
       simp only[cS]at J M S HH R;simp only[dm]at k;cases u:c.callee with
       |value f=>cases nJ:rF f<;>simp [u,nJ]at S HH
       |invoke=>simp only[u]at k
       |builtin b=>cases b<;>simp only[u]at k J M R<;>first|exact k|exact absurd rfl J|exact absurd rfl M|exact absurd rfl R|exact M trivial|exact J trivial|exact R trivial
      |_=>first|exact absurd rfl J|exact absurd rfl h1|exact absurd rfl T|exact absurd rfl M|exact k
 unfold Ct at z;split at z
 ·rename_i c E
  split at z
  ·rename_i f u
   have W:∀x:AV,(∀e,∀i:AV->I ar->Prop,i x (s.h++e)->dm P o (ev s) (s.h++e) i)->ff m P o (ev s) s.h x s.h:=λx hx=>by
    have hk:cS o=4\/cS o=6:=by
     unfold cS;simp only[E,u];cases rF f<;>simp
    unfold ff;rw[F];rcases hk with hk|hk
    ·rw[hk];exact⟨rfl,λe i d=>.inl (hx e i d)⟩
    ·rw[hk];refine⟨[],(ZV _).symm,λi d=>.inl ?_⟩;have:=hx [] i (by rw[ZV];exact d)
     rwa [ZV]at this
   split at z
   ·rename_i g dC hg
    obtain⟨x,hK,kV⟩:=z;refine⟨x,s.h,W x λe i d=> ?_,hK⟩;unfold dm;simp only[E,u,hg];exact(kV e).mono λr' v ⟨e1,e2⟩=>by subst e1;subst e2;exact d
   ·rename_i q hg
    obtain⟨g,as,eq,x,hK,kV⟩:=z;refine⟨x,s.h,W x λe i d=> ?_,hK⟩;unfold dm;simp only[E,u,hg];exact⟨g,as,eq,(kV e).mono λr' v ⟨e1,e2⟩=>by subst e1;subst e2;exact d⟩
   ·exact z.elim
  ·rename_i u
   exact plain z (by
    unfold cS;simp only[E];cases N:c.callee with
    |value f=>exact absurd N (u f)
    |invoke=>simp
    |builtin b=>cases b<;>simp) (by
    unfold cS;simp only[E];cases N:c.callee with
    |value f=>exact absurd N (u f)
    |invoke=>simp
    |builtin b=>cases b<;>simp)
 ·rename_i E
  exact plain z (by
   unfold cS;split<;>first|(rename_i c N;exact(E c N).elim)|simp) (by
   unfold cS;split<;>first|(rename_i c N;exact(E c N).elim)|simp)
def Xo{m:Bool}{h1:I ar}{x:AV}(b:ff m P o ρ h x h1):∀C:AV->I ar->Prop,C x h1->kR P o ρ h C:=λC c=>by
 unfold ff at b;split at b;{obtain⟨e,b⟩:=b;subst e;exact b _ (.inr (j0.refl _)) _ c};{obtain⟨e,b⟩:=b;subst e;exact b _ (jY.refl _) _ c};{obtain⟨B,_,rfl,rfl,b⟩:=b;exact b _ _ c};{exact b.2 _ c}
 ·obtain⟨e,b⟩:=b;subst e;have:=b [] C (by rw[ZV];exact c)
  rwa [ZV]at this
 ·exact b.2 _ c
 ·obtain⟨d,_,b⟩:=b;exact b _ c
 ·exact b _ c
 ·exact b.elim
def Ml{m:Bool}{s:St}{K:St->Prop}(t:ze m P o K s):∃x h1,ff m P o (ev s) s.h x h1/\K ((s.wh h1).put o.dst x):=by
 cases q:oJ m o with
 |true=>
  have E:kT m o=7:=by unfold kT;rw[q];rfl
  rcases t with t|⟨_,x,h1,d,z⟩|⟨b,a,x,k,p,u,v,d⟩|⟨_,x,N,d,z⟩
  ·obtain⟨x,h1,A,d⟩:=WE (m:=false) rfl t;refine⟨x,h1,?_,d⟩;have:=Xo A;unfold ff;rw[E];exact this
  ·exact⟨x,h1,by unfold ff;rw[E];exact λC g=>.inl (z C g),d⟩
  ·exact⟨x,k,by unfold ff;rw[E];exact λC g=>.inr ⟨b.imp (·.1) (λe=>(Zo _ _▸e).2),a,x,k,p,u,v,g⟩,d⟩
  ·exact⟨x,_,by unfold ff;rw[E];exact λC g=>.inl (z C g),d⟩
 |false=>
 have F:kT m o=cS o:=by unfold kT;rw[q];rfl
 rcases t with t|⟨R,_⟩|⟨b,a,x,k,p,u,v,d⟩|⟨i,x,N,d,z⟩
 ·exact WE q t
 ·rw[q]at R;cases R
 ·obtain⟨b,B⟩:kZ o=true/\(m&&cS o==0)=false:=b.resolve_right λe=>by
   rw[Zo]at e;unfold oJ at q;rw[e.1,e.2]at q;simp at q
  have i:cS o=0\/cS o=1\/cS o=3:=by
   unfold kZ at b;unfold cS;split at b
   all_goals first|(next e=>simp only[e];simp)|skip
   ·next c e=>
    split at b;{next S=>simp only[e,S];simp};{cases b}
   ·cases b
  rcases i with i|i|i
  ·obtain⟨rfl,A⟩:=aoq b i u v;refine⟨x,_,?_,d⟩;unfold ff;rw[F,i];exact⟨rfl,λk J C g=>.inr ⟨.inl b,a,x,k,by obtain⟨L,q1,M⟩:=A k (J.resolve_left λe=>by rw[e,i]at B;cases B);exact⟨L,q1,M,g⟩⟩⟩
  ·obtain⟨rfl,A⟩:=alp b i u v;refine⟨x,_,?_,d⟩;unfold ff;rw[F,i];exact⟨rfl,λk J C g=>.inr ⟨.inl b,a,x,k,by obtain⟨L,q1,M⟩:=A k J;exact⟨L,q1,M,g⟩⟩⟩
  ·refine⟨x,k,?_,d⟩;unfold ff;rw[F,i];exact⟨arD b i u v,λC g=>.inr ⟨.inl b,a,x,k,p,u,v,g⟩⟩
 ·refine⟨x,_,?_,d⟩;unfold ff;rw[F,i];exact⟨N,rfl,λC g=>.inl (z C g)⟩
end
structure kg(s s':St):Prop where
 n:s.n=s'.n
 h:s.h=s'.h
 t:∀i,bM s.t i=bM s'.t i
def kg.refl(s:St):kg s s:=⟨rfl,rfl,λ_=>rfl⟩
def kg.symm{s s':St}(h:kg s s'):kg s' s:=⟨h.n.symm,h.h.symm,λi=>(h.t i).symm⟩
def kg.trans{a b c:St}(h:kg a b)(k:kg b c):kg a c:=⟨h.n.trans k.n,h.h.trans k.h,λi=>(h.t i).trans (k.t i)⟩
def vc(s:St)(d:U Nat)(x:AV)(i:Nat):bM (s.put d x).t i=if d=some i/\i<s.n then x else bM s.t i:=by
 cases d with
 |none=>simp [St.put]
 |some k=>
  by_cases b:k<s.n
  ·rw[tc b,mi];by_cases c:i=k
   ·subst c;simp [b]
   ·rw[ZN c,ZN (by simp;intro e;exact absurd e.symm c)]
  ·rw[Gs b,ZN (by rintro⟨e,g⟩;cases e;exact b g)]
def s8(s:St)(d:U Nat)(x:AV):(s.put d x).n=s.n:=by
 cases d with
 |none=>rfl
 |some k=>
  by_cases b:k<s.n;{rw[tc b]};{rw[Gs b]}
def FA(s:St)(d:U Nat)(x:AV):(s.put d x).h=s.h:=by
 cases d with
 |none=>rfl
 |some k=>
  by_cases b:k<s.n;{rw[tc b]};{rw[Gs b]}
def kg.put{s s':St}(h:kg s s')(h1:I ar)(d:U Nat)(x:AV):kg ((s.wh h1).put d x) ((s'.wh h1).put d x):=
 ⟨by rw[s8,s8];exact h.n,by rw[FA,FA];rfl,λi=>by
  rw[vc,vc];show(if d=some i/\i<s.n then x else bM s.t i)=(if d=some i/\i<s'.n then x else bM s'.t i);rw[h.n,h.t]⟩
def amh(s:St)(h1 e g:I ar){d b:U Nat}(x c:AV)(m:∀k,d=some k->b≠some k):kg ((((s.wh h1).put d x).wh g).put b c) ((((s.wh e).put b c).wh g).put d x):=by
 refine⟨by simp only[s8];show((s.wh h1).put d x).n=((s.wh e).put b c).n;simp only[s8];rfl,by simp only[FA];rfl,λi=> ?_⟩;rw[vc,vc];show(if b=some i/\i<((s.wh h1).put d x).n then c else bM ((s.wh h1).put d x).t i)=(if d=some i/\i<((s.wh e).put b c).n then x else bM ((s.wh e).put b c).t i);rw[s8,s8,vc,vc];show(if b=some i/\i<s.n then c else(if d=some i/\i<s.n then x else bM s.t i))=(if d=some i/\i<s.n then x else(if b=some i/\i<s.n then c else bM s.t i));by_cases a:d=some i;{have:=m i a;simp [a,this]};{simp [a]}
section
variable {P:dg} {ops:Array Oper}
def nt(m:Bool)(P:dg)(ops:Array Oper)(o:Oper)(s:St)(x:AV)(h1:I ar):Prop:=(jX ops o s True False/\ff m P o (ev s) s.h x h1)\/(jX ops o s False True/\x= .d (.v undef)/\h1=s.h)
def LF{o:Oper}{s:St}{c i:Prop}(h:jX ops o s c i):(jX ops o s True False/\c)\/(jX ops o s False True/\i):=by
 unfold jX at h ⊢;split at h;{exact .inl ⟨trivial,h⟩}
 ·rename_i j want m
  split at h
  ·rename_i d p
   split at h
   ·rename_i b q
    by_cases g:b=want;{exact .inl ⟨⟨λ_=>trivial,λe=>by subst g;cases b<;>cases e⟩,h.1 g⟩}
    ·have k:b= !want:=by cases b<;>cases want<;>simp_all
     exact .inr ⟨⟨λe=>(g e).elim,λ_=>trivial⟩,h.2 k⟩
   ·exact .inr ⟨trivial,h⟩
   ·exact h.elim
  ·exact h.elim
def xO{o:Oper}{s s':St}{b no:Prop}(e:∀d,d∈o.looksAt ops->bM s'.t d=bM s.t d)(h:jX ops o s b no):jX ops o s' b no:=by
 unfold jX at h ⊢;split at h;{exact h}
 ·rename_i j c g
  split at h
  ·rename_i d i
   have:bM s'.t d=bM s.t d:=e d (by unfold Oper.looksAt;rw[g];simp [i]);rw[this];exact h
  ·exact h.elim
def Sm{m:Bool}{o:Oper}{s s':St}{x:AV}{h1:I ar}(v:∀d,d∈o.looksAt ops->bM s'.t d=bM s.t d)(u:s'.h=s.h)(h:nt m P ops o s x h1):nt m P ops o s' x h1:=by
 have z:∀y∈o.op.operands,ev s y=ev s' y:=λy A=>by
  cases y with
  |tmp t=>exact(v t (by unfold Oper.looksAt;refine ZE.2 (.inl (List.mem_filterMap.2 ⟨.tmp t,Array.mem_toList_iff.2 A,rfl⟩)))).symm
  |_=>rfl
 rcases h with⟨g,i⟩|⟨g,E,F⟩
 ·refine .inl ⟨xO v g,?_⟩;rw[u];have p:∀h C,kR P o (ev s) h C=kR P o (ev s') h C:=λh C=>Tx z;unfold ff at i ⊢;split at i
  ·exact⟨i.1,λq u C k=>p q C▸i.2 q u C k⟩
  ·exact⟨i.1,λq u C k=>p _ C▸i.2 q u C k⟩
  ·obtain⟨B,J,a,b,c⟩:=i;exact⟨B,J,a,b,λq C k=>p q C▸c q C k⟩
  ·exact⟨i.1,λC k=>p _ C▸i.2 C k⟩
  ·exact⟨i.1,λe C k=>p _ C▸i.2 e C k⟩
  ·exact⟨i.1,λC k=>p _ C▸i.2 C k⟩
  ·obtain⟨L,a,b⟩:=i;exact⟨L,a,λC k=>p _ C▸b C k⟩
  ·exact λC k=>p _ C▸i C k
  ·exact i.elim
 ·exact .inr ⟨xO v g,E,F.trans u.symm⟩
def Xn{o:Oper}(h:cS o=7):False:=by
 unfold cS at h
 repeat' (first|(split at h)|cases h)
 all_goals (cases b:rF _<;>rw[b]at h<;>cases h)
def ann{m:Bool}{o:Oper}{ρ:Operand->AV}{h h1:I ar}{x:AV}(c:oJ m o=false)(b:ff m P o ρ h x h1):j0 h h1:=by
 unfold ff at b;unfold kT at b;rw[c]at b;simp only[UQ]at b;split at b;{rw[b.1];exact j0.refl _};{rw[b.1];exact j0.refl _};{obtain⟨B,d,_,e,_⟩:=b;rw[e];exact(jF.app d).i};{exact b.1.i};{rw[b.1];exact j0.refl _};{exact b.1.2.2.i};{obtain⟨g,e,_⟩:=b;rw[e];exact j0.app _ _};{next e=>exact(Xn e).elim};{exact b.elim}
def aiZ{m:Bool}{o:Oper}{ρ:Operand->AV}{h h1:I ar}{x:AV}(c:oJ m o=false)(d:cS o≠6)(b:ff m P o ρ h x h1):j0 h1 h:=by
 unfold ff at b;unfold kT at b;rw[c]at b;simp only[UQ]at b;split at b;{rw[b.1];exact j0.refl _};{rw[b.1];exact j0.refl _};{obtain⟨B,g,_,e,_⟩:=b;rw[e];exact(jF.app g).j};{exact b.1.j};{rw[b.1];exact j0.refl _};{exact b.1.2.2.j};{next e=>exact(d e).elim};{next e=>exact(Xn e).elim};{exact b.elim}
def AZ(m:Bool)(a b:Oper):Bool:=(m&&((oJ m a&&(!oJ m b&&cS b==0))||(oJ m b&&(!oJ m a&&cS a==0))))|| !oJ m a&& !oJ m b&&(cS a==0||(cS b==0&& !(cS a==6))||((cS a==1||cS a==4)&&(cS b==1||cS b==4||cS b==2||cS b==6))||(cS a==1&&cS b==5)||(cS a==5&&cS b==1))
def as8{m:Bool}{oi oj:Oper}{s:St}{E x:AV}{hi hj:I ar}(L4:oi.apart ops oj=true)(i:AZ m oi oj=true)(h1:nt m P ops oi s E hi)(h2:nt m P ops oj ((s.wh hi).put oi.dst E) x hj):
 ∃iw,nt m P ops oj s x iw/\nt m P ops oi ((s.wh iw).put oj.dst x) E hj:=by
 obtain⟨a1,a2,a3⟩:=Oper.apart_spec L4;have R:∀d,d∈oj.looksAt ops->bM s.t d=bM ((s.wh hi).put oi.dst E).t d:=λd hd=>by
  rw[vc,ZN (λe=>a1 d e.1 hd)];rfl
 have S:∀(h':I ar) d,d∈oi.looksAt ops->bM ((s.wh h').put oj.dst x).t d=bM s.t d:=λh' d hd=>by
  rw[vc,ZN (λe=>a3 d e.1 hd)];rfl
 have z:((s.wh hi).put oi.dst E).h=hi:=by rw[FA];rfl
 have A:∀h',((s.wh h').put oj.dst x).h=h':=λh'=>by rw[FA];rfl
 have same:hi=s.h->nt m P ops oj s x hj:=λe=>Sm R (by rw[z,e]) h2;have evi:∀h',∀y∈oi.op.operands,ev ((s.wh h').put oj.dst x) y=ev s y:=λh' y hy=>by
  cases y with
  |tmp t=>exact S h' t (by unfold Oper.looksAt;refine ZE.2 (.inl (List.mem_filterMap.2 ⟨.tmp t,Array.mem_toList_iff.2 hy,rfl⟩)))
  |_=>rfl
 have evj:∀y∈oj.op.operands,ev ((s.wh hi).put oi.dst E) y=ev s y:=λy hy=>by
  cases y with
  |tmp t=>exact(R t (by unfold Oper.looksAt;refine ZE.2 (.inl (List.mem_filterMap.2 ⟨.tmp t,Array.mem_toList_iff.2 hy,rfl⟩)))).symm
  |_=>rfl
 have J:∀h' h C,kR P oi (ev ((s.wh h').put oj.dst x)) h C=kR P oi (ev s) h C:=λh' h C=>Tx (evi h');have cj:∀h C,kR P oj (ev ((s.wh hi).put oi.dst E)) h C=kR P oj (ev s) h C:=λh C=>Tx evj;unfold AZ at i;rw[af]at i;rcases h1 with⟨T,c⟩|⟨T,e1,e2⟩
 ·rcases h2 with⟨g2,g⟩|⟨g2,f1,f2⟩
  ·rcases i with i|i
   ·
    rw[Zo,af,Zo,Zo,Zo,Zo,VJ,VJ,Ve,Ve]at i;obtain⟨hm,i⟩:=i;have L:∀h',jX ops oi ((s.wh h').put oj.dst x) True False:=λh'=>xO (S h') T;have Lj:jX ops oj s True False:=xO R g2;rcases i with⟨II,lj,kj⟩|⟨haj,li,ki⟩
    ·have v:kT m oj=0:=by unfold kT;rw[lj];exact kj
     have q:kT m oi=7:=by unfold kT;rw[II];rfl
     unfold ff at c g;rw[q]at c;rw[v]at g;simp only at c g;obtain⟨e,g⟩:=g;rw[z]at e;refine⟨s.h,.inl ⟨Lj,?_⟩,.inl ⟨L s.h,?_⟩⟩;{unfold ff;rw[v];exact⟨rfl,λh' _ C p=>by rw[<-cj];exact g h' (.inl hm) C p⟩};{unfold ff;rw[q,A];exact λC p=>by rw[J];exact c C (e▸p)}
    ·have q:kT m oi=0:=by unfold kT;rw[li];exact ki
     have v:kT m oj=7:=by unfold kT;rw[haj];rfl
     unfold ff at c;rw[q]at c;simp only at c;obtain⟨e,c⟩:=c;refine⟨hj,same e,.inl ⟨L hj,?_⟩⟩;unfold ff;rw[q];exact⟨(A hj).symm,λh' _ C p=>by rw[J];exact c h' (.inl hm) C p⟩
   rw[Zo,Zo,VJ,VJ]at i;obtain⟨⟨li,lj⟩,i⟩:=i;have q:kT m oi=cS oi:=by unfold kT;rw[li];rfl
   have v:kT m oj=cS oj:=by unfold kT;rw[lj];rfl
   have L:∀h',jX ops oi ((s.wh h').put oj.dst x) True False:=λh'=>xO (S h') T;have Lj:jX ops oj s True False:=xO R g2;by_cases k0:cS oi=0
   ·unfold ff at c;rw[q,k0]at c;simp only at c;obtain⟨e,c⟩:=c;refine⟨hj,same e,.inl ⟨L hj,?_⟩⟩;unfold ff;rw[q,k0];have hv:j0 s.h hj:=by
     have:=ann lj g;rw[z,e]at this;exact this
    exact⟨(A hj).symm,λh' u C p=>by rw[A]at u;rw[J];exact c h' (u.imp id λu=>hv.trans u) C p⟩
   ·by_cases k1:cS oj=0
    ·unfold ff at g;rw[v,k1]at g;simp only at g;obtain⟨e,g⟩:=g;rw[z]at e g;have k6:cS oi≠6:=λk6=>by
      simp [k6,k1]at i
     have hv:=aiZ li k6 c;refine⟨s.h,.inl ⟨Lj,?_⟩,.inl ⟨L s.h,?_⟩⟩;{unfold ff;rw[v,k1];exact⟨rfl,λh' u C p=>by rw[<-cj];exact g h' (u.imp id λu=>hv.trans u) C p⟩};{rw[e];unfold ff at c ⊢;rw[A];simp only[J];exact c}
    ·by_cases W:cS oi=1/\cS oj=5
     ·obtain⟨ka,kb⟩:=W;unfold ff at c g;rw[q,ka]at c;rw[v,kb]at g;simp only at c g;obtain⟨e,c⟩:=c;obtain⟨⟨c1,c2,_⟩,g⟩:=g;rw[z,e]at c1 c2;refine⟨hj,same e,.inl ⟨L hj,?_⟩⟩;unfold ff;rw[q,ka];simp only;refine⟨(A hj).symm,λh' u C p=> ?_⟩;rw[A]at u;rw[J];exact c h' (λn M hn N=>u n M (c1 n M hn N) N) C p
     by_cases Zu:cS oi=5/\cS oj=1
     ·obtain⟨ka,kb⟩:=Zu;unfold ff at c g;rw[q,ka]at c;rw[v,kb]at g;simp only at c g;obtain⟨⟨c1,c2,c3⟩,c⟩:=c;obtain⟨e,g⟩:=g;rw[z]at e g;refine⟨s.h,.inl ⟨Lj,?_⟩,.inl ⟨L s.h,?_⟩⟩
      ·unfold ff;rw[v,kb];simp only;exact⟨trivial,λh' u C p=>by rw[<-cj];exact g h' (λn M hn N=>u n M (c2 n M hn N) N) C p⟩
      ·rw[e];unfold ff;rw[q,ka];simp only;rw[A];exact⟨⟨c1,c2,c3⟩,λC p=>by rw[J];exact c C p⟩
     have hc:(cS oi=1\/cS oi=4)/\(cS oj=1\/cS oj=4\/cS oj=2\/cS oj=6):=by
      simp only[af,Zo,Ve,k0,k1,false_or,false_and]at i;rcases i with(i|i)|i
      ·refine⟨i.1,?_⟩;rcases i.2 with((h|h)|h)|h
       ·exact .inl h
       ·exact .inr (.inl h)
       ·exact .inr (.inr (.inl h))
       ·exact .inr (.inr (.inr h))
      ·exact absurd i W
      ·exact absurd i Zu
     have q1:hi=s.h/\∀e(C:AV->I ar->Prop),C E (s.h++e)->kR P oi (ev s) (s.h++e) C:=by
      unfold ff at c;rcases hc.1 with k|k
      ·rw[q,k]at c;exact⟨c.1,λe C p=>c.2 _ (jY.app _ _) C p⟩
      ·rw[q,k]at c;exact c
     have q2:∃e0,hj=s.h++e0:=by
      have F:=g;unfold ff at F;rcases hc.2 with k|k|k|k
      ·rw[v,k]at F;exact⟨[],by rw[F.1,z,q1.1,ZV]⟩
      ·rw[v,k]at F;exact⟨[],by rw[F.1,z,q1.1,ZV]⟩
      ·rw[v,k]at F;obtain⟨B,_,_,b,_⟩:=F;exact⟨[B],by rw[b,z,q1.1]⟩
      ·rw[v,k]at F;obtain⟨e0,b,_⟩:=F;exact⟨e0,by rw[b,z,q1.1]⟩
     obtain⟨e0,Gm⟩:=q2;refine⟨hj,same q1.1,.inl ⟨L hj,?_⟩⟩;have:∀e(C:AV->I ar->Prop),C E (hj++e)->kR P oi (ev ((s.wh hj).put oj.dst x)) (hj++e) C:=λe C p=>by
      rw[J,Gm,ZP];rw[Gm,ZP]at p;exact q1.2 _ C p
     unfold ff;rw[A];rcases hc.1 with k|k
     ·rw[q,k];simp only;refine⟨trivial,λh' u C p=> ?_⟩;rw[J];unfold ff at c;rw[q,k]at c;exact c.2 h' (λn M hn N=>u n M (by rw[Gm];exact jY.app _ _ n M hn N) N) C p
     ·rw[q,k];exact⟨rfl,this⟩
  ·
   subst f1;rw[z]at f2;refine⟨s.h,.inr ⟨xO R g2,rfl,rfl⟩,?_⟩;rw[f2];exact Sm (S s.h) (by rw[A]) (.inl ⟨T,c⟩)
 ·
  subst e1;refine⟨hj,same e2,.inr ⟨xO (S hj) T,rfl,(A hj).symm⟩⟩
def sB(K:St->Prop):Prop:=∀s b,kg s b->K s->K b
def l8(m:Bool)(P:dg)(ops:Array Oper)(K:St->Prop):Nat->Array Bool->St->Prop
 |0,listed,s=>Region.ready .any ops listed=[]/\K s
 |b+1,listed,s=>(Region.ready .any ops listed=[]->K s)/\ ∀i∈Region.ready .any ops listed,∀o,ops[i]?=some o->∃x c,nt m P ops o s x c/\l8 m P ops K b (listed.setIfInBounds i true) ((s.wh c).put o.dst x)
def Xe{m:Bool}{K:St->Prop}(e:sB K):∀(b:Nat)(listed:Array Bool)(s s':St),kg s s'->l8 m P ops K b listed s->l8 m P ops K b listed s'
 |0,_,s,s',c,h=>⟨h.1,e s s' c h.2⟩
 |b+1,_,s,s',c,h=>⟨λk=>e s s' c (h.1 k),λi p o q=>by
  obtain⟨x,g,u,v⟩:=h.2 i p o q;exact⟨x,g,Sm (λd _=>(c.t d).symm) c.h.symm u,Xe e b _ _ _ (c.put g o.dst x) v⟩⟩
def qv(M:Array Nat)(ops:Array Oper):Bool:=
 (List.range ops.size).all λj=>(List.range ops.size).all λi=> !(M.getD j 0).testBit i||match ops[j]? with
  |some o=>o.after.any λe=>Region.binds .any e&&decide (e.on<j)&&(e.on==i||(M.getD e.on 0).testBit i)
  |none=>false
def Dn(ops:Array Oper)(listed:Array Bool):Prop:=∀(j:Nat)(o:Oper),ops[j]?=some o->listed.getD j false=true->∀e∈o.after,Region.binds .any e=true->listed.getD e.on false=true
def aqo{M:Array Nat}(d:qv M ops=true){listed:Array Bool}(u:Dn ops listed):∀(j i:Nat)(o:Oper),i<ops.size->ops[j]?=some o->(∀e∈o.after,Region.binds .any e=true->listed.getD e.on false=true)->(M.getD j 0).testBit i=true->listed.getD i false=true:=by
 intro j
 induction j using Nat.strongRecOn with
 |_ j v=>
  intro i o k g x z;unfold qv at d;simp only[Zb,List.mem_range]at d;have c:=d j (ZT.1 g).1 i k;rw[z,g]at c;simp only[Wh,ai]at c;rw[Array.any_eq_true']at c;obtain⟨e,A,m⟩:=c;simp only[Zo,VX,af,Ve]at m;obtain⟨⟨B,p⟩,b⟩:=m;have q:=x e A B;rcases b with b|b
  ·rw[<-b];exact q
  ·have t:e.on<ops.size:=Nat.lt_trans p (ZT.1 g).1;exact v e.on p i ops[e.on] k (ZH t) (u e.on _ (ZH t) q) b
def Dn.set{listed:Array Bool}(p:Dn ops listed){i:Nat}(q:i∈Region.ready .any ops listed):Dn ops (listed.setIfInBounds i true):=by
 intro j o b c e d g;refine getD_set_true ?_;by_cases k:i=j;{subst k;obtain⟨_,u,m,t⟩:=mem_ready.1 q;rw[b]at m;cases m;exact t e d g};{rw[getD_set_ne false k]at c;exact p j o b c e d g}
def Mg{m:Bool}{K:St->Prop}(hK:sB K){M:Array Nat}(hM:qv M ops=true){i:Nat}{p:Oper}{x:AV}{h1:I ar}(hi:ops[i]?=some p):
 ∀(b:Nat)(listed:Array Bool)(s:St),Dn ops listed->
  (∀j d,ops[j]?=some d->j≠i->listed.getD j true=false->(M.getD j 0).testBit i=false->p.apart ops d=true/\AZ m p d=true)->
  i∈Region.ready .any ops listed->nt m P ops p s x h1->l8 m P ops K b (listed.setIfInBounds i true) ((s.wh h1).put p.dst x)->l8 m P ops K (b+1) listed s:=by
 intro b
 induction b generalizing x h1 with
 |zero=>
  intro listed s _ _ e z H;refine⟨λh=>(by rw[h]at e;cases e),λj q o J=> ?_⟩;by_cases c:j=i;{subst c;rw[hi]at J;cases J;exact⟨x,h1,z,H⟩};{have:=ready_mono q c;rw[H.1]at this;cases this}
 |succ b ih=>
  intro listed s L N e z H;refine⟨λh=>(by rw[h]at e;cases e),λj q d g=> ?_⟩;by_cases c:j=i;{subst c;rw[hi]at g;cases g;exact⟨x,h1,z,H⟩}
  ·obtain⟨R,A,RC,H2⟩:=H.2 j (ready_mono q c) d g;obtain⟨t,oj',u,gM⟩:=mem_ready.1 q;rw[g]at u;cases u;have B:=(ZT.1 hi).1;have S:listed.getD i false=false:=by
    have T:=(mem_ready.1 e).1;rcases Nat.lt_or_ge i listed.size with E|E
    ·simpa [E]using T
    ·simp [Array.getElem?_eq_none E]at T
   have lq:(M.getD j 0).testBit i=false:=by
    cases hb:(M.getD j 0).testBit i with
    |false=>rfl
    |true=>rw[aqo hM L j i d B g gM hb]at S;cases S
   obtain⟨W,jB⟩:=N j d g c t lq;obtain⟨iw,s1,s2⟩:=as8 W jB z RC;obtain⟨_,a2,_⟩:=Oper.apart_spec W;refine⟨R,iw,s1,ih (listed.setIfInBounds j true) _ (L.set q) (λk ok F QK v uy=> ?_) (ready_mono e (Ne.symm c)) s2 ?_⟩
   ·refine N k ok F QK ?_ uy;by_cases PH:j=k
    ·subst PH;exact t
    ·rw[getD_set_ne true PH]at v;exact v
   ·rw[Array.setIfInBounds_comm _ _ c];exact Xe hK _ _ _ _ (amh s h1 iw A x R (λk F=>a2 k F)) H2
def Xi(M:Array Nat)(ops:Array Oper)(k:Nat):Bool:=
 match ops[k]? with
 |none=>false
 |some b=>(List.range ops.size).all λj=>decide (j<=k)||(M.getD j 0).testBit k||match ops[j]? with
  |some c=>b.apart ops c&&AZ false b c
  |none=>true
def HP(M:Array Nat)(ops:Array Oper):Nat->Nat->Array Bool->Bool
 |0,_,listed=>(Region.ready .any ops listed).isEmpty
 |b+1,k,listed=>(Region.ready .any ops listed).contains k&&Xi M ops k&&HP M ops b (k+1) (listed.setIfInBounds k true)
def sP(ops:Array Oper):Bool:=qv (Region.before ops) ops&&HP (Region.before ops) ops ops.size 0 (Array.replicate ops.size false)
def Yo{K i:St->Prop}(u:sB i)(v:∀s,K s->i s){M:Array Nat}(z:qv M ops=true):∀(l:I Oper)(k:Nat)(listed:Array Bool)(s:St),(∀j,l[j]?=ops[k+j]?)->(∀j,j<k->listed.getD j true=true)->Dn ops listed->
 HP M ops l.length k listed=true->Ew P ops l K s->l8 false P ops i l.length listed s
 |[],_,_,_,_,_,_,c,h=>⟨by simpa [HP]using c,v _ h⟩
 |o::l,k,listed,s,A,B,E,c,h=>by
  have F:ops[k]?=some o:=by simpa using (A 0).symm
  simp only[Zi,HP,Zo]at c;obtain⟨⟨N,d⟩,R⟩:=c;have J:k∈Region.ready .any ops listed:=by simpa using N
  have S:∀j,l[j]?=ops[k+1+j]?:=λj=>by have:=A (j+1);simpa [Nat.add_assoc,Nat.add_comm 1 j]using this
  have m:∀j,j<k+1->(listed.setIfInBounds k true).getD j true=true:=λj p=>by
   by_cases e:k=j
   ·subst e;rcases Nat.lt_or_ge k listed.size with q|q
    ·simp [q]
    ·have:(listed.setIfInBounds k true)[k]?=none:=Array.getElem?_eq_none (by simpa using q);rw[Array.getD_eq_getD_getElem?,this];rfl
   ·rw[getD_set_ne true e];exact B j (by omega)
  obtain⟨x,b,T,W⟩:∃x b,nt false P ops o s x b/\Ew P ops l K ((s.wh b).put o.dst x):=by
   rcases LF h with⟨g,t⟩|⟨g,t⟩
   ·obtain⟨x,b,h2,h3⟩:=Ml t;exact⟨x,b,.inl ⟨g,h2⟩,h3⟩
   ·exact⟨_,s.h,.inr ⟨g,rfl,rfl⟩,t⟩
  refine Mg u z F l.length listed s E (λj oj p cX L uy=> ?_) J T (Yo u v z l (k+1) _ _ S m (E.set J) R W);unfold Xi at d;rw[F]at d;simp only[Zb,List.mem_range]at d;have:=d j (ZT.1 p).1;rw[uy,p]at this;simp only[Bool.or_false,af,Zo,VX]at this;rcases this with this|this
  ·exfalso;have:=B j (by omega);rw[this]at L;cases L
  ·exact this
def Xm(ops:Array Oper):Nat->Array Bool->I Nat
 |0,_=>[]
 |f+1,listed=>match (Region.ready .any ops listed).find? (λk=>match ops[k]? with|some o=> !(cS o==6)&& !Oj o|none=>false)with
  |some k=>k::Xm ops f (listed.setIfInBounds k true)
  |none=>match Region.ready .any ops listed with
   |k::_=>k::Xm ops f (listed.setIfInBounds k true)
   |[]=>[]
def Jc(m:Bool)(M:Array Nat)(ops:Array Oper):I Nat->Array Bool->Bool
 |[],listed=>(Region.ready .any ops listed).isEmpty
 |k::l,listed=>(Region.ready .any ops listed).contains k&&(match ops[k]? with
  |none=>false
  |some b=>(List.range ops.size).all λj=>j==k||listed.getD j true||(M.getD j 0).testBit k||match ops[j]? with
   |some c=>b.apart ops c&&AZ m b c
   |none=>true)&&Jc m M ops l (listed.setIfInBounds k true)
def Ib(m:Bool)(ops:Array Oper)(p:I Nat):Bool:=qv (Region.before ops) ops&&Jc m (Region.before ops) ops p (Array.replicate ops.size false)
def uP(ops:Array Oper):I Nat->I Oper
 |[]=>[]
 |k::l=>match ops[k]? with
  |some o=>o::uP ops l
  |none=>uP ops l
def XL{m:Bool}{K d:St->Prop}(t:sB d)(u:∀s,K s->d s){M:Array Nat}(v:qv M ops=true):∀(l:I Nat)(listed:Array Bool)(s:St),Dn ops listed->
 Jc m M ops l listed=true->xF m P ops (uP ops l) K s->l8 m P ops d l.length listed s
 |[],_,_,_,c,h=>⟨by simpa [Jc]using c,u _ h⟩
 |k::l,listed,s,z,c,h=>by
  simp only[Jc,Zo]at c;obtain⟨⟨B,e⟩,E⟩:=c;have i:k∈Region.ready .any ops listed:=by simpa using B
  obtain⟨_,o,p,_⟩:=mem_ready.1 i;rw[p]at e;simp only[Zb,List.mem_range]at e;simp only[uP,p]at h;obtain⟨x,b,F,J⟩:∃x b,nt m P ops o s x b/\xF m P ops (uP ops l) K ((s.wh b).put o.dst x):=by
   rcases LF h with⟨g,q⟩|⟨g,q⟩
   ·obtain⟨x,b,L,N⟩:=Ml q;exact⟨x,b,.inl ⟨g,L⟩,N⟩
   ·exact⟨_,s.h,.inr ⟨g,rfl,rfl⟩,q⟩
  refine Mg t v p l.length listed s z (λj W A R S T=> ?_) i F (XL t u v l _ _ (z.set i) E J);have:=e j (ZT.1 A).1;rw[T,S,A]at this;simp only[Bool.or_false,af,Zo,Ve]at this;rcases this with this|this
  ·exact absurd this R
  ·exact this
end
section
variable {P:dg} {r:U Nat} {n N0:Nat} {G:Gh} {w:Zz} {a:Act} {s:St} {o:Oper} {Q:Exit->St->Prop}
def dx.drew(b:dx G w a s):cn G.N G w G {w with drawn:=w.drawn+1}/\dx G {w with drawn:=w.drawn+1} a s:=by
 have c:cn G.N G w G {w with drawn:=w.drawn+1}:=⟨Zr _,λ_ _ h=>h,λ_ _ _=>rfl,λ_ _=>rfl,λ_ _=>.inl ⟨rfl,rfl⟩,iO rfl,λ_ _=>rfl,rfl,rfl,rfl,λ_ _ h=>.inl h⟩;have e:cu G {w with drawn:=w.drawn+1} s.h:=⟨b.inv.len,b.inv.z,b.inv.S,λn B d=>e8.keep (b.inv.lt d) c (Zr _) ⟨rfl,rfl,rfl⟩ (λ_ _=>⟨rfl,λ_ h=>h⟩) (b.inv.dJ n B d),b.inv.inj,b.inv.gl.keep c⟩;exact⟨c,b.move c (Zr _) e⟩
def ahZ{m:Bool}{x:AV}{h1:I ar}(h:ff m P o (ev s) s.h x h1):kR P o (ev s) s.h (λb h'=>(s.wh h').put o.dst b=(s.wh h1).put o.dst x):=Xo h _ rfl
def Jl{m:Bool}{ops:Array Oper}{K:St->Prop}{z:Exit->Act->Zz->Prop}(A:∀a' w',jw N0 G w K a' w'->z .normal a' w'):∀(b:Nat)(listed:Array Bool)(G1:Gh)(e:Zz)(a:Act)(s:St),
 cn N0 G w G1 e->N0<=G1.N->dx G1 e a s->l8 m P ops K b listed s->wpAnyIn (WF r) n P .any ops z b listed a e
 |0,_,G1,e,a,s,t,q,c,h=>⟨h.1,A _ _ ⟨G1,s,t,q,c,h.2⟩⟩
 |b+1,listed,G1,e,a,s,t,q,c,h=>by
  refine⟨λR=>A _ _ ⟨G1,s,t,q,c,h.1 R⟩,λi F=> ?_⟩;obtain⟨_,o,J,_⟩:=mem_ready.1 F;obtain⟨x,L,S,M⟩:=h.2 i F o J;unfold wpOpIn;rw[J];simp only;rcases S with⟨g,T⟩|⟨g,rfl,rfl⟩
  ·have u:=Sa c g;split at u
   ·rename_i B
    rw[ZL B];refine Oper.wpIn_mono (λa' w' W=> ?_) ((ahZ T).elim (λk=>Y2 (K:=λE=>E=(s.wh L).put o.dst x) (r:=r) (n:=n) (N0:=N0) (Q:=z) c q k) fun⟨_,va,x',h',p,k1,k2,k3⟩=>Xy (K:=λE=>E=(s.wh L).put o.dst x) (r:=r) (n:=n) (N0:=N0) (Q:=z) c q ⟨va,x',h',p,k1,k2,k3⟩);obtain⟨G2,s2,e2,n2,zf,rfl⟩:=W;exact Jl A b _ G2 w' a' _ (t.trans e2) n2 zf M
   ·exact u.elim
  ·have u:=Sa c g;split at u
   ·exact u.elim
   ·rename_i B
    rw[ZN B];exact⟨λ_ _=>trivial,Jl A b _ G1 e _ _ t q (c.put (.d (.v undef)) o.dst) M⟩
def N5{id:Nat}{l:I Oper}(q:P.follows .mixedOrders=true)(g:sP l.toArray=true)(h:Ew P l.toArray l (Q .normal) s):bQ P r N0 (.region id l.toArray true) Q s:=by
 constructor
 intro G w a n u p;unfold sP at g;rw[Zo]at g;obtain⟨v,x⟩:=u.drew;refine wpIn_region_any q ?_;have z:sB (λs=>∃b,kg b s/\Q .normal b):=λs b e ⟨m,d,A⟩=>⟨m,d.trans e,A⟩;have:=Yo (K:=Q .normal) z (λs h=>⟨s,kg.refl s,h⟩) g.1 l 0 (Array.replicate l.toArray.size false) s (by simp) (λj c=>absurd c (Z5 _)) (λj o M c=>by
  exfalso;rw[Array.getD_eq_getD_getElem?,Array.getElem?_replicate]at c;split at c<;>simp at c) (by simpa using g.2) h
 refine Jl (G:=G) (w:=w) (N0:=N0) (K:=λs=>∃b,kg b s/\Q .normal b) (λN R B=> ?_) l.toArray.size _ G _ a s (v.less p) p x (by simpa using this);obtain⟨E,b,F,J,k,m,d,L⟩:=B;refine⟨E,m,F,J,⟨k.size.trans d.n.symm,λi=>by rw[d.t i];exact k.tmp i,by rw[d.h];exact k.inv,k.df⟩,L⟩
def YN{m:Bool}{id:Nat}{ops:Array Oper}(p:I Nat)(v:P.follows .mixedOrders=true)(x:p.length=ops.size)(d:Ib m ops p=true)(h:xF m P ops (uP ops p) (Q .normal) s):bQ P r N0 (.region id ops true) Q s:=by
 constructor
 intro G w a n z u;unfold Ib at d;rw[Zo]at d;obtain⟨A,B⟩:=z.drew;refine wpIn_region_any v ?_;have E:sB (λs=>∃b,kg b s/\Q .normal b):=λs b e ⟨q,c,F⟩=>⟨q,c.trans e,F⟩;have:=XL (K:=Q .normal) E (λs h=>⟨s,kg.refl s,h⟩) d.1 p (Array.replicate ops.size false) s (λj o S g=>by
  exfalso;rw[Array.getD_eq_getD_getElem?,Array.getElem?_replicate]at g;split at g<;>simp at g) d.2 h
 rw[x]at this;refine Jl (G:=G) (w:=w) (N0:=N0) (K:=λs=>∃b,kg b s/\Q .normal b) (λT W J=> ?_) ops.size _ G _ a s (A.less u) u B this;obtain⟨L,b,M,N,k,q,c,R⟩:=J;refine⟨L,q,M,N,⟨k.size.trans c.n.symm,λi=>by rw[c.t i];exact k.tmp i,by rw[c.h];exact k.inv,k.df⟩,R⟩
end
def ati(c:Bool):AV->Bool
 | .d (.v (.bool b))=>b==c
 |_=>false
def gNo(c:Bool):AV->Bool
 | .d (.v (.bool b))=>b== !c
 | .d (.v (.tuple _))=>true
 |_=>false
def an2(t:I (Nat×AV)):U Nat->AV
 |some d=>bM t d
 |none=>.dead
def wE(ops:Array Oper)(j:Nat)(t:I (Nat×AV)):AV:=an2 t ((ops[j]?).bind (·.dst))
section
variable {P:dg} {ops:Array Oper} {dst:U Nat} {op:Op} {ty:TypeId} {pos:String} {after:Array Edge} {j:Nat} {w:Bool} {s:St} {rest:I Oper} {K:St->Prop} {y n:Prop}
def PS:jX ops ⟨dst,op,ty,pos,after,some (j,w)⟩ s y n=(match wE ops j s.t with
 | .d (.v (.bool b))=>(b=w->y)/\(b= !w->n)
 | .d (.v (.tuple _))=>n
 |_=>False):=by
 show(match (ops[j]?).bind (·.dst)with
  |some d=>match bM s.t d with
   | .d (.v (.bool b))=>(b=w->y)/\(b= !w->n)
   | .d (.v (.tuple _))=>n
   |_=>False
  |none=>False)=_
 unfold wE;cases (ops[j]?).bind (·.dst)<;>rfl
end
section
variable {P:dg} {r:U Nat} {n N0:Nat} {G:Gh} {w:Zz} {a:Act} {s:St} {o:Oper} {Q:Exit->St->Prop}
def aV{K:St->Prop}(h:K s):jk K Q .normal s:=h
def iD{K:St->Prop}{i:Nat}(h:Q (.exit i) s):jk K Q (.exit i) s:=h
def dn{K:St->Prop}(h:Q .ret s):jk K Q .ret s:=h
def eV{id:Nat}(h:Q .normal s):sX id Q .normal s:=h
def eW{id:Nat}(h:Q .ret s):sX id Q .ret s:=h
def mU{id i:Nat}(e:(i==id)=true)(h:Q .normal s):sX id Q (.exit i) s:=by simpa only[sX,e,V1]using h
def amz{id i:Nat}(e:(i==id)=false)(h:Q (.exit i) s):sX id Q (.exit i) s:=by simpa only[sX,e,UQ]using h
def m8{c:Operand}{x y:Code}(b:ev s c= .d (.v (.bool true)))(h:bQ P r N0 x Q s):bQ P r N0 (.cond c x y) Q s:=UR b (λ_=>h) λh=>Bool.noConfusion h
def CD{c:Operand}{x y:Code}(h:bQ P r N0 x Q s)(b:ev s c= .d (.v (.bool true)):=by kernel_rfl):bQ P r N0 (.cond c x y) Q s:=m8 b h
def mZ{c:Operand}{x y:Code}(b:ev s c= .d (.v (.bool false)))(h:bQ P r N0 y Q s):bQ P r N0 (.cond c x y) Q s:=UR b (λh=>Bool.noConfusion h) λ_=>h
def CG{c:Operand}{x y:Code}(h:bQ P r N0 y Q s)(b:ev s c= .d (.v (.bool false)):=by kernel_rfl):bQ P r N0 (.cond c x y) Q s:=mZ b h
def aaH{c:Operand}{x y:Code}{t:Bool}(b:ev s c= .d (.v (.bool t)))(e:t=true)(h:bQ P r N0 x Q s):bQ P r N0 (.cond c x y) Q s:=m8 (by rw[b,e]) h
def C4{c:Operand}{x y:Code}{t:Bool}(e:t=true)(h:bQ P r N0 x Q s)(b:ev s c= .d (.v (.bool t)):=by kernel_rfl):bQ P r N0 (.cond c x y) Q s:=aaH b e h
def aaG{c:Operand}{x y:Code}{t:Bool}(b:ev s c= .d (.v (.bool t)))(e:t=false)(h:bQ P r N0 y Q s):bQ P r N0 (.cond c x y) Q s:=mZ (by rw[b,e]) h
def BT{c:Operand}{x y:Code}{t:Bool}(e:t=false)(h:bQ P r N0 y Q s)(b:ev s c= .d (.v (.bool t)):=by kernel_rfl):bQ P r N0 (.cond c x y) Q s:=aaG b e h
def Pt{c:Code}(k:Nat)(e:TypeId)(q:Nat)(xs:I (I D))(g:bM s.t k= .full xs\/(bM s.t k= .d (.v (.slice none 0 0))/\xs=[]))
 (h:bQ P r N0 c Q ⟨s.n,(k,.own s.h.length xs)::s.t,s.h++[.front e q xs.length]⟩):bQ P r N0 c Q s:=by
 constructor
 intro G w a n m z;have p:dY G.S w (a.tmps.getD k undef) (.sl xs)/\∃A,a.tmps.getD k undef= .slice A xs.length xs.length:=by
  have b:=m.tmp k;revert b;generalize a.tmps.getD k undef=u;intro b;rcases g with g|⟨g,rfl⟩
  ·rw[g]at b;cases b with|full _ p E=>exact⟨p,E⟩
  ·rw[g]at b;rw[b.val];exact⟨El,none,rfl⟩
 obtain⟨x,B,F,J⟩:=Q7 m.inv p.1 p.2 e q;have L:dx (G.jf (a.tmps.getD k undef) xs.length) w a ⟨s.n,(k,.own s.h.length xs)::s.t,s.h++[.front e q xs.length]⟩:=by
  refine⟨m.size,λi=> ?_,F,m.df.keep x⟩;show aO _ _ _ (bM ((k,.own s.h.length xs)::s.t) i);rw[mi];split;{next e=>exact e▸J};{exact(m.tmp i).keep x B}
 exact wpIn_mono (h.run _ w a n L (Za z B)) λ_ _ _ M=>M.trans (x.less z)
end
def Xl{G:Gh}{w:Zz}{h:I ar}{b:Nat}{cs cM:I AV}(hi:cu G w h)(g:h[b]?=some (.cells cs))(v:cM.length=cs.length)
 (A:∀(d:Array kd)(T:TypeId),w.heap[G.aZ b]?=some (.cells d T (0,0))->∀(i:Nat)(u:kd)(c:AV),d[i]?=some u->cM[i]?=some c->aO G w u c):cu G w (h.set b (ar.cells cM)):=by
 have q:∀n,ct (h.set b (ar.cells cM)) G n=ct h G n:=λn=>by
  have p:=(Zk.1 g).1;unfold ct;by_cases e:b=n;{subst e;rw[Z1 p,g];rfl};{rw[Z3 e]}
 refine⟨by rw[YR];exact hi.len,hi.z,hi.S,λn B k=> ?_,λm n x E F=>hi.inj m n x (by rw[<-q];exact E) (by rw[<-q];exact F),hi.gl⟩;have p:=(Zk.1 g).1;by_cases e:b=n
 ·subst e;rw[Z1 p]at k;cases k
  obtain⟨J,L,d,T,t,M,_⟩:=hi.dJ _ _ g;exact⟨J,L,d,T,t,M.trans v.symm,A d T t⟩
 ·rw[Z3 e]at k;exact hi.dJ n B k
def UT{P:dg}{r:U Nat}{N0:Nat}{s:St}{Q:Exit->St->Prop}{c:Code}(b i:Nat)(e:TypeId)(z:Nat)(xs:I (I D)){cs:I AV}(B:s.h[b]?=some (.cells cs))(g:cs[i]?=some (.full xs)\/(cs[i]?=some (.d (.v (.slice none 0 0)))/\xs=[]))
 (h:bQ P r N0 c Q ⟨s.n,s.t,(s.h++[ar.front e z xs.length]).set b (ar.cells (cs.set i (AV.own s.h.length xs)))⟩):bQ P r N0 c Q s:=by
 constructor
 intro G w a n m M;obtain⟨h1,h2,k,T,h3,h4,E⟩:=m.inv.dJ _ _ B;have hi:i<cs.length:=by rcases g with g|⟨g,_⟩<;>exact(Zk.1 g).1
 have F:k[i]?=some k[i]:=ZH (by omega);have p:dY G.S w k[i] (.sl xs)/\∃A,k[i]= .slice A xs.length xs.length:=by
  rcases g with g|⟨g,rfl⟩
  ·have:=E i _ _ F g;generalize k[i]=u at this;cases this with|full _ p hf=>exact⟨p,hf⟩
  ·have:=E i _ _ F g;rw[this.val];exact⟨El,none,rfl⟩
 obtain⟨q,J,a3,a4⟩:=Q7 m.inv p.1 p.2 e z;have aS:=(Zk.1 B).1;have cZ:dx (G.jf k[i] xs.length) w a ⟨s.n,s.t,(s.h++[ar.front e z xs.length]).set b (ar.cells (cs.set i (AV.own s.h.length xs)))⟩:=by
  refine⟨m.size,λj=>(m.tmp j).keep q J,Xl a3 (by rw[ZW aS];exact B) (by rw[YR]) λgQ T' R j u c L x=> ?_,m.df.keep q⟩;have e1:(G.jf k[i] xs.length).aZ b=G.aZ b:=by
   have:b≠G.N:=by have:=m.inv.len;omega
   simp [Gh.jf]
  rw[e1,h3]at R;cases R
  by_cases W:i=j
  ·subst W;rw[Z1 hi]at x;cases x
   rw[F]at L;cases L
   exact a4
  ·rw[Z3 W]at x;exact(E j u c L x).keep q J
 exact wpIn_mono (h.run _ w a n cZ (Za M J)) λ_ _ _ hn=>hn.trans (q.less M)
def AV.Le(x y:AV):Prop:=∀(G:Gh)(w:Zz)(u:kd),aO G w u x->aO G w u y
def AV.Le.refl(x:AV):AV.Le x x:=λ_ _ _ h=>h
def AV.Le.full(xs:I (I D)):AV.Le (.full xs) (.d (.sl xs)):=λ_ _ _ h=>by
 cases h with|full _ b _=>exact .d b
def AV.Le.nil:AV.Le (.d (.v (.slice none 0 0))) (.d (.sl [])):=λ_ _ _ h=>by
 rw[h.val];exact .d El
def AV.Le.agg{cs b:I AV}(g:cs.length=b.length)(h:∀(i:Nat)(c d:AV),cs[i]?=some c->b[i]?=some d->AV.Le c d):AV.Le (.agg cs) (.agg b):=λG w u p=>by
 cases p with
 |agg q _ t v=>
  refine .agg q b (t.trans g) λi u d e k=> ?_;have m:i<cs.length:=by rw[g];exact(Zk.1 k).1
  exact h i _ d (Zd m) k G w u (v i u _ e (Zd m))
set_option linter.unusedSimpArgs false
set_option linter.unusedVariables false
def rn:I Nat->Nat->Nat->Nat
 |[],b,i=>b+i
 |j::_,_,0=>j
 |_::l,b,i+1=>rn l b i
def A1:∀(l:I Nat)(base i:Nat)(j:Nat),l[i]?=some j->rn l base i=j
 |[],_,i,j,h=>by simp at h
 |a::l,base,0,j,h=>by simpa [rn]using h
 |a::l,base,i+1,j,h=>by rw[rn];exact A1 l base i j (by simpa using h)
def LH:∀(l:I Nat)(base i:Nat),l.length<=i->rn l base i=base+(i-l.length)
 |[],base,i,_=>by simp [rn]
 |a::l,base,0,h=>by simp at h
 |a::l,base,i+1,h=>by rw[rn,LH l base i (by simpa using h)];simp
mutual
def AV.aW(σ:Nat->Nat):AV->AV
 | .ptr n off=>.ptr (σ n) off
 | .own n xs=>.own (σ n) xs
 | .row n off len cap k=>.row (σ n) off len cap k
 | .mp n=>.mp (σ n)
 | .cF n=>.cF (σ n)
 | .vec n o len L k=>.vec (σ n) o len L k
 | .eC n i j L k=>.eC (σ n) i j L k
 | .agg cs=>.agg (AV.ib σ cs)
 | .bn cs=>.bn (AV.ib σ cs)
 | .fn f cs=>.fn f (AV.ib σ cs)
 | .d x=>.d x
 | .bK xs i off=>.bK xs i off
 | .full xs=>.full xs
 | .hid c=>.hid c
 | .dead=>.dead
def AV.ib(σ:Nat->Nat):I AV->I AV
 |[]=>[]
 |x::l=>x.aW σ::AV.ib σ l
end
def iC(σ:Nat->Nat):∀l,AV.ib σ l=l.map (AV.aW σ)
 |[]=>by simp [AV.ib]
 |x::l=>by simp [AV.ib,iC σ l]
def ar.aW(σ:Nat->Nat):ar->ar
 | .cells c=>.cells (AV.ib σ c)
 | .lp g p as bd c=>.lp g p as bd (AV.ib σ c)
 | .it i c=>.it i (AV.ib σ c)
 | .fG T c=>.fG T (AV.ib σ c)
 | .vec e k c=>.vec e k (c.map (AV.ib σ))
 | .front e k len=>.front e k len
 | .jq e b=>.jq e b
 | .map d=>.map d
 | .jx d=>.jx d
 | .gone=>.gone
def iW:I Nat->I ar->I ar->I ar
 |[],b,h=>h++b
 |_::_,[],h=>h
 |i::l,B::b,h=>iW l b (h.set i B)
structure tA(σ:Nat->Nat)(G G2:Gh):Prop where
 lt:∀n,n<G.N->σ n<G2.N
 aZ:∀n,n<G.N->G2.aZ (σ n)=G.aZ n
 sg:∀n,n<G.N->G2.sg (σ n)=G.sg n
 fl:∀n,n<G.N->G2.fl (σ n)=G.fl n
 ow:∀n,n<G.N->G2.ow (σ n)=G.ow n
 S:∀b o,G2.S b o↔G.S b o
def dY.xa{S S':Nat->Nat->Prop}{w:Zz}(c:∀b o,S b o->S' b o){u:kd}{x:D}(h:dY S w u x):dY S' w u x:=h.keep c (λ_ _ _=>rfl)
def aO.aW{σ:Nat->Nat}{G G2:Gh}{w:Zz}(e:tA σ G G2){u:kd}{x:AV}(h:aO G w u x):aO G2 w u (x.aW σ):=by
 have z:∀b o,G.S b o->G2.S b o:=λb o h=>(e.S b o).2 h;have F:∀(g:Array kd)(p:I AV),(∀(i:Nat)(u:kd)(c:AV),g[i]?=some u->p[i]?=some c->aO G2 w u (c.aW σ))->∀(i:Nat)(u:kd)(c:AV),g[i]?=some u->(AV.ib σ p)[i]?=some c->aO G2 w u c:=by
  intro g p q i u c J A;rw[iC,Zm]at A;cases B:p[i]? with
  |none=>rw[B]at A;cases A
  |some x=>rw[B]at A;cases A;exact q i u x J B
 induction h with
 |agg g p t _ q=>rw[AV.aW];exact .agg g _ (by rw[iC,Zq];exact t) (F g p q)
 |bn g p t _ q=>rw[AV.aW];exact .bn g _ (by rw[iC,Zq];exact t) (F g p q)
 |fn f g p t _ q=>rw[AV.aW];exact .fn f g _ (by rw[iC,Zq];exact t) (F g p q)
 |d h=>rw[AV.aW];exact .d (h.xa z)
 |full E M v=>rw[AV.aW];exact .full E (M.xa z) v
 |ptr n m h=>rw[AV.aW,<-e.aZ n h];exact .ptr _ m (e.lt n h)
 |row n m len cap k h t hm=>rw[AV.aW,<-e.aZ n h];exact .row _ m len cap k (e.lt n h) t hm
 |mp n h=>rw[AV.aW,<-e.aZ n h];exact .mp _ (e.lt n h)
 |cF n h=>rw[AV.aW,<-e.aZ n h];exact .cF _ (e.lt n h)
 |own n E h M N v=>rw[AV.aW];exact .own _ E (e.lt n h) (M.xa z) (by rw[e.fl n h];exact N) (by rw[e.fl n h,e.sg n h];exact v)
 |vec n o len L k h R T v=>rw[AV.aW];exact .vec _ o len L k (e.lt n h) R (by rw[e.fl n h];exact T) (by rw[e.fl n h,e.sg n h];exact v)
 |eC n i j L k h R T v=>rw[AV.aW];exact .eC _ i j L k (e.lt n h) R (by rw[e.fl n h];exact T) (by rw[e.fl n h,e.sg n h];exact v)
 |bK E i m b o u x B W J=>rw[AV.aW];exact .bK E i m b o u x B (λj hj=>⟨z _ _ (W j hj).1,(W j hj).2⟩) (λj d hd=>(J j d hd).xa z)
 |hid h h1=>rw[AV.aW];exact .hid (h.keep z (λ_ _ _=>rfl)) h1
 |dead u=>rw[AV.aW];exact .dead u
def aO.uA{σ:Nat->Nat}{G G2:Gh}{w:Zz}(z:tA σ G G2){u:kd}{y:AV}(h:aO G2 w u y):∀x:AV,x.aW σ=y->x.aN G.N=true->aO G w u x:=by
 have R:∀b o,G2.S b o->G.S b o:=λb o h=>(z.S b o).1 h;have lt:∀n,(!cG G.N n)=true->n<G.N:=λn h=>by rw[VJ,<-VC,dS]at h;omega
 have gK:∀(A:Array kd)(E v:I AV),(∀(i:Nat)(u:kd)(c:AV),A[i]?=some u->E[i]?=some c->∀x:AV,x.aW σ=c->x.aN G.N=true->aO G w u x)->AV.ib σ v=E->AV.lB G.N v=true->∀(i:Nat)(u:kd)(c:AV),A[i]?=some u->v[i]?=some c->aO G w u c:=by
  intro A E v J e p i u c hu hc;subst e;rw[oe,Zb]at p;exact J i u (c.aW σ) hu (by rw[iC,Zm,hc];rfl) c rfl (p c (ZX hc))
 induction h with
 |agg A E M _ J=>
  intro x e p;cases x<;>simp only[AV.aW,AV.agg.injEq,reduceCtorEq]at e
  next v=>
   rw[AV.aN]at p;exact .agg A v (by rw[M,<-e,iC,Zq]) (gK A E v J e p)
 |bn A E M _ J=>
  intro x e p;cases x<;>simp only[AV.aW,AV.bn.injEq,reduceCtorEq]at e
  next v=>
   rw[AV.aN]at p;exact .bn A v (by rw[M,<-e,iC,Zq]) (gK A E v J e p)
 |fn f A E M _ J=>
  intro x e p;cases x<;>simp only[AV.aW,AV.fn.injEq,reduceCtorEq]at e
  next g v=>
   obtain⟨rfl,e⟩:=e;rw[AV.aN]at p;exact .fn _ A v (by rw[M,<-e,iC,Zq]) (gK A E v J e p)
 |d h=>
  intro x e p;cases x<;>simp only[AV.aW,AV.d.injEq,reduceCtorEq]at e
  next y=>subst e;exact .d (h.xa R)
 |full v hp B=>
  intro x e p;cases x<;>simp only[AV.aW,AV.full.injEq,reduceCtorEq]at e
  next y=>subst e;exact .full y (hp.xa R) B
 |ptr n T h=>
  intro x e p;cases x<;>simp only[AV.aW,AV.ptr.injEq,reduceCtorEq]at e
  next m o=>
   obtain⟨F,rfl⟩:=e;rw[AV.aN]at p;have t:=lt _ p;rw[<-F,z.aZ _ t];exact .ptr _ _ t
 |row n T len cap k h M iE=>
  intro x e p;cases x<;>simp only[AV.aW,AV.row.injEq,reduceCtorEq]at e
  next m o l c q=>
   obtain⟨F,rfl,rfl,rfl,rfl⟩:=e;rw[AV.aN]at p;have t:=lt _ p;rw[<-F,z.aZ _ t];exact .row _ _ _ _ _ t M iE
 |mp n h=>
  intro x e p;cases x<;>simp only[AV.aW,AV.mp.injEq,reduceCtorEq]at e
  next m=>
   rw[AV.aN]at p;have t:=lt _ p;rw[<-e,z.aZ _ t];exact .mp _ t
 |cF n h=>
  intro x e p;cases x<;>simp only[AV.aW,AV.cF.injEq,reduceCtorEq]at e
  next m=>
   rw[AV.aN]at p;have t:=lt _ p;rw[<-e,z.aZ _ t];exact .cF _ t
 |own n v h hp W B=>
  intro x e p;cases x<;>simp only[AV.aW,AV.own.injEq,reduceCtorEq]at e
  next m l=>
   obtain⟨F,rfl⟩:=e;rw[AV.aN]at p;have t:=lt _ p;rw[<-F]at W B;exact .own _ _ t (hp.xa R) (by rw[<-z.fl _ t];exact W) (by rw[<-z.fl _ t,<-z.sg _ t];exact B)
 |vec n o len L k h hs hL B=>
  intro x e p;cases x<;>simp only[AV.aW,AV.vec.injEq,reduceCtorEq]at e
  next m a1 a2 a3 a4=>
   obtain⟨F,rfl,rfl,rfl,rfl⟩:=e;rw[AV.aN]at p;have t:=lt _ p;rw[<-F]at hL B;exact .vec _ _ _ _ _ t hs (by rw[<-z.fl _ t];exact hL) (by rw[<-z.fl _ t,<-z.sg _ t];exact B)
 |eC n i j L k h hs hL B=>
  intro x e p;cases x<;>simp only[AV.aW,AV.eC.injEq,reduceCtorEq]at e
  next m a1 a2 a3 a4=>
   obtain⟨F,rfl,rfl,rfl,rfl⟩:=e;rw[AV.aN]at p;have t:=lt _ p;rw[<-F]at hL B;exact .eC _ _ _ _ _ t hs (by rw[<-z.fl _ t];exact hL) (by rw[<-z.fl _ t,<-z.sg _ t];exact B)
 |bK v i T b o u y hx se hu=>
  intro x e p;cases x<;>simp only[AV.aW,AV.bK.injEq,reduceCtorEq]at e
  next a1 a2 a3=>
   obtain⟨rfl,rfl,rfl⟩:=e;exact .bK _ _ _ b o u y hx (λj hj=>⟨R _ _ (se j hj).1,(se j hj).2⟩) (λj d hd=>(hu j d hd).xa R)
 |hid h h1=>
  intro x e p;cases x<;>simp only[AV.aW,AV.hid.injEq,reduceCtorEq]at e
  next c=>subst e;exact .hid (h.keep R (λ_ _ _=>rfl)) h1
 |dead u=>
  intro x e p;cases x<;>simp only[AV.aW,reduceCtorEq]at e
  exact .dead u
def UC{σ:Nat->Nat}{G b:Gh}(c:tA σ G b){n:Nat}(d:n<G.N)(B:ar):(B.aW σ).eZ b (σ n)=B.eZ G n:=by
 cases B<;>simp only[ar.aW,ar.eZ,c.aZ n d,c.ow n d]
def e8.aW{σ:Nat->Nat}{G G2:Gh}{w:Zz}(d:tA σ G G2){n:Nat}(m:n<G.N){B:ar}(R:∀b,B.eZ G n=some b->¬G2.Z b)(h:e8 G w n B):e8 G2 w (σ n) (B.aW σ):=by
 have W:∀b o,¬G.S b o->¬G2.S b o:=λb o h q=>h ((d.S b o).1 q);cases B with
 |gone=>trivial
 |cells cs=>
  obtain⟨L,q,vs,T,v,F,J⟩:=h;rw[ar.aW];refine⟨by rw[d.aZ n m];exact R _ rfl,by rw[d.aZ n m];exact λo=>W _ _ (q o),vs,T,by rw[d.aZ n m];exact v,by rw[iC,Zq];exact F,λi u c hu t=> ?_⟩;rw[iC,Zm]at t;cases E:cs[i]? with
  |none=>rw[E]at t;cases t
  |some x=>rw[E]at t;cases t;exact(J i u x hu E).aW d
 |lp ls p as bd cs=>
  obtain⟨L,q,fn,vs,T,v,F,J⟩:=h;rw[ar.aW];refine⟨by rw[d.aZ n m];exact R _ rfl,by rw[d.aZ n m];exact λo=>W _ _ (q o),fn,vs,T,by rw[d.aZ n m];exact v,by rw[iC,Zq];exact F,λi u c hu t=> ?_⟩;rw[iC,Zm]at t;cases E:cs[i]? with
  |none=>rw[E]at t;cases t
  |some x=>rw[E]at t;cases t;exact(J i u x hu E).aW d
 |it sn cs=>
  obtain⟨L,q,fn,vs,T,v,F,J⟩:=h;rw[ar.aW];refine⟨by rw[d.aZ n m];exact R _ rfl,by rw[d.aZ n m];exact λo=>W _ _ (q o),fn,vs,T,by rw[d.aZ n m];exact v,by rw[iC,Zq];exact F,λi u c hu t=> ?_⟩;rw[iC,Zm]at t;cases E:cs[i]? with
  |none=>rw[E]at t;cases t
  |some x=>rw[E]at t;cases t;exact(J i u x hu E).aW d
 |fG T0 cs=>
  obtain⟨L,q,fn,vs,T,v,F,J⟩:=h;rw[ar.aW];refine⟨by rw[d.aZ n m];exact R _ rfl,by rw[d.aZ n m];exact λo=>W _ _ (q o),fn,vs,T,by rw[d.aZ n m];exact v,by rw[iC,Zq,d.aZ n m];exact F,λi u c hu t=> ?_⟩;rw[iC,Zm]at t;cases E:cs[i]? with
  |none=>rw[E]at t;cases t
  |some x=>rw[E]at t;cases t;exact(J i u x hu E).aW d
 |map kv=>
  obtain⟨L,q,es,c,v,F⟩:=h;exact⟨by rw[d.aZ n m];exact R _ rfl,by rw[d.aZ n m];exact λo=>W _ _ (q o),es,c,by rw[d.aZ n m];exact v,F.keep (λb o h=>(d.S b o).2 h) (λ_ _ _=>rfl)⟩
 |jx kv=>
  obtain⟨L,q,es,c,v,F⟩:=h;exact⟨by rw[d.aZ n m];exact R _ rfl,by rw[d.aZ n m];exact λo=>W _ _ (q o),es,c,by rw[d.aZ n m];exact v,F.keep (λb o h=>(d.S b o).2 h) (λ_ _ _=>rfl)⟩
 |jq e b=>
  obtain⟨L,hm,q⟩:=h;refine⟨(d.fl n m).trans L,hm,?_⟩;rcases q with⟨q,h0,A,v⟩|⟨g,cap,M,q,v,F,J,h6,h7,h8,h9,aX⟩
  ·exact .inl ⟨(d.ow n m).trans q,h0,A,(d.sg n m).trans v⟩
  ·exact .inr ⟨g,cap,M,(d.ow n m).trans q,(d.sg n m).trans v,R g q,J,h6,h7,h8,λo=>W _ _ (h9 o),aX⟩
 |front e k len=>
  obtain⟨L,hm,q⟩:=h;refine⟨(d.fl n m).trans L,hm,?_⟩;rcases q with⟨q,A,v⟩|⟨g,cap,M,q,v,F,J,h6,h7,h8,h9⟩
  ·exact .inl ⟨(d.ow n m).trans q,A,(d.sg n m).trans v⟩
  ·exact .inr ⟨g,cap,M,(d.ow n m).trans q,(d.sg n m).trans v,R g q,J,h6,h7,h8,λo ho=>W _ _ (h9 o ho)⟩
 |vec e k cs=>
  obtain⟨L,hm,hk,q⟩:=h;rw[ar.aW];refine⟨by rw[Zq];exact(d.fl n m).trans L,by rw[Zq];exact hm,λc t=> ?_,?_⟩;{obtain⟨x,E,rfl⟩:=W1.1 t;rw[iC,Zq];exact hk x E}
  ·rcases q with⟨q,e2,A,v⟩|⟨g,cap,M,q,v,F,J,h6,h7,h8,h9,aX⟩
   ·exact .inl ⟨(d.ow n m).trans q,by rw[e2];rfl,A,(d.sg n m).trans v⟩
   ·refine .inr ⟨g,cap,M,(d.ow n m).trans q,by rw[Zq];exact(d.sg n m).trans v,R g q,J,by rw[Zq];exact h6,h7,h8,λo=>W _ _ (h9 o),λi j c x u t E hu=> ?_⟩;rw[Zm]at t;cases hy:cs[i]? with
    |none=>rw[hy]at t;cases t
    |some y=>
     rw[hy]at t;cases t
     rw[iC,Zm]at E;cases hw:y[j]? with
     |none=>rw[hw]at E;cases E
     |some z=>rw[hw]at E;cases E;exact(aX i j y z u hy hw hu).aW d
def e8.uA{σ:Nat->Nat}{G G2:Gh}{w:Zz}(q:tA σ G G2){n:Nat}(z:n<G.N){B:ar}(L:B.aN G.N=true)(M:∀b,B.eZ G n=some b->¬G.Z b)(h:e8 G2 w (σ n) (B.aW σ)):e8 G w n B:=by
 have R:∀b o,¬G2.S b o->¬G.S b o:=λb o h d=>h ((q.S b o).2 d);cases B with
 |gone=>trivial
 |cells cs=>
  rw[ar.aW]at h;obtain⟨E,d,vs,T,m,t,F⟩:=h;rw[q.aZ n z]at d m;rw[iC,Zq]at t;simp only[ar.aN,Zb]at L;exact⟨M _ rfl,λo=>R _ _ (d o),vs,T,m,t,λi u c W v=>aO.uA q (F i u (c.aW σ) W (by rw[iC,Zm,v];rfl)) c rfl (L c (ZX v))⟩
 |lp ls p as bd cs=>
  rw[ar.aW]at h;obtain⟨E,d,fn,vs,T,m,t,F⟩:=h;rw[q.aZ n z]at d m;rw[iC,Zq]at t;simp only[ar.aN,Zb]at L;exact⟨M _ rfl,λo=>R _ _ (d o),fn,vs,T,m,t,λi u c W v=>aO.uA q (F i u (c.aW σ) W (by rw[iC,Zm,v];rfl)) c rfl (L c (ZX v))⟩
 |it sn cs=>
  rw[ar.aW]at h;obtain⟨E,d,fn,vs,T,m,t,F⟩:=h;rw[q.aZ n z]at d m;rw[iC,Zq]at t;simp only[ar.aN,Zb]at L;exact⟨M _ rfl,λo=>R _ _ (d o),fn,vs,T,m,t,λi u c W v=>aO.uA q (F i u (c.aW σ) W (by rw[iC,Zm,v];rfl)) c rfl (L c (ZX v))⟩
 |fG T0 cs=>
  rw[ar.aW]at h;obtain⟨E,d,fn,vs,T,m,t,F⟩:=h;rw[q.aZ n z]at d m t;rw[iC,Zq]at t;simp only[ar.aN,Zb]at L;exact⟨M _ rfl,λo=>R _ _ (d o),fn,vs,T,m,t,λi u c W v=>aO.uA q (F i u (c.aW σ) W (by rw[iC,Zm,v];rfl)) c rfl (L c (ZX v))⟩
 |map kv=>
  obtain⟨E,d,es,c,m,t⟩:=h;rw[q.aZ n z]at d m;exact⟨M _ rfl,λo=>R _ _ (d o),es,c,m,t.keep (λb o h=>(q.S b o).1 h) (λ_ _ _=>rfl)⟩
 |jx kv=>
  obtain⟨E,d,es,c,m,t⟩:=h;rw[q.aZ n z]at d m;exact⟨M _ rfl,λo=>R _ _ (d o),es,c,m,t.keep (λb o h=>(q.S b o).1 h) (λ_ _ _=>rfl)⟩
 |jq e b=>
  obtain⟨E,hm,d⟩:=h;rw[q.fl n z]at E;rw[q.ow n z,q.sg n z]at d;refine⟨E,hm,?_⟩;rcases d with⟨d,h0,A,m⟩|⟨g,cap,J,d,m,t,F,h6,h7,h8,h9,aX⟩
  ·exact .inl ⟨d,h0,A,m⟩
  ·exact .inr ⟨g,cap,J,d,m,M g d,F,h6,h7,h8,λo=>R _ _ (h9 o),aX⟩
 |front e k len=>
  obtain⟨E,hm,d⟩:=h;rw[q.fl n z]at E;rw[q.ow n z,q.sg n z]at d;refine⟨E,hm,?_⟩;rcases d with⟨d,A,m⟩|⟨g,cap,J,d,m,t,F,h6,h7,h8,h9⟩
  ·exact .inl ⟨d,A,m⟩
  ·exact .inr ⟨g,cap,J,d,m,M g d,F,h6,h7,h8,λo ho=>R _ _ (h9 o ho)⟩
 |vec e k cs=>
  rw[ar.aW]at h;obtain⟨E,hm,hk,d⟩:=h;rw[q.fl n z,Zq]at E;rw[Zq]at hm;rw[q.ow n z,q.sg n z,Zq]at d;simp only[ar.aN,Zb]at L;refine⟨E,hm,λc v=> ?_,?_⟩
  ·have:=hk _ (W1.2 ⟨c,v,rfl⟩)
   rwa [iC,Zq]at this
  ·rcases d with⟨d,e2,A,m⟩|⟨g,cap,J,d,m,t,F,h6,h7,h8,h9,aX⟩
   ·exact .inl ⟨d,List.map_eq_nil_iff.1 e2,A,m⟩
   ·refine .inr ⟨g,cap,J,d,m,M g d,F,h6,h7,h8,λo=>R _ _ (h9 o),λi j c x u v hx W=> ?_⟩;exact aO.uA q (aX i j (AV.ib σ c) (x.aW σ) u (by rw[Zm,v];rfl) (by rw[iC,Zm,hx];rfl) W) x rfl (L c (ZX v) x (ZX hx))
def WB:∀(l:I Nat)(Bs h:I ar),l.length<=Bs.length->(iW l Bs h).length=h.length+(Bs.length-l.length)
 |[],Bs,h,_=>by simp [iW]
 |j::l,[],h,b=>by simp at b
 |j::l,B::Bs,h,b=>by rw[iW,WB l Bs _ (by simpa using b),YR];simp
def VW:∀(l:I Nat)(Bs h:I ar)(n:Nat),l.length<=Bs.length->n<h.length->n ∉ l->(iW l Bs h)[n]?=h[n]?
 |[],Bs,h,n,_,b,_=>by rw[iW,ZW b]
 |j::l,[],h,n,c,_,_=>by simp at c
 |j::l,B::Bs,h,n,c,b,d=>by
  simp only[ZY,not_or]at d;rw[iW,VW l Bs _ n (by simpa using c) (by rw[YR];exact b) d.2,Z3 (Ne.symm d.1)]
def Xk:∀(l:I Nat)(Bs h:I ar)(i:Nat),l.length<=Bs.length->l.Nodup->(∀j∈l,j<h.length)->i<Bs.length->(iW l Bs h)[rn l h.length i]?=Bs[i]?
 |[],Bs,h,i,_,_,_,e=>by rw[iW,rn,ZC (Yh _ _),Nat.add_sub_cancel_left]
 |j::l,[],h,i,b,_,_,_=>by simp at b
 |j::l,B::Bs,h,0,b,c,d,_=>by
  rw[List.nodup_cons]at c;rw[iW,rn,VW l Bs _ j (by simpa using b) (by rw[YR];exact d j (by simp)) c.1,Z1 (d j (by simp))];rfl
 |j::l,B::Bs,h,i+1,b,c,d,e=>by
  rw[List.nodup_cons]at c;have:=Xk l Bs (h.set j B) i (by simpa using b) c.2 (λx g=>by rw[YR];exact d x (by simp [g])) (by simpa using e);rw[YR]at this;rw[iW,rn,this];simp
def zA(l:I Nat)(base n:Nat):U Nat:=if n∈l then some (l.idxOf n)else if base<=n then some (l.length+(n-base))else none
def R1{l:I Nat}{base:Nat}(c:l.Nodup)(d:∀j∈l,j<base)(i:Nat):zA l base (rn l base i)=some i:=by
 unfold zA;by_cases b:i<l.length;{have e:l[i]?=some l[i]:=Zd b;rw[A1 l base i _ e,ZL (List.getElem_mem _),List.Nodup.idxOf_getElem c i b]}
 ·rw[LH l base i (by omega),ZN (λh=>by have:=d _ h;omega),ZL (Yh _ _)]
  congr 1;omega
def Tb{l:I Nat}{base n i:Nat}(h:zA l base n=some i):rn l base i=n:=by
 unfold zA at h;split at h
 ·rename_i b
  cases h
  have c:=List.idxOf_lt_length_of_mem b;refine A1 l base _ n ?_;rw[Zd c,List.getElem_idxOf]
 ·split at h
  ·cases h
   rw[LH _ _ _ (by omega)];omega
  ·cases h
def ajV{l:I Nat}{base n:Nat}(h:zA l base n=none):n<base/\n ∉ l:=by
 unfold zA at h;split at h;{cases h}
 ·split at h
  ·cases h
  ·rename_i b c;exact⟨by omega,b⟩
def vn{α:Type}(o:U Nat)(f:Nat->α)(d:α):α:=match o with|some i=>f i|none=>d
def Xz{H:I ar}{l:I Nat}{h:I ar}
 (hd:l.Nodup) (aS:∀j∈l,j<h.length) (hH:∀(i j:Nat),l[i]?=some j->h[j]?=(H[i]?).map (ar.aW (rn l h.length))) (hk:l.length=H.length)
 (hb:H.all (ar.aN H.length)=true) {G:Gh} {w:Zz} (hi:cu G w h):
 ∃G0:Gh,G0.N=H.length/\cu G0 w H/\tA (rn l h.length) G0 G/\∀(G1:Gh)(w':Zz)(H':I ar),cn H.length G0 w G1 w'->H.length<=G1.N->cu G1 w' H'->
  ∃G2:Gh,cn G.N G w G2 w'/\G.N<=G2.N/\cu G2 w' (iW l (H'.map (ar.aW (rn l h.length))) h)/\tA (rn l h.length) G1 G2:=by
 obtain⟨σ,J⟩:∃σ,σ=rn l h.length:=⟨_,rfl⟩;rw[<-J]at hH ⊢;have NX:h.length=G.N:=hi.len;obtain⟨own,fp⟩:∃own:Nat->Prop,own=λb=>∃j∈l,ct h G j=some b:=⟨_,rfl⟩;obtain⟨G0,u⟩:∃G0:Gh,G0={N:=H.length,Z:=λb=>b<w.heap.size/\¬own b,S:=G.S,aZ:=λi=>G.aZ (σ i),sg:=λi=>G.sg (σ i),ow:=λi=>G.ow (σ i),fl:=λi=>G.fl (σ i),M:=G.M}:=⟨_,rfl⟩;have Kv:∀i,i<H.length->∃j,l[i]?=some j/\σ i=j/\j∈l:=λi v=>by
  have kX:i<l.length:=by rw[hk];exact v
  exact⟨l[i],Zd kX,by rw[J];exact A1 l _ i _ (Zd kX),List.getElem_mem _⟩
 have pw:tA σ G0 G:=by
  subst u;refine⟨λn E=> ?_,λ_ _=>rfl,λ_ _=>rfl,λ_ _=>rfl,λ_ _=>rfl,λ_ _=>Iff.rfl⟩;obtain⟨j,_,e,hj⟩:=Kv n E;rw[e,<-NX];exact aS j hj
 have cN:G0.N=H.length:=by rw[u]
 have hσH:∀(i:Nat)(B:ar),H[i]?=some B->h[σ i]?=some (B.aW σ):=λi B c=>by
  obtain⟨j,e1,e2,_⟩:=Kv i (Zk.1 c).1;rw[e2,hH i j e1,c];rfl
 have Tq:∀(i:Nat)(B:ar)(b:Nat),H[i]?=some B->B.eZ G0 i=some b->ct h G (σ i)=some b:=λi B b c p=>by
  rw[eJ (hσH i B c),UC pw (by rw[cN];exact(Zk.1 c).1) B];exact p
 have Ae:∀(i:Nat)(B:ar)(b:Nat),H[i]?=some B->B.eZ G0 i=some b->¬G0.Z b:=λi B b c p d=>by
  rw[u]at d;refine d.2 ?_;rw[fp];obtain⟨j,_,e2,hj⟩:=Kv i (Zk.1 c).1;exact⟨j,hj,by rw[<-e2];exact Tq i B b c p⟩
 have aq6:∀i i',σ i=σ i'->i=i':=λi i' e=>by
  have g:=R1 hd aS i;have R:=R1 hd aS i';rw[J]at e;rw[e,R]at g;exact(Zs g).symm
 have vf:cu G0 w H:=by
  refine⟨cN.symm,λb d=> ?_,λb o q=> ?_,λi B c=> ?_,λm n b g R=> ?_,by rw[u];exact hi.gl⟩;{rw[u]at d;exact d.1};{rw[u]at q;exact hi.S b o q}
  ·have hiN:i<G0.N:=by rw[cN];exact(Zk.1 c).1
   rw[Zb]at hb;exact e8.uA pw hiN (by rw[cN];exact hb B (ZX c)) (λb p=>Ae i B b c p) (hi.dJ (σ i) _ (hσH i B c))
  ·obtain⟨B1,xM,iP⟩:=n9 g;obtain⟨B2,UB,lh⟩:=n9 R;exact aq6 m n (hi.inj _ _ b (Tq m B1 b xM iP) (Tq n B2 b UB lh))
 refine⟨G0,cN,vf,pw,λG1 w' H' x gU lv=> ?_⟩;have EI:H'.length=G1.N:=lv.len;obtain⟨t,EC⟩:∃t,t=zA l h.length:=⟨_,rfl⟩;obtain⟨G2,k⟩:∃G2:Gh,G2={N:=G.N+(G1.N-H.length),Z:=G.Z,S:=G1.S,aZ:=λn=>vn (t n) G1.aZ (G.aZ n),sg:=λn=>vn (t n) G1.sg (G.sg n),ow:=λn=>vn (t n) G1.ow (G.ow n),fl:=λn=>vn (t n) G1.fl (G.fl n),M:=G.M}:=⟨_,rfl⟩;have Ky:∀i,t (σ i)=some i:=λi=>by rw[EC,J];exact R1 hd aS i
 have OS:∀i,H.length<=i->σ i=G.N+(i-H.length):=λi lu=>by rw[J,LH l _ i (by omega),NX,hk]
 have anj:∀i,i<H.length->σ i<G.N:=λi MR=>by
  obtain⟨j,_,e,hj⟩:=Kv i MR;rw[e,<-NX];exact aS j hj
 have Qs:tA σ G1 G2:=by
  subst k;refine⟨λn E=> ?_,λn _=>by simp only[Ky];rfl,λn _=>by simp only[Ky];rfl,λn _=>by simp only[Ky];rfl,λn _=>by simp only[Ky];rfl,λ_ _=>Iff.rfl⟩;show σ n<G.N+(G1.N-H.length);by_cases fP:n<H.length;{have:=anj n fP;omega};{rw[OS n (by omega)];omega}
 have Yg:∀b,G0.Z b->G1.Z b:=x.Z.1.1;have QL:∀b,G.Z b->G0.Z b:=λb d=>by
  rw[u];refine⟨hi.z b d,λL=> ?_⟩;rw[fp]at L;obtain⟨j,_,L⟩:=L;obtain⟨B,c,p⟩:=n9 L;exact(hi.dJ j B c).my p d
 have kr:cn G.N G w G2 w':=by
  refine⟨x.size,λb o q=> ?_,λb o q=> ?_,λn E=> ?_,λn E=> ?_,iO (by rw[k]) (by rw[k]),λb d=>x.old b (QL b d),x.os,x.tape,x.output,λb o q=> ?_⟩;{rw[k];exact x.S b o (by rw[u];exact q)};{exact x.cell b o (by rw[u];exact q)}
  ·rw[k];show vn (t n) G1.aZ (G.aZ n)=G.aZ n;cases A:t n with
   |none=>rfl
   |some i=>
    have e:σ i=n:=by rw[J];rw[EC]at A;exact Tb A
    have v:i<H.length:=Nat.lt_of_not_le λlu=>by rw[OS i lu]at e;omega
    show G1.aZ i=G.aZ n;rw[x.aZ i v,u,<-e]
  ·rw[k];show(vn (t n) G1.fl (G.fl n)=G.fl n/\vn (t n) G1.sg (G.sg n)=G.sg n)\/G.fl n<vn (t n) G1.fl (G.fl n);cases A:t n with
   |none=>exact .inl ⟨rfl,rfl⟩
   |some i=>
    have e:σ i=n:=by rw[J];rw[EC]at A;exact Tb A
    have v:i<H.length:=Nat.lt_of_not_le λlu=>by rw[OS i lu]at e;omega
    have:=x.fr i v;rw[u]at this;simp only[e]at this;exact this
  ·rw[k]at q;rcases x.new b o q with g|g
   ·rw[u]at g;exact .inl g
   ·exact .inr λd=>g (QL b d)
 have T:(iW l (H'.map (ar.aW σ)) h).length=G2.N:=by
  rw[WB _ _ _ (by rw[Zq,hk,EI];omega),Zq,EI,hk,NX,k]
 have am6:∀i,i<G1.N->(iW l (H'.map (ar.aW σ)) h)[σ i]?=(H'[i]?).map (ar.aW σ):=λi v=>by
  rw[<-Zm,J];exact Xk l _ h i (by rw[Zq,hk,EI];omega) hd aS (by rw[Zq,EI];exact v)
 have PO:∀(n:Nat)(B:ar),(iW l (H'.map (ar.aW σ)) h)[n]?=some B->(∃i B',i<G1.N/\n=σ i/\H'[i]?=some B'/\B=B'.aW σ)\/(t n=none/\n ∉ l/\h[n]?=some B):=λn B c=>by
  have acT:n<G2.N:=by rw[<-T];exact(Zk.1 c).1
  cases A:t n with
  |none=>
   rw[EC]at A;obtain⟨g,R⟩:=ajV A;exact .inr ⟨rfl,R,by rw[<-VW l (H'.map (ar.aW σ)) h n (by rw[Zq,hk,EI];omega) g R];exact c⟩
  |some i=>
   have e:σ i=n:=by rw[J];rw[EC]at A;exact Tb A
   have v:i<G1.N:=Nat.lt_of_not_le λlu=>by
    rw[OS i (by omega)]at e;rw[k]at acT;have:n<G.N+(G1.N-H.length):=acT;omega
   rw[<-e,am6 i v]at c;cases hx:H'[i]? with
   |none=>rw[hx]at c;cases c
   |some B'=>rw[hx]at c;cases c;exact .inl ⟨i,B',v,e.symm,hx,rfl⟩
 have W:∀(n b:Nat),n ∉ l->ct h G n=some b->G0.Z b:=λn b E p=>by
  rw[u];refine⟨hi.iS p,λL=> ?_⟩;rw[fp]at L;obtain⟨j,hj,L⟩:=L;exact E ((hi.inj n j b p L)▸hj)
 have Im:∀(n b:Nat),ct (iW l (H'.map (ar.aW σ)) h) G2 n=some b->(∃i,n=σ i/\ct H' G1 i=some b/\¬G0.Z b)\/(n ∉ l/\ct h G n=some b/\G0.Z b):=λn b p=>by
  obtain⟨B,c,iP⟩:=n9 p;rcases PO n B c with⟨i,B',v,rfl,F,rfl⟩|⟨A,E,F⟩
  ·rw[UC Qs v]at iP;exact .inl ⟨i,rfl,(eJ F).trans iP,λd=>(lv.dJ i B' F).my iP (Yg _ d)⟩
  ·have e:B.eZ G2 n=B.eZ G n:=by
    subst k;cases B<;>simp only[ar.eZ,A,vn]
   have:=(eJ F).trans (e▸iP);exact .inr ⟨E,this,W n b E this⟩
 refine⟨G2,kr,by rw[k];exact Yh _ _,⟨T,λb d=> ?_,λb o q=> ?_,λn B c=> ?_,λm n b g R=> ?_,hi.gl.keep kr⟩,Qs⟩;{rw[k]at d;exact ZU (hi.z b d) x.size};{rw[k]at q;exact lv.S b o q}
 ·rcases PO n B c with⟨i,B',v,rfl,F,rfl⟩|⟨A,E,F⟩
  ·refine e8.aW Qs v (λb p d=> ?_) (lv.dJ i B' F);have:=(lv.dJ i B' F).my p;rw[k]at d;exact this (Yg b (QL b d))
  ·have qJ:n<G.N:=by rw[<-hi.len];exact(Zk.1 F).1
   refine e8.keep qJ kr (by rw[k];exact Yh _ _) (by rw[k];simp only[A];exact⟨rfl,rfl,rfl⟩) (λb p=> ?_) (hi.dJ n B F);have d:=W n b E ((eJ F).trans p);refine⟨x.old b d,λo kL q=> ?_⟩;rw[k]at q;rcases x.new b o q with g|g
   ·rw[u]at g;exact kL g
   ·exact g d
 ·rcases Im m b g with⟨i,rfl,a1,a2⟩|⟨a0,a1,a2⟩<;>rcases Im n b R with⟨j,rfl,b1,b2⟩|⟨b0,b1,b2⟩
  ·rw[lv.inj i j b a1 b1]
  ·exact absurd b2 a2
  ·exact absurd a2 b2
  ·exact hi.inj m n b a1 b1
def dq.Zy{P:dg}{f:FuncId}{args:I AV}{H:I ar}{K:AV->I ar->Prop}(d:dq P f args H K){l:I Nat}{h:I ar}
 (t:l.Nodup) (x:∀j∈l,j<h.length) (z:∀(i j:Nat),l[i]?=some j->h[j]?=(H[i]?).map (ar.aW (rn l h.length))) (A:l.length=H.length)
 (g:args.all (AV.aN H.length)=true) (B:H.all (ar.aN H.length)=true):
 dq P f (args.map (AV.aW (rn l h.length))) h λE h'=>∃r H',K r H'/\E=r.aW (rn l h.length)/\h'=iW l (H'.map (ar.aW (rn l h.length))) h:=by
 refine⟨d.1,λG w F J L b=> ?_⟩;obtain⟨M,k,N,R,S⟩:=Xz t x z A B J;refine(d.2 M w F N (by rw[L,Zq]) λi u c T m=> ?_).mono λe W hp=> ?_
 ·rw[Zb]at g;exact aO.uA R (b i u (c.aW (rn l h.length)) T (by rw[Zm,m];rfl)) c rfl (by rw[k];exact g c (ZX m))
 ·obtain⟨v,G1,r,H',rfl,p,q,lv,hv,hK⟩:=hp;rw[k]at q p;obtain⟨G2,e1,e2,e3,e4⟩:=S G1 W H' p q lv;exact⟨v,G2,r.aW _,_,rfl,e1,e2,e3,hv.aW e4,r,H',hK,rfl,rfl⟩
mutual
def CL{σ τ:Nat->Nat}{k:Nat}(h:∀i,i<k->σ i=τ i):∀x:AV,x.aN k=true->x.aW σ=x.aW τ
 | .ptr n off,hb=>by rw[AV.aN]at hb;rw[AV.aW,AV.aW,h n (by rw[VJ,<-VC,dS]at hb;omega)]
 | .own n xs,hb=>by rw[AV.aN]at hb;rw[AV.aW,AV.aW,h n (by rw[VJ,<-VC,dS]at hb;omega)]
 | .row n off len cap q,hb=>by rw[AV.aN]at hb;rw[AV.aW,AV.aW,h n (by rw[VJ,<-VC,dS]at hb;omega)]
 | .mp n,hb=>by rw[AV.aN]at hb;rw[AV.aW,AV.aW,h n (by rw[VJ,<-VC,dS]at hb;omega)]
 | .cF n,hb=>by rw[AV.aN]at hb;rw[AV.aW,AV.aW,h n (by rw[VJ,<-VC,dS]at hb;omega)]
 | .vec n o len L q,hb=>by rw[AV.aN]at hb;rw[AV.aW,AV.aW,h n (by rw[VJ,<-VC,dS]at hb;omega)]
 | .eC n i j L q,hb=>by rw[AV.aN]at hb;rw[AV.aW,AV.aW,h n (by rw[VJ,<-VC,dS]at hb;omega)]
 | .agg cs,hb=>by rw[AV.aN]at hb;rw[AV.aW,AV.aW,tZ h cs hb]
 | .bn cs,hb=>by rw[AV.aN]at hb;rw[AV.aW,AV.aW,tZ h cs hb]
 | .fn f cs,hb=>by rw[AV.aN]at hb;rw[AV.aW,AV.aW,tZ h cs hb]
 | .d x,_=>by rw[AV.aW,AV.aW]
 | .bK xs i off,_=>by rw[AV.aW,AV.aW]
 | .full xs,_=>by rw[AV.aW,AV.aW]
 | .hid c,_=>by rw[AV.aW,AV.aW]
 | .dead,_=>by rw[AV.aW,AV.aW]
def tZ{σ τ:Nat->Nat}{k:Nat}(h:∀i,i<k->σ i=τ i):∀l:I AV,AV.lB k l=true->AV.ib σ l=AV.ib τ l
 |[],_=>by rw[AV.ib,AV.ib]
 |x::l,hb=>by
  rw[AV.lB,Zo]at hb;rw[AV.ib,AV.ib,CL h x hb.1,tZ h l hb.2]
end
def UP{σ τ:Nat->Nat}{k:Nat}(h:∀i,i<k->σ i=τ i)(B:ar)(d:B.aN k=true):B.aW σ=B.aW τ:=by
 cases B with
 |cells b=>rw[ar.aW,ar.aW,tZ h b (by rw[oe];exact d)]
 |lp m p as t b=>rw[ar.aW,ar.aW,tZ h b (by rw[oe];exact d)]
 |it u b=>rw[ar.aW,ar.aW,tZ h b (by rw[oe];exact d)]
 |fG v b=>rw[ar.aW,ar.aW,tZ h b (by rw[oe];exact d)]
 |vec e q b=>
  rw[ar.aW,ar.aW]
  congr 1
  refine Yy λc g=>tZ h c ?_;simp only[ar.aN,Zb]at d;rw[oe,Zb];exact d c g
 |_=>rfl
def Xj:∀(l:I Nat)(b c i:Nat),i<l.length->rn l b i=rn l c i
 |[],b,c,i,h=>by simp at h
 |a::l,b,c,0,_=>by rw[rn,rn]
 |a::l,b,c,i+1,h=>by rw[rn,rn];exact Xj l b c i (by simpa using h)
def qP:I Nat->Bool
 |[]=>true
 |a::l=> !l.any (·==a)&&qP l
def Xh:∀{l:I Nat},qP l=true->l.Nodup
 |[],_=>List.nodup_nil
 |a::l,h=>by
  rw[qP,Zo,VJ,<-VC]at h;rw[List.nodup_cons];exact⟨λb=>h.1 (List.any_eq_true.2 ⟨a,b,by simp⟩),Xh h.2⟩
def WH:∀(l:I Nat)(h Bs:I ar),l.map (λj=>h[j]?)=Bs.map some->iW l Bs h=h
 |[],h,Bs,e=>by
  cases Bs with
  |nil=>rw[iW,ZV]
  |cons=>simp at e
 |j::l,h,Bs,e=>by
  cases Bs with
  |nil=>simp at e
  |cons B Bs=>
   rw[ZS,ZS]at e;injection e with b d;have g:h.set j B=h:=by
     refine List.ext_getElem? λm=> ?_;by_cases c:j=m
     ·subst c;rw[Z1 (Zk.1 b).1,b]
     ·rw[Z3 c]
   rw[iW,g];exact WH l h Bs d
section
variable {P:dg} {f:FuncId} {fK:I AV} {H:I ar} {l:I Nat} {h:I ar}
def Xg{l:I Nat}{h H:I ar}{σ:Nat->Nat}(d:l.map (λj=>h[j]?)=H.map λB=>some (B.aW σ)):l.length=H.length/\(∀j∈l,j<h.length)/\∀(i j:Nat),l[i]?=some j->h[j]?=(H[i]?).map (ar.aW σ):=by
 have g:l.length=H.length:=by simpa using congrArg List.length d
 have b:∀(i j:Nat),l[i]?=some j->∃B,H[i]?=some B/\h[j]?=some (B.aW σ):=λi j e=>by
  have k:i<H.length:=by rw[<-g];exact(Zk.1 e).1
  have:=congrArg (·[i]?) d;simp only[Zm,e,Zd k,YV,W2]at this;exact⟨_,Zd k,this⟩
 refine⟨g,λj m=> ?_,λi j e=> ?_⟩;{obtain⟨i,p⟩:=List.mem_iff_getElem?.1 m;obtain⟨B,_,c⟩:=b i j p;exact(Zk.1 c).1};{obtain⟨B,c,q⟩:=b i j e;rw[c,q];rfl}
def dq.pA{r:AV}{H':I ar}(d:dq P f fK H λb h1=>b=r/\h1=H')(e:qP l=true)(g:l.map (λj=>h[j]?)=H.map λB=>some (B.aW (rn l h.length)))(c:(fK.all (AV.aN H.length)&&H.all (ar.aN H.length))=true):
 dq P f (fK.map (AV.aW (rn l h.length))) h λb h1=>b=r.aW (rn l h.length)/\h1=iW l (H'.map (ar.aW (rn l h.length))) h:=by
 rw[Zo]at c;obtain⟨h1,i,k⟩:=Xg g;exact(d.Zy (Xh e) i k h1 c.1 c.2).mono λb h1 ⟨u,v,⟨m,p⟩,q,t⟩=>by subst m;subst p;exact⟨q,t⟩
def dq.rq{r:AV}(q:dq P f fK H λb h1=>b=r/\h1=H)(t:qP l=true)(k:l.map (λj=>h[j]?)=H.map λB=>some (B.aW (rn l 0)))(m:(fK.all (AV.aN H.length)&&H.all (ar.aN H.length)&&r.aN H.length)=true)(e:I ar):
 dq P f (fK.map (AV.aW (rn l 0))) (h++e) λb h1=>b=r.aW (rn l 0)/\h1=h++e:=by
 rw[Zo,Zo]at m;obtain⟨⟨c,d⟩,u⟩:=m;obtain⟨h1,v,_⟩:=Xg k;have g:∀i,i<H.length->rn l (h++e).length i=rn l 0 i:=λi z=>Xj l _ _ i (by rw[h1];exact z);have A:H.map (λB=>some (B.aW (rn l (h++e).length)))=H.map λB=>some (B.aW (rn l 0)):=by
   refine Yy λB E=> ?_;rw[Zb]at d;rw[UP g B (d B E)]
 have p:l.map (λj=>(h++e)[j]?)=H.map λB=>some (B.aW (rn l (h++e).length)):=by
  rw[A,<-k];refine Yy λj F=> ?_;rw[ZW (v j F)]
 have:=q.pA t p (by rw[c,d];rfl);have J:fK.map (AV.aW (rn l (h++e).length))=fK.map (AV.aW (rn l 0)):=by
  refine Yy λx L=> ?_;rw[Zb]at c;exact CL g x (c x L)
 rw[J,CL g r u]at this;refine this.mono λb h1 ⟨M,N⟩=>⟨M,?_⟩;rw[N];refine WH l _ _ ?_;rw[p,List.map_map];rfl
end
end Go.Proofs.YtnnapanbbbcalaaGreatDoor
