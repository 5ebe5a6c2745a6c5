/-
  Part 2 of the proof.
-/
import Derived.Test.YtjploedinjiflaaGreatDoorPi1
import Derived.Lib.AppendZeros
import Derived.Maps.RangeRun
set_option linter.defProp false
namespace Go.Proofs.YtjploedinjiflaaGreatDoor
open Go.RowKit
def aM.zm{G:Gh}{w:Zy}{u:oZ}{x:AV}(Z:Nat->Prop)(M:Nat)(h:aM G w u x):aM {G with Z:=Z,M:=M} w u x:=by
 induction h with
 |agg p q e _ v=>exact .agg p q e v
 |bw p q e _ v=>exact .bw p q e v
 |fn f p q e _ v=>exact .fn f p q e v
 |own n z h A B g=>exact .own n z h A B g
 |ptr n c h=>exact .ptr (G:={G with Z:=Z,M:=M}) n c h
 |row n c len cap k h e J=>exact .row (G:={G with Z:=Z,M:=M}) n c len cap k h e J
 |mp n h=>exact .mp (G:={G with Z:=Z,M:=M}) n h
 |cD n h=>exact .cD (G:={G with Z:=Z,M:=M}) n h
 |vec n o len L k h E F g=>exact .vec (G:={G with Z:=Z,M:=M}) n o len L k h E F g
 |dU n i j L k h E F g=>exact .dU (G:={G with Z:=Z,M:=M}) n i j L k h E F g
 |hid h N=>exact .hid h N
 |d h=>exact .d h
 |bm z i c b o u x R S T=>exact .bm z i c b o u x R S T
 |full z A g=>exact .full z A g
 |dead u=>exact .dead u
def fj.zm{G:Gh}{w:Zy}{n:Nat}{B:ao}(Z:Nat->Prop)(M:Nat)(F:∀b,Z b->G.Z b)(h:fj G w n B):fj {G with Z:=Z,M:=M} w n B:=by
 cases B with
 |gone=>trivial
 |cells W=>
  obtain⟨q,d,N,T,v,z,A⟩:=h;exact⟨λk=>q (F _ k),d,N,T,v,z,λi u c J L=>(A i u c J L).zm Z M⟩
 |lp ls p as bd W=>
  obtain⟨q,d,R,N,T,v,z,A⟩:=h;exact⟨λk=>q (F _ k),d,R,N,T,v,z,λi u c J L=>(A i u c J L).zm Z M⟩
 |it sn W=>
  obtain⟨q,d,R,N,T,v,z,A⟩:=h;exact⟨λk=>q (F _ k),d,R,N,T,v,z,λi u c J L=>(A i u c J L).zm Z M⟩
 |gu T0 W=>
  obtain⟨q,d,R,N,T,v,z,A⟩:=h;exact⟨λk=>q (F _ k),d,R,N,T,v,z,λi u c J L=>(A i u c J L).zm Z M⟩
 |map kv=>
  obtain⟨q,d,es,c,v,z⟩:=h;exact⟨λk=>q (F _ k),d,es,c,v,z⟩
 |l7 kv=>
  obtain⟨q,d,es,c,v,z⟩:=h;exact⟨λk=>q (F _ k),d,es,c,v,z⟩
 |front e k len=>
  obtain⟨q,S,d⟩:=h;refine⟨q,S,?_⟩;rcases d with d|⟨g,cap,E,d,v,z,A⟩
  ·exact .inl d
  ·exact .inr ⟨g,cap,E,d,v,λk=>z (F _ k),A⟩
 |jC e b2=>
  obtain⟨q,S,d⟩:=h;refine⟨q,S,?_⟩;rcases d with d|⟨g,cap,E,d,v,z,A⟩
  ·exact .inl d
  ·exact .inr ⟨g,cap,E,d,v,λk=>z (F _ k),A⟩
 |vec e k W=>
  obtain⟨q,S,hk,d⟩:=h;refine⟨q,S,hk,?_⟩;rcases d with d|⟨g,cap,E,d,v,z,A,h6,h7,h8,h9,bu⟩
  ·exact .inl d
  ·exact .inr ⟨g,cap,E,d,v,λk=>z (F _ k),A,h6,h7,h8,h9,λi j c x u L hx J=>(bu i j c x u L hx J).zm Z M⟩
def PG{h:U ao}{G:Gh}{n:Nat}(Z:Nat->Prop)(M:Nat):cu h {G with Z:=Z,M:=M} n=cu h G n:=by
 unfold cu;cases h[n]? with
 |none=>rfl
 |some B=>cases B<;>rfl
def cp.zm{G:Gh}{w:Zy}{h:U ao}(hi:cp G w h)(Z:Nat->Prop)(M:Nat)(c:∀b,Z b->G.Z b)(d:M<=w.heap.size):cp {G with Z:=Z,M:=M} w h:=
 ⟨hi.len,λb e=>hi.z b (c b e),hi.S,λn B g=>(hi.dN n B g).zm Z M c,λm n b k p=>hi.inj m n b (by rw[<-PG Z M];exact k) (by rw[<-PG Z M];exact p),⟨hi.gl.1,d⟩⟩
def tJ(l:U Nat)(w:Zy):Zy:=l.foldl (λw D=>w.putObj D (.deferred none)) w
def Yv:∀(l:U Nat)(w:Zy),(∀D∈l,w.heap[D]?=some (.deferred (some [])))->l.Nodup->
 (tJ l w).heap.size=w.heap.size/\(∀b,b ∉ l->(tJ l w).heap[b]?=w.heap[b]?)/\(∀b o,(tJ l w).cell? ⟨b,o,none⟩=w.cell? ⟨b,o,none⟩)/\(tJ l w).os=w.os/\(tJ l w).tape=w.tape/\(tJ l w).output=w.output
 |[],w,_,_=>⟨rfl,λ_ _=>rfl,λ_ _=>rfl,rfl,rfl,rfl⟩
 |D::l,w,d,c=>by
  rw[List.nodup_cons]at c;have g:=d D Zt;have q:=(ZP.1 g).1;obtain⟨u,v,z,A,B,F⟩:=Yv l (w.putObj D (.deferred none)) (λE k=>by
    have J:E≠D:=λe=>c.1 (e▸k);rw[World.putObj_heap_other J];exact d E (Zk _ k)) c.2
  refine⟨u.trans gj,λb p=> ?_,λb o=> ?_,A,B,F⟩;{exact(v b λh=>p (Zk _ h)).trans (World.putObj_heap_other λe=>p (e▸Zt))}
  ·refine(z b o).trans ?_;by_cases e:b=D
   ·subst e;unfold World.cell?;simp only[World.putObj_heap_same q,g]
   ·exact World.cell?_of_block (World.putObj_heap_other e)
def Y9{F:Fence}{n:Nat}{P:eG}{fn:Func}{tmps:Array oZ}{R:Ending->Zy->Prop}:∀(l:U Nat)(w:Zy),(∀D∈l,w.heap[D]?=some (.deferred (some [])))->l.Nodup->
 LeavesIn F n P fn tmps R [] .returning (tJ l w)->LeavesInM F n P fn tmps R (l.map λD=>{target:= .collected D,args:= #[]}) .returning w
 |[],w,_,_,h=>h
 |D::l,w,c,b,h=>by
  rw[List.nodup_cons]at b;exact⟨by simp,.inl ⟨D,_,rfl,run_takeDeferred (c D Zt),Y9 l _ (λE d=>by
    have g:E≠D:=λe=>b.1 (e▸d);rw[World.putObj_heap_other g];exact c E (Zk _ d)) b.2 h⟩⟩
def al1{N0:Nat}{G G1:Gh}{w w':Zy}{a':Act}{s1:St}(c:cf N0 {G with M:=w.heap.size} w G1 w')(hN:N0<=G1.N)(hz:∀b,G.Z b->b<w.heap.size)(u:G.M<=w.heap.size)(k:dk G1 w' a' s1):
 ∃(p:Zy)(G2:Gh),(∀(F:Fence)(n:Nat)(P:eG)(fn:Func)(R:Ending->Zy->Prop),(∃v,(results fn a'.tmps).run P p= .ok v p/\R (.returned v) p)->LeavesInM F n P fn a'.tmps R a'.defers .returning w')/\
  cf N0 G w G2 p/\G2.N=G1.N/\dk G2 p {a' with defers:=[]} s1:=by
 obtain⟨l,T,l2,A⟩:=k.df;have W:∀D∈l,w'.heap[D]?=some (.deferred (some [])):=λD hD=>(A D hD).2.2;obtain⟨E,h2,h3,h4,h5,h6⟩:=Yv l w' W T;have hM:G1.M=w.heap.size:=c.Z.2;have lq:∀b,G.Z b->b ∉ l:=λb d J=>by
  have:=(A b J).1;have:=hz b d;omega
 obtain⟨G2,e⟩:∃G2:Gh,G2={G1 with Z:=G.Z,M:=G.M}:=⟨_,rfl⟩;have xf:∀b,G.Z b->G1.Z b:=c.Z.1.1;have g:cp G2 w' s1.h:=by rw[e];exact k.inv.zm _ _ xf (Ze u c.size)
 have lV:cf N0 G w G2 w':=by
  rw[e];exact⟨c.size,c.S,c.cell,c.bn,c.fr,iJ rfl,c.old,c.os,c.tape,c.output,c.new⟩
 have q:cf G2.N G2 w' G2 (tJ l w'):=⟨by rw[E];exact Zx _,λ_ _ h=>h,λb o _=>h3 b o,λ_ _=>rfl,λ_ _=>.inl ⟨rfl,rfl⟩,iJ rfl,λb d=>h2 b (lq b (by rw[e]at d;exact d)),h4,h5,h6,λ_ _ h=>.inl h⟩;have JT:cp G2 (tJ l w') s1.h:=⟨g.len,λb d=>by rw[E];exact g.z b d,λb o d=>by rw[E];exact g.S b o d,λn B L=>fj.keep (g.lt L) q (Zx _) ⟨rfl,rfl,rfl⟩ (λb d=>⟨h2 b λJ=>(k.inv.dN n B L).mD (by rw[e]at d;cases B<;>exact d) (A b J).2.1,λ_ h=>h⟩) (g.dN n B L),g.inj,g.gl.keep q⟩;refine⟨tJ l w',G2,λF n P fn R h=> ?_,lV.trans (q.less (by rw[e];exact hN)),by rw[e],⟨k.size,λi=>aM.keep q (Zx _) (by rw[e];exact(k.tmp i).zm _ _),JT,ux.nil _ _⟩⟩;rw[l2];exact Y9 l w' W T h
section
variable {G:Gh} {w:Zy} {h:U ao}
def akp(hi:cp G w h)(fn:FuncId)(k:Array oZ)(D p:Nat)(as g:Code)(cs:U AV)(W:k.size=cs.length)(hr:∀(i:Nat)(u:oZ)(c:AV),k[i]?=some u->cs[i]?=some c->aM G w u c):cf G.N G w (G.fz w.heap.size) (w.alloc (.loop {state:= .ready,pending:=none,fn:=fn,tmps:=k,params:= #[p],assign:=as,body:=g,defers:=D}))/\cp (G.fz w.heap.size) (w.alloc (.loop {state:= .ready,pending:=none,fn:=fn,tmps:=k,params:= #[p],assign:=as,body:=g,defers:=D})) (h++[.lp .ready p as g cs])/\aM (G.fz w.heap.size) (w.alloc (.loop {state:= .ready,pending:=none,fn:=fn,tmps:=k,params:= #[p],assign:=as,body:=g,defers:=D})) (.func (.yield w.heap.size) #[] #[]) (.cD h.length):=by
 have q:=Iu G w hi.z hi.S (.loop {state:= .ready,pending:=none,fn:=fn,tmps:=k,params:= #[p],assign:=as,body:=g,defers:=D});have R:G.N<=(G.fz w.heap.size).N:=cG _;have A:(G.fz w.heap.size).bn h.length=w.heap.size:=by simp [Gh.fz,hi.len]
 have px:∀n(B:ao),n<G.N->B.fv (G.fz w.heap.size) n=B.fv G n:=λn B d=>by
  cases B<;>simp [ao.fv,Gh.fz,Nat.ne_of_lt d]
 have gW:∀n,n<G.N->cu (h++[.lp .ready p as g cs]) (G.fz w.heap.size) n=cu h G n:=λn d=>by
  have E:n<h.length:=by rw[hi.len];exact d
  unfold cu;rw[ZT E,Zd E];exact px n _ d
 have Fq:cu (h++[.lp .ready p as g cs]) (G.fz w.heap.size) h.length=some w.heap.size:=by
  rw[eN (B:= .lp .ready p as g cs) gj];exact congrArg some A
 refine⟨q,⟨by simp [Gh.fz,hi.len],λb J=>ZO (hi.z b J) q.size,λb o L=>ZO (hi.S b o L) q.size,λn B v=> ?_,λm n b hm d=> ?_,hi.gl.keep q⟩,?_⟩
 ·by_cases d:n<h.length
  ·rw[ZT d]at v;have M:n<G.N:=hi.len▸d;exact fj.keep M q R ⟨rfl,rfl,rfl⟩ (λb J=>⟨Below.heap_alloc w _ _ (hi.kR (n:=n) ((eN v).trans J)),λo h=>h⟩) (hi.dN n B v)
  ·have pC:n=h.length:=by
    have:=(Zj.1 v).1;simp at this;omega
   subst pC;simp at v;subst v;exact⟨by rw[A];exact λhz=>Yu _ (hi.z _ hz),λo L=>by rw[A]at L;exact Yu _ (hi.S _ _ L),fn,k,D,by rw[A];exact World.alloc_heap_new w _,W,λi u c hu hc=>(hr i u c hu hc).keep q R⟩
 ·have F:∀n b,cu (h++[.lp .ready p as g cs]) (G.fz w.heap.size) n=some b->(n<G.N/\cu h G n=some b)\/(n=h.length/\b=w.heap.size):=λn b d=>by
   by_cases E:n<G.N;{exact .inl ⟨E,by rw[<-gW n E];exact d⟩}
   ·by_cases e:n=h.length
    ·subst e;rw[Fq]at d;cases d;exact .inr ⟨rfl,rfl⟩
    ·rw[Em (Z1 (by simp;have:=hi.len;omega))]at d;cases d
  rcases F m b hm with⟨_,T⟩|⟨rfl,rfl⟩<;>rcases F n _ d with⟨_,M⟩|⟨rfl,J⟩
  ·exact hi.inj m n b T M
  ·have:=hi.kR T;omega
  ·have:=hi.kR M;omega
  ·rfl
 ·have:=aM.cD (G:=G.fz w.heap.size) (w:=w.alloc (.loop {state:= .ready,pending:=none,fn:=fn,tmps:=k,params:= #[p],assign:=as,body:=g,defers:=D})) h.length (by simp [Gh.fz,hi.len])
  rwa [A]at this
def Y8{k:Nat}{B B':ao}{ob d:Obj}(hi:cp G w h)(q:h[k]?=some B)(F:B.fv G k=some (G.bn k))(hS:∀o,¬G.S (G.bn k) o)(mV:w.heap[G.bn k]?=some ob)(u:B'= .gone\/B'.fv G k=some (G.bn k))
 (hB:∀w',(∀b o,G.S b o->w'.cell? ⟨b,o,none⟩=w.cell? ⟨b,o,none⟩)->w'.heap[G.bn k]?=some d->cf G.N G w G w'->fj G w' k B'):cf G.N G w G (w.putObj (G.bn k) d)/\cp G (w.putObj (G.bn k) d) (h.set k B'):=by
 have a8:=(ZP.1 mV).1;have hZ:¬G.Z (G.bn k):=(hi.dN k B q).mD F;have v:∀b,b≠G.bn k->(w.putObj (G.bn k) d).heap[b]?=w.heap[b]?:=λb c=>World.putObj_heap_other c;have J:∀b o,G.S b o->(w.putObj (G.bn k) d).cell? ⟨b,o,none⟩=w.cell? ⟨b,o,none⟩:=λb o A=>World.cell?_of_block (v b (λe=>hS o (e▸A)));have g:cf G.N G w G (w.putObj (G.bn k) d):=⟨by simp,λ_ _ h=>h,J,λ_ _=>rfl,λ_ _=>.inl ⟨rfl,rfl⟩,iJ rfl,λb c=>v b (λe=>hZ (e▸c)),rfl,rfl,rfl,λ_ _ h=>.inl h⟩;refine⟨g,?_⟩;have E:=(Zj.1 q).1;have L:(h.set k B')[k]?=some B':=by rw[ZB E]
 have M:∀m,m≠k->(h.set k B')[m]?=h[m]?:=λm hm=>by rw[Z7 (Ne.symm hm)]
 have R:cu h G k=some (G.bn k):=(eN q).trans F;have T:∀m b,cu (h.set k B') G m=some b->cu h G m=some b:=λm b c=>by
  by_cases e:m=k
  ·subst e;rw[eN L]at c;rcases u with rfl|u
   ·cases c
   ·rw[u]at c;cases c;exact R
  ·unfold cu at c ⊢;rw[M m e]at c;exact c
 refine⟨by rw[Zf];exact hi.len,λb c=>ZO (hi.z b c) g.size,λb o A=>ZO (hi.S b o A) g.size,λm C p=> ?_,λm W b h1 h2=>hi.inj m W b (T m b h1) (T W b h2),hi.gl.keep g⟩;by_cases e:m=k
 ·subst e;rw[L]at p;cases p
  exact hB _ J (World.putObj_heap_same a8) g
 ·rw[M m e]at p;have cV:∀b,cu h G m=some b->b≠G.bn k:=λb c eb=>e (hi.inj m k b c (by rw[eb];exact R));exact fj.keep (hi.lt p) g (Zx _) ⟨rfl,rfl,rfl⟩ (λb c=>⟨v b (cV _ ((eN p).trans c)),λo h=>h⟩) (hi.dN m C p)
def Ml{k:Nat}{g:LS}{p:Nat}{as e:Code}{cs:U AV}(hi:cp G w h)(v:h[k]?=some (.lp g p as e cs)):
 (∀o,¬G.S (G.bn k) o)/\∃(fn:FuncId)(b:Array oZ)(D:Nat),w.heap[G.bn k]?=some (.loop {state:=g.st,pending:=g.pd,fn:=fn,tmps:=b,params:= #[p],assign:=as,body:=e,defers:=D})/\b.size=cs.length/\(∀(i:Nat)(u:oZ)(c:AV),b[i]?=some u->cs[i]?=some c->aM G w u c)/\
   ∀(d:LS),cf G.N G w G (w.putObj (G.bn k) (.loop {state:=d.st,pending:=d.pd,fn:=fn,tmps:=b,params:= #[p],assign:=as,body:=e,defers:=D}))/\cp G (w.putObj (G.bn k) (.loop {state:=d.st,pending:=d.pd,fn:=fn,tmps:=b,params:= #[p],assign:=as,body:=e,defers:=D})) (h.set k (.lp d p as e cs)):=by
 obtain⟨E,q,fn,b,D,z,A,B⟩:=hi.dN k _ v;refine⟨q,fn,b,D,z,A,B,λd=>Y8 hi v rfl q z (.inr rfl) λR T F J=>⟨E,q,fn,b,D,F,A,λi u c L M=>(B i u c L M).keep J (Zx _)⟩⟩
def apX{k:Nat}{d:LS}{p:Nat}{as e:Code}{cs:U AV}(hi:cp G w h)(b:h[k]?=some (.lp d p as e cs))(c:Obj):cf G.N G w G (w.putObj (G.bn k) c)/\cp G (w.putObj (G.bn k) c) (h.set k .gone):=by
 obtain⟨u,g,v,z,D,q,A,B⟩:=hi.dN k _ b;exact Y8 hi b rfl g q (.inl rfl) λ_ _ _ _=>trivial
def ao8(hi:cp G w h):cf G.N G w {G with Z:=λb=>G.Z b\/b=w.heap.size} (w.alloc (.deferred (some [])))/\cp {G with Z:=λb=>G.Z b\/b=w.heap.size} (w.alloc (.deferred (some []))) h:=by
 have d:cf G.N G w {G with Z:=λb=>G.Z b\/b=w.heap.size} (w.alloc (.deferred (some []))):=
  ⟨by simp,λ_ _ h=>h,λb _ h=>World.cell?_alloc_lt _ _ _ (hi.S _ _ h),λ_ _=>rfl,λ_ _=>.inl ⟨rfl,rfl⟩,⟨⟨λ_ h=>.inl h,λb h=>h.imp id λe=>Nat.le_of_eq e.symm⟩,rfl⟩,λb c=>Below.heap_alloc w _ b (hi.z b c),rfl,rfl,rfl,λ_ _ h=>.inl h⟩
 refine⟨d,hi.len,λb c=> ?_,λb o k=>ZO (hi.S b o k) d.size,λn B g=> ?_,λm n b p q=>hi.inj m n b (by rw[<-PG (λb=>G.Z b\/b=w.heap.size) G.M];exact p) (by rw[<-PG (λb=>G.Z b\/b=w.heap.size) G.M];exact q),hi.gl.keep d⟩
 ·rcases c with c|rfl
  ·exact ZO (hi.z b c) d.size
  ·simp
 ·exact fj.keep (hi.lt g) d (Zx _) ⟨rfl,rfl,rfl⟩ (λb c=>⟨Below.heap_alloc w _ _ (hi.kR (n:=n) ((eN g).trans c)),λo h=>h⟩) (hi.dN n B g)
end
open Go.RowKit Go.Lib
def AV.isNil:AV->Bool
 | .d (.v (.slice none 0 0))=>true
 |_=>false
def anh{x:AV}(h:x.isNil=true):x= .d (.v (.slice none 0 0)):=by
 unfold AV.isNil at h;split at h;{rfl};{cases h}
def DU(P:eG)(op:Op)(ρ:Operand->AV)(h:U ao):O (AV×U ao):=
 match op with
 | .slice T x g p none=>match fF P T,yj ρ 0 g,yj ρ 0 p with
   |some _,some 0,some 0=>bif (ρ x).isNil then some (.d (.v (.slice none 0 0)),h)else none
   |_,_,_=>none
 | .call c=>match c.callee with
   | .builtin .cap=>match c.args.toList,c.argTypes.toList with
     |[x],[T]=>bif (ρ x).isNil&&(fF P T).isSome then some (.d (.v (.int .i64 0)),h)else none
     |_,_=>none
   | .builtin .append=>match c.args.toList,c.argTypes.toList with
     |[x,y],[T,b]=>match fF P T,tH P b,ρ y with
      |some (e,k),some _,.d (.v (.int _ (.ofNat m)))=>match jY P e,uj P e with
       |some z,some q=>bif (ρ x).isNil&&cF 1 m&&cF 1 k&&z.cells.toList.length==k&&cF m maxLen&&cF (m*q) 140737488355328 then some (.vec h.length 0 m m k,h++[.vec e k (List.replicate m (z.cells.toList.map λu=>.d (.v u)))])else none
       |_,_=>none
      |_,_,_=>none
     |_,_=>none
   |_=>none
 |_=>none
section
variable {P:eG} {r:O Nat} {n N0:Nat} {G:Gh} {w:Zy} {a:Act} {s:St} {o:Oper} {K:St->Prop} {Q:Exit->Act->Zy->Prop}
def atu{x:Operand}{T:TypeId}(c:Call)(b:c.callee= .builtin .cap)(h1:c.args.toList=[x])(d:c.argTypes.toList=[T])(e:o.op= .call c):
 (execOp a.eval o).run P w=((Builtin.cap_ #[T] o.type #[a.eval x]).run P w).andThen λv w'=>.ok (.value v) w':=by
 have g:c.args= #[x]:=by rw[<-Array.toList_inj];exact h1
 have k:c.argTypes= #[T]:=by rw[<-Array.toList_inj];exact d
 unfold execOp;simp only[e,resolve,b,g,k,invoke,builtin,Sem.run_bind,Sem.run_pure,Result.andThen_ok,List.map_toArray,ZY,ai]
def Z8(b:dk G w a s){x:O Operand}(h:yj (ev s) 0 x=some 0):Ew a x 0 0:=by
 cases x with
 |none=>rfl
 |some y=>exact Tz (d:=0) b h (Int.le_refl _)
def atz{x:AV}{h':U ao}(E:dk G w a s)(cW:N0<=G.N)(p:DU P o.op (ev s) s.h=some (x,h'))(hK:K ((s.wh h').put o.dst x)):o.wpIn (WF r) n P a w (kE N0 G w K) Q:=by
 have dZ:=E.ev;have F:∀{y:Operand},(ev s y).isNil=true->a.eval y= .slice none 0 0:=fun{y} h=>by
  have:=dZ y;rw[anh h]at this;exact this.val
 unfold DU at p;split at p
 next T y lo hi J=>
  split at p
  ·next ek R S e3=>
   obtain⟨A,W⟩:=oa p;cases W
   obtain⟨gz,q⟩:=lF R;refine gK (by rw[J];simp) E cW (v:= .slice none 0 0) ?_ (.d (.v _)) hK;have lK:=HZ (P:=P) (Dm:=true) (Z8 E S) (Z8 E e3) (Zx _) (Zx 0) w;unfold execOp;simp [J,F A,Instr.sliceAt,Instr.slice,run_underlying gz,lK,og q]
  ·cases p
 next c J=>
  split at p
  ·next B=>
   split at p
   ·next y T R S=>
    obtain⟨A,W⟩:=oa p;cases W
    rw[Zo]at A;cases hT:fF P T with
    |none=>rw[hT]at A;cases A.2
    |some ek=>
     obtain⟨gz,q⟩:=lF hT;refine gK (by rw[J];simp) E cW (v:= .int .i64 0) ?_ (.d (.v _)) hK;rw[atu c B R S J,F A.1];simp [Builtin.cap_,run_underlying gz,goInt]
   ·cases p
  ·next B=>
   split at p
   ·next y z T g R S=>
    split at p
    ·next e k kn kq m f1 f2 f3=>
     split at p
     ·next zz dc g1 g2=>
      obtain⟨A,W⟩:=oa p;cases W
      simp only[Zo,dT,TC]at A;obtain⟨⟨⟨⟨⟨jq,lK⟩,Gx⟩,rQ⟩,JV⟩,RB⟩:=A;clear p;obtain⟨gz,q⟩:=lF f1;obtain⟨i,mL,lk⟩:∃i,P.info? e=some i/\i.size=k:=by
       unfold ZH at q;cases L:P.info? e with
       |none=>rw[L]at q;cases q
       |some i=>rw[L]at q;exact⟨i,rfl,Zl q⟩
      have hz:i.zero=some zz:=by unfold jY at g1;rw[mL]at g1;exact g1
      have hbt:i.bytes=dc:=by unfold uj at g2;rw[mL]at g2;exact Zl g2
      subst lk;subst hbt;have hy:=dZ z;rw[f3]at hy;have ey:a.eval z= .int kq (m:Nat):=hy.val;have eB:=run_append_nil_zeros (P:=P) w T g o.type e i zz kq kn gz (Pm f2) mL hz m k7 k7 (by have:=JV;simp [maxLen]at this;omega) k7;have lq:zz.cells.size=i.size:=by rw[<-Z9];exact rQ
      have gP:(List.replicate m (zz.cells.toList.map λu=>AV.d (.v u))).length=m:=Ym;obtain⟨cap,kI⟩:∃cap,cap=grownCap w m 0 e:=⟨_,rfl⟩;have lf:m<=cap:=by rw[kI];exact grownCap_ge _ _ _ _
      have hle:cap<=maxLen:=by rw[kI];exact grownCap_le_maxLen _ _ _ _ JV
      rw[<-kI]at eB;obtain⟨cur,mf⟩:∃cur,cur=Builtin.zeroCells zz.cells m++Builtin.zeroCells zz.cells (cap-m):=⟨_,rfl⟩;rw[<-mf]at eB;have ib:cur.size=cap*i.size:=by
        rw[mf,Array.size_append,size_zeroCells,size_zeroCells,lq,<-Ya]
        congr 1
        omega
      obtain⟨G',q1,q2,q3,q4⟩:=Si (e:=e) (k:=i.size) (cap:=cap) (cs:=List.replicate m (zz.cells.toList.map λu=>AV.d (.v u))) (cur:=cur) E.inv (by rw[gP];exact lf) hle ib (λc B=>by
       rw[List.eq_of_mem_replicate B,Zw];exact rQ) w.drew ⟨rfl,rfl,rfl,rfl⟩ (λa' b c x u B p M=>by
       have:=List.eq_of_mem_replicate (ZZ B);subst this;rw[Zm]at p;cases L:zz.cells.toList[b]? with
       |none=>rw[L]at p;cases p
       |some y=>
        rw[L]at p;cases p
        have kD:b<i.size:=by rw[<-rQ];exact(Zj.1 L).1
        have Xd:a'<m:=by have:=(Zj.1 B).1;rwa [gP]at this
        have a8:a'*i.size+b<m*i.size:=lX Xd kD;rw[mf,Array.getElem?_append_left (by rw[size_zeroCells,lq];exact a8)]at M;unfold Builtin.zeroCells at M;rw[Array.getElem?_map,Array.getElem?_range,lq,ae a8]at M;simp only[ZG,Vg]at M;rw[(MJ (i:=a') kD).2]at M;have uk:zz.cells[b]?=some y:=by rw[<-ZL];exact L
        rw[getElem!_pos zz.cells b (by rw[lq];exact kD)]at M;rw[ZI (by rw[lq];exact kD)]at uk;cases uk
        subst M;exact .d (.v _))
      rw[gP]at q4;refine rZ (by rw[J];simp) E cW (by rw[Fa c B R S J,F jq,ey,eB];rfl) q1 q2 q3 (q4 m (Zx _)) hK
     ·cases p
    ·cases p
   ·cases p
  ·cases p
 next=>cases p
end
section
variable {G:Gh} {w:Zy} {h:U ao}
def auq(hi:cp G w h):cf G.N G w G w.drew/\cp G w.drew h:=by
 have b:cf G.N G w G w.drew:=⟨Zx _,λ_ _ h=>h,λ_ _ _=>rfl,λ_ _=>rfl,λ_ _=>.inl ⟨rfl,rfl⟩,iJ rfl,λ_ _=>rfl,rfl,rfl,rfl,λ_ _ h=>.inl h⟩;exact⟨b,hi.len,hi.z,hi.S,λn B c=>fj.keep (hi.lt c) b (Zx _) ⟨rfl,rfl,rfl⟩ (λ_ _=>⟨rfl,λ_ h=>h⟩) (hi.dN n B c),hi.inj,hi.gl.keep b⟩
end
section
variable {P:eG} {r:O Nat} {n N0:Nat} {G:Gh} {w:Zy} {a:Act} {s:St} {o:Oper} {K:St->Prop} {Q:Exit->Act->Zy->Prop}
end
def jO(ops:Array Oper)(o:Oper)(s:St)(e g:Prop):Prop:=
 match o.guard with
 |none=>e
 |some (j,c)=>match (ops[j]?).bind (·.dst)with
  |some d=>match bE s.t d with
   | .d (.v (.bool b))=>(b=c->e)/\(b= !c->g)
   | .d (.v (.tuple _))=>g
   |_=>False
  |none=>False
structure bM(P:Program)(r:Option Nat)(N0:Nat)(c:Code)(Q:Exit->St->Prop)(s:St):Prop where
 run:∀(G:Gh)(w:World)(a:Act)(n:Nat),dk G w a s->N0<=G.N->c.wpIn (WF r) n P (λe a' w'=>kE N0 G w (Q e) a' w') a w
def jG(K:St->Prop)(Q:Exit->St->Prop):Exit->St->Prop
 | .normal,s=>K s
 |e,s=>Q e s
def nh:Nat->U AV->U (Nat×AV)
 |_,[]=>[]
 |k,x::l=>(k,x)::nh (k+1) l
def Uw:∀(l:U AV)(k i:Nat),bE (nh k l) i=if k<=i then(l[i-k]?).getD .dead else .dead
 |[],k,i=>by simp [nh,bE]
 |x::l,k,i=>by
  rw[nh,mN,Uw l (k+1) i];by_cases h:i=k;{subst h;simp}
  ·rw[af h];by_cases b:k<=i
   ·rw[ae k7,ae b,show i-k=i-(k+1)+1 by omega,Yx]
   ·rw[af k7,af b]
def YS(P:eG)(k:Nat)(x:AV)(h:U ao)(C:Bool->U ao->Prop):Prop:=∀(G:Gh)(w:Zy)(v:oZ)(r:O Nat)(n:Nat),cp G w h->aM G w v x->k<G.N/\∃(p:Nat)(as c:Code)(fn:FuncId)(d:Array oZ)(D:Nat),w.heap[G.bn k]?=some (.loop {state:= .ready,pending:=none,fn:=fn,tmps:=d,params:= #[p],assign:=as,body:=c,defers:=D})/\ RoundIn (WF r) n P (G.bn k) fn (d.setIfInBounds p v) as c w λe g=>∃(b:Bool)(G':Gh)(h':U ao),e= .returned (.bool b)/\cf G.N G w G' g/\G.N<=G'.N/\cp G' g h'/\C b h'
def ap7(C:Bool->U ao->Prop)(k:Nat):Exit->St->Prop
 | .normal,b=>∃p as c d,b.h[k]?=some (.lp .busy p as c d)/\C true (b.h.set k (.lp .ready p as c d))
 | .ret,b=>∃p as c d,b.h[k]?=some (.lp .busy p as c d)/\C false (b.h.set k (.lp (.done .ret) p as c d))
 | .exit i,b=>∃p as c d,b.h[k]?=some (.lp .busy p as c d)/\C false (b.h.set k (.lp (.done (.exit i)) p as c d))
 |_,_=>False
def NA(P:eG)(o:Oper)(K:St->Prop)(s:St):Prop:=
 match o.op with
 | .call c=>match c.callee with
   | .value f=>match ev s f,c.args.toList.map (ev s)with
     | .cD k,[x]=>YS P k x s.h λb h'=>K ((s.wh h').put o.dst (.d (.v (.bool b))))
     |_,_=>False
   |_=>False
 |_=>False
def arc(P:eG)(o:Oper)(K:St->Prop)(s:St):Prop:=∃x h',DU P o.op (ev s) s.h=some (x,h')/\K ((s.wh h').put o.dst x)
def qW(P:eG)(o:Oper)(K:St->Prop)(s:St):Prop:=JX P o K s\/I4 P o K s\/tz P o K s\/NA P o K s\/arc P o K s
def vT(P:eG)(ops:Array Oper):U Oper->(St->Prop)->St->Prop
 |[],K,s=>K s
 |o::rest,K,s=>jO ops o s (qW P o (vT P ops rest K) s) (vT P ops rest K (s.put o.dst (.d (.v undef))))
def tV(id:Nat)(Q:Exit->St->Prop):Exit->St->Prop
 | .exit b,s=>bif b==id then Q .normal s else Q (.exit b) s
 |e,s=>Q e s
section
variable {P:eG} {r:O Nat} {n N0:Nat} {G:Gh} {w:Zy} {a:Act} {s:St} {o:Oper} {Q:Exit->St->Prop}
def kE.mono{K b:St->Prop}(h:∀s,K s->b s){a':Act}{w':Zy}(c:kE N0 G w K a' w'):kE N0 G w b a' w':=
 let ⟨d,s',e,g,k,p⟩:=c;⟨d,s',e,g,k,h _ p⟩
def kE.trans{K:St->Prop}{G1:Gh}{b:Zy}(c:cf N0 G w G1 b){a':Act}{w':Zy}(d:kE N0 G1 b K a' w'):kE N0 G w K a' w':=
 let ⟨e,s',g,k,p,q⟩:=d;⟨e,s',c.trans g,k,p,q⟩
def bM.mono{c:Code}{Q':Exit->St->Prop}(h:bM P r N0 c Q s)(b:∀e s,Q e s->Q' e s):bM P r N0 c Q' s:=
 ⟨λG w a n d g=>wpIn_mono (h.run G w a n d g) λe _ _ k=>k.mono (b e)⟩
def W8{ops:Array Oper}{k no:Prop}(B:dk G w a s)(h:jO ops o s k no):if Region.wanted o (yielded ops a.tmps)then k else no:=by
 unfold jO at h;split at h
 ·rename_i p
  rw[ae (by simp [Region.wanted,p])];exact h
 ·rename_i j c p
  split at h
  ·rename_i d A
   have q:=B.tmp d;split at h
   ·rename_i b v
    rw[v]at q;have e:=q.bool;have u:yielded ops a.tmps j=some b:=by
      unfold yielded;rw[A,re];by_cases g:d<a.tmps.size
      ·rw[ZI g];have:a.tmps.getD d undef=a.tmps[d]:=by simp [Array.getD,g]
       rw[this]at e;rw[e]
      ·have:a.tmps.getD d undef=undef:=by simp [Array.getD,g]
       rw[this]at e;cases e
    by_cases z:b=c;{rw[ae (by simp [Region.wanted,p,u,z])];exact h.1 z};{rw[af (by simp [Region.wanted,p,u,z])];exact h.2 (by cases b<;>cases c<;>simp_all)}
   ·rename_i E v
    rw[v]at q;have e:=q.val;have u:yielded ops a.tmps j=none:=by
      unfold yielded;rw[A,re];by_cases g:d<a.tmps.size
      ·rw[ZI g];have:a.tmps.getD d undef=a.tmps[d]:=by simp [Array.getD,g]
       rw[this]at e;rw[e]
      ·rw[Array.getElem?_eq_none (Nat.le_of_not_lt g)]
    rw[af (by simp [Region.wanted,p,u])];exact h
   ·exact h.elim
  ·exact h.elim
def YS.mono{k:Nat}{x:AV}{h:U ao}{C C':Bool->U ao->Prop}(c:YS P k x h C)(d:∀b h',C b h'->C' b h'):YS P k x h C':=λG w v r n e g=>
 let ⟨q,p,as,bd,u,z,D,A,B⟩:=c G w v r n e g
 ⟨q,p,as,bd,u,z,D,A,B.mono λ_ _ ⟨b,E,h',a1,a2,a3,F,J⟩=>⟨b,E,h',a1,a2,a3,F,d _ _ J⟩⟩
def aoC{k:Nat}{x:AV}{h:U ao}{C:Bool->U ao->Prop}
 (hA:∃p as g cs,h[k]?=some (.lp .ready p as g cs)/\p<cs.length/\∀(l:Nat),bM P (some l) h.length as (jG (λs1=>∃z A B T,s1.h[k]?=some (.lp .ready z A B T)/\bM P (some l) h.length g (ap7 C k) ⟨s1.n,s1.t,s1.h.set k (.lp .busy z A B T)⟩) (λ_ _=>False)) ⟨cs.length,(p,x)::nh 0 cs,h⟩):YS P k x h C:=by
 intro G w v r n W Vl;obtain⟨p,as,g,cs,hk,hp,hA⟩:=hA;have Cm:k<G.N:=W.lt hk;obtain⟨hS,fn,tm,D,h3,h4,h5,avv⟩:=Ml W hk;refine⟨Cm,p,as,g,fn,tm,D,h3,?_⟩;refine roundIn_of_wpIn (F:=WF r) trivial ?_;have AK:dk G w {tmps:=tm.setIfInBounds p v,defers:=[]} ⟨cs.length,(p,x)::nh 0 cs,h⟩:=by
  refine⟨by simp [h4],λi=> ?_,W,ux.nil _ _⟩;show aM _ _ _ (bE ((p,x)::nh 0 cs) i);rw[mN];split
  ·next e=>
   subst e;have:(tm.setIfInBounds i v).getD i undef=v:=by simp [Array.getD,h4,hp]
   rw[this];exact Vl
  ·next e=>
   rw[Uw];simp only[Wl,if_true,Nat.sub_zero];cases gZ:cs[i]? with
   |none=>exact .dead _
   |some y=>
    have a8:i<tm.size:=by rw[h4];exact(Zj.1 gZ).1
    have:(tm.setIfInBounds p v).getD i undef=tm[i]:=by
     simp [Array.getD,a8,Ne.symm e]
    rw[this];exact h5 i _ y (ZI a8) gZ
 have xO:=hA (G.bn k);rw[W.len]at xO;refine wpIn_mono (xO.run G w _ n AK (Zx _)) λe1 a1 w1 Am=> ?_;obtain⟨G1,s1,lV,iv,fW,yN⟩:=Am;cases e1 with
 |normal=>
  obtain⟨z,A,B,T,ko,jq⟩:=yN;have Ct:G1.bn k=G.bn k:=lV.bn k Cm;obtain⟨_,fn1,tm1,D1,g3,g4,g5,aa7⟩:=Ml fW.inv ko;obtain⟨gE,gI⟩:=aa7 .busy;rw[Ct]at g3 gE gI;refine⟨_,run_beginRound g3 rfl,?_⟩;have zj:dk G1 (w1.putObj (G.bn k) (.loop {state:= .busy,pending:=none,fn:=fn1,tmps:=tm1,params:= #[z],assign:=A,body:=B,defers:=D1})) a1 ⟨s1.n,s1.t,s1.h.set k (.lp .busy z A B T)⟩:=fW.move gE (Zx _) gI;refine wpIn_mono (jq.run G1 _ a1 n zj iv) λe3 a3 w3 hn3=> ?_;obtain⟨G3,s3,ZA,E,hs3,tw⟩:=hn3;have q:∀(c:O Code)(u:LS)(b:Bool)(p:Nat)(as g:Code)(d:U AV),s3.h[k]?=some (.lp .busy p as g d)->u.pd=c->u.st=(if c.isNone then .ready else .done)->c.isNone=b->C b (s3.h.set k (.lp u p as g d))->
   ∃v w',(Instr.endRound (G.bn k) c).run P w3= .ok v w'/\∃(b:Bool)(G':Gh)(h':U ao),(Ending.returned v:Ending)= .returned (.bool b)/\cf G.N G w G' w'/\G.N<=G'.N/\cp G' w' h'/\C b h':=λc u b p as g d Mj q1 q2 q3 hK=>by
   have Sr:G3.bn k=G.bn k:=(ZA.bn k Cm).trans Ct;obtain⟨_,fn3,tm3,D3,z3,z4,z5,anX⟩:=Ml hs3.inv Mj;obtain⟨zE,zI⟩:=anX u;rw[Sr]at z3 zE zI;subst q1;have EH:=run_endRound (P:=P) u.pd z3;rw[<-q2]at EH;refine⟨_,_,EH,b,G3,_,by rw[q3],?_,E,zI,hK⟩;exact(lV.trans ((gE.less iv).trans ZA)).trans (zE.less E)
  cases e3 with
  |normal=>obtain⟨J,L,M,d,R,S⟩:=tw;exact q none .ready true J L M d R rfl rfl rfl S
  |ret=>obtain⟨J,L,M,d,R,S⟩:=tw;exact q (some .ret) (.done .ret) false J L M d R rfl rfl rfl S
  |exit i=>obtain⟨J,L,M,d,R,S⟩:=tw;exact q (some (.exit i)) (.done (.exit i)) false J L M d R rfl rfl rfl S
  |_=>exact tw.elim
 |_=>exact yN.elim
def atT{K:St->Prop}{Q:Exit->Act->Zy->Prop}(q:dk G w a s)(A:N0<=G.N)(h:NA P o K s):o.wpIn (WF r) n P a w (kE N0 G w K) Q:=by
 unfold NA at h;split at h
 ·next c B=>
  split at h
  ·next f R=>
   split at h
   ·next k x S E=>
    have z:=q.ev f;rw[S]at z;have T:a.eval f= .func (.yield (G.bn k)) #[] #[]:=by
     generalize a.eval f=u at z;cases z;rfl
    obtain⟨W,p2⟩:=zL q c.args;obtain⟨v,F⟩:∃v,c.args.map a.eval= #[v]:=by
     have:(c.args.map a.eval).size=1:=by rw[W,E];rfl
     exact⟨(c.args.map a.eval)[0],Array.ext (by simp [this]) λi h1 J=>by
      have:i=0:=by simp at J;exact J
      subst this;rfl⟩
    have Vl:aM G w v x:=p2 0 v x (by rw[F];rfl) (by rw[E];rfl);obtain⟨Cm,p,as,bd,fn,tm,D,h3,hA⟩:=h G w v r (n-1) q.inv Vl;have mc:∀c',o.op≠ .defer c':=λc' e=>by rw[B]at e;cases e
    have hy:=run_yield (P:=P) (args:= #[v]) h3 rfl;have eB:(o.semAt (WF r).round a.eval).run P w= .ok (.round (G.bn k) fn (tm.setIfInBounds p v) as bd) w:=by
     rw[Oper.semAt_eq _ _ _ mc];unfold execOp;simp only[B,resolve,R,T];simp [Deferred.ofValue,invoke,F,hy]
    unfold Oper.wpIn;refine⟨λg hg=>trivial,?_⟩;rw[eB,Oper.uponIn_round];refine⟨λh=>(by simp [WF,Fence.wide]at h),hA.mono λe w' hp=> ?_⟩;obtain⟨b,G',h',rfl,L,M,eK,hK⟩:=hp;exact⟨G',_,L.less A,Ze A M,(q.move L M eK).put (.d (.v _)) o.dst,hK⟩
   ·exact h.elim
  ·exact h.elim
 ·exact h.elim
def alZ{K:St->Prop}{Q:Exit->Act->Zy->Prop}(b:dk G w a s)(c:N0<=G.N)(h:qW P o K s):o.wpIn (WF r) n P a w (kE N0 G w K) Q:=by
 rcases h with h|h|h|h|⟨x,h',h,d⟩
 ·exact S9 b c (.inl h)
 ·exact S9 b c (.inr (.inl h))
 ·exact S9 b c (.inr (.inr h))
 ·exact atT b c h
 ·exact atz b c h d
def RR{ops:Array Oper}{K:St->Prop}{Q':Exit->Act->Zy->Prop}(q:∀a' w',kE N0 G w K a' w'->Q' .normal a' w'):∀(l:U Oper)(k:Nat),(∀j,l[j]?=ops[k+j]?)->∀(G1:Gh)(b:Zy)(a:Act)(s:St),
 cf N0 G w G1 b->N0<=G1.N->dk G1 b a s->vT P ops l K s->wpOpsIn (WF r) n P ops Q' (List.range' k l.length) a b
 |[],k,_,G1,b,a,s,e,g,c,h=>q _ _ ⟨G1,s,e,g,c,h⟩
 |o::l,k,z,G1,b,a,s,e,g,c,h=>by
  have B:ops[k]?=some o:=by simpa using (z 0).symm
  have A:∀j,l[j]?=ops[k+1+j]?:=λj=>by have:=z (j+1);simpa [Nat.add_assoc,Nat.add_comm 1 j]using this
  have p:=W8 c h;simp only[Zp,List.range'_succ,wpOpsIn,B];split
  ·rename_i u
   rw[ae u]at p;exact Oper.wpIn_mono (λa' w' E=>by
     obtain⟨F,J,L,M,R,S⟩:=E;exact RR q l (k+1) A F w' a' J (e.trans L) M R S) (alZ c g p)
  ·rename_i u
   rw[af u]at p;exact⟨λ_ _=>trivial,RR q l (k+1) A G1 b _ _ e g (c.put (.d (.v undef)) o.dst) p⟩
def fq{id:Nat}{ops:Array Oper}(h:vT P ops ops.toList (Q .normal) s):bM P r N0 (.region id ops false) Q s:=by
 constructor
 intro G w a n b c;refine wpIn_region ?_;rw[List.range_eq_range',<-Z9];exact RR (G:=G) (w:=w) (K:=Q .normal) (λ_ _ h=>h) ops.toList 0 gj G w a s (cf.refl _ _ _) c b h
def dn(h:Q .normal s):bM P r N0 .skip Q s:=⟨λG _ _ _ b c=>wpIn_skip ⟨G,s,cf.refl _ _ _,c,b,h⟩⟩
def cT(h:Q .ret s):bM P r N0 .ret Q s:=⟨λG _ _ _ b c=>wpIn_ret ⟨G,s,cf.refl _ _ _,c,b,h⟩⟩
def mA{id:Nat}(h:Q (.exit id) s):bM P r N0 (.exit id) Q s:=⟨λG _ _ _ b c=>wpIn_exit ⟨G,s,cf.refl _ _ _,c,b,h⟩⟩
def az{x y:Code}(h:bM P r N0 x (jG (λs'=>bM P r N0 y Q s') Q) s):bM P r N0 (.seq x y) Q s:=by
 constructor
 intro G w a n q u;refine wpIn_seq (wpIn_mono (h.run G w a n q u) λe v z b=> ?_);obtain⟨c,s1,d,g,k,p⟩:=b;cases e with
 |normal=>exact wpIn_mono (p.run c z v n k g) λ_ _ _ b=>b.trans d
 |_=>exact⟨c,s1,d,g,k,p⟩
def TI{c:Operand}{x y:Code}{t:Bool}(p:ev s c= .d (.v (.bool t)))(h1:t=true->bM P r N0 x Q s)(q:t=false->bM P r N0 y Q s):bM P r N0 (.cond c x y) Q s:=by
 constructor
 intro G w a n b g;have k:=b.ev c;rw[p]at k;exact wpIn_cond_split k.bool (λe=>(h1 e).run G w a n b g) (λe=>(q e).run G w a n b g)
def ft{id:Nat}{c:Code}(h:bM P r N0 c (tV id Q) s):bM P r N0 (.block id c) Q s:=by
 constructor
 intro G w a n z A;refine wpIn_block (wpIn_mono (h.run G w a n z A) λe E F B=> ?_);obtain⟨g,s1,k,p,q,b⟩:=B;cases e with
 |exit v=>
  by_cases d:v=id;{simp only[tV,d,BEq.rfl,Tj]at b;simp only[Exit.inBlock,ae d];exact⟨g,s1,k,p,q,b⟩}
  ·have u:(v==id)=false:=by simpa using d
   simp only[tV,u,Tf]at b;simp only[Exit.inBlock,af d];exact⟨g,s1,k,p,q,b⟩
 |_=>exact⟨g,s1,k,p,q,b⟩
def Xy{F:Fence}{c:Code}{Q:Exit->Act->Zy->Prop}{ι:Type}(d:ι->Act->Zy->Prop)(μ:ι->Nat)(M:ι)(N:d M a w)
 (round:∀i a w,d i a w->c.wpIn F n P (Exit.then (λa' w'=>∃i',d i' a' w'/\μ i'<μ i) Q) a w):(Code.loop c).wpIn F n P Q a w:=by
 intro b k v R z A;have B:∀j i a w,μ i=j->d i a w->
  ∃e a' w',Q e a' w'/\ArrivesIn (Machine.fenced P F) P (lone (b.atR a (.code c:: .inLoop c::k)) v w) b k v e a' w':=by
  intro j
  induction j using Nat.strongRecOn with
  |_ j S=>
   intro i a w T W;obtain⟨e,q,u,g,p⟩:=round i a w W b (.inLoop c::k) v R z A;cases e with
   |normal=>
    obtain⟨i',E,a8⟩:=g;obtain⟨e₂,a₂,w₂,J,L⟩:=S (μ i') (T▸a8) i' q u rfl E;exact⟨e₂,a₂,w₂,J,.of_steps (StepsIn.trans p (.one (fenced_calm z A rfl) stepR_inLoop)) L⟩
   |exit id=>exact⟨_,q,u,g,.pass (x:= .inLoop c) rfl (λ_ _=>.inl gj) p⟩
   |goto l=>exact⟨_,q,u,g,.pass (x:= .inLoop c) rfl (λ_ _=>.inl gj) p⟩
   |ret=>exact⟨_,q,u,g,.pass (x:= .inLoop c) rfl (λ_ _=>.inl gj) p⟩
   |panic ch=>exact⟨_,q,u,g,.pass (x:= .inLoop c) rfl (λ_ _=>.inl gj) p⟩
   |outgrown=>exact⟨_,q,u,g,.pass (x:= .inLoop c) rfl (λ_ _=>.inl gj) p⟩
 obtain⟨e,a',w',g,p⟩:=B _ M a w rfl N;exact⟨e,a',w',g,.of_steps (.one (fenced_calm z A rfl) stepR_loop) p⟩
end
mutual
def AV.bK(m:Nat):AV->AV
 | .own n xs=>bif cF m n then .d (.sl xs)else .own n xs
 | .agg cs=>.agg (AV.rO m cs)
 | .bw cs=>.bw (AV.rO m cs)
 | .fn f cs=>.fn f (AV.rO m cs)
 |x=>x
def AV.rO(m:Nat):U AV->U AV
 |[]=>[]
 |x::l=>x.bK m::AV.rO m l
end
mutual
def AV.aN(m:Nat):AV->Bool
 | .own n _| .ptr n _| .row n _ _ _ _| .mp n| .cD n| .vec n _ _ _ _| .dU n _ _ _ _=> !cF m n
 | .agg cs=>AV.lN m cs
 | .bw cs=>AV.lN m cs
 | .fn _ cs=>AV.lN m cs
 |_=>true
def AV.lN(m:Nat):U AV->Bool
 |[]=>true
 |x::l=>x.aN m&&AV.lN m l
end
def IS(m:Nat):∀l,AV.rO m l=l.map (AV.bK m)
 |[]=>by simp [AV.rO]
 |x::l=>by simp [AV.rO,IS m l]
def ox(m:Nat):∀l,AV.lN m l=l.all (AV.aN m)
 |[]=>by simp [AV.lN]
 |x::l=>by simp [AV.lN,ox m l]
def ao.bK(m:Nat):ao->ao
 | .cells b=>.cells (b.map (AV.bK m))
 | .lp c p as bd b=>.lp c p as bd (b.map (AV.bK m))
 | .it d b=>.it d (b.map (AV.bK m))
 | .gu T b=>.gu T (b.map (AV.bK m))
 | .vec e k b=>.vec e k (b.map (·.map (AV.bK m)))
 |B=>B
def ao.aN(m:Nat):ao->Bool
 | .cells b=>b.all (AV.aN m)
 | .lp _ _ _ _ b=>b.all (AV.aN m)
 | .it _ b=>b.all (AV.aN m)
 | .gu _ b=>b.all (AV.aN m)
 | .vec _ _ b=>b.all (·.all (AV.aN m))
 |_=>true
def aM.bK{G:Gh}{w:Zy}(m:Nat){u:oZ}{x:AV}(h:aM G w u x):aM G w u (x.bK m):=by
 have J:∀(e:Array oZ)(p:U AV),(∀(i:Nat)(u:oZ)(c:AV),e[i]?=some u->p[i]?=some c->aM G w u (c.bK m))->∀(i:Nat)(u:oZ)(c:AV),e[i]?=some u->(AV.rO m p)[i]?=some c->aM G w u c:=by
  intro e p q i u c M A;rw[IS,Zm]at A;cases B:p[i]? with
  |none=>rw[B]at A;cases A
  |some x=>rw[B]at A;cases A;exact q i u x M B
 induction h with
 |agg e p v _ q=>rw[AV.bK];exact .agg e _ (by rw[IS,Zw];exact v) (J e p q)
 |bw e p v _ q=>rw[AV.bK];exact .bw e _ (by rw[IS,Zw];exact v) (J e p q)
 |fn f e p v _ q=>rw[AV.bK];exact .fn f e _ (by rw[IS,Zw];exact v) (J e p q)
 |own n E h F N z=>
  rw[AV.bK,cond_eq_ite];split;{exact .d F};{exact .own n E h F N z}
 |d h=>simp only[AV.bK];exact .d h
 |ptr n g h=>simp only[AV.bK];exact .ptr n g h
 |bm E i g b o u x B T M=>simp only[AV.bK];exact .bm E i g b o u x B T M
 |full E F z=>simp only[AV.bK];exact .full E F z
 |row n g len cap k h v W=>simp only[AV.bK];exact .row n g len cap k h v W
 |mp n h=>simp only[AV.bK];exact .mp n h
 |cD n h=>simp only[AV.bK];exact .cD n h
 |vec n o len L k h R S z=>simp only[AV.bK];exact .vec n o len L k h R S z
 |dU n i j L k h R S z=>simp only[AV.bK];exact .dU n i j L k h R S z
 |hid h h1=>simp only[AV.bK];exact .hid h h1
 |dead u=>simp only[AV.bK];exact .dead u
def Gh.cut(G:Gh)(m:Nat):Gh:={G with N:=m}
def aM.cut{G:Gh}{w:Zy}{m:Nat}{u:oZ}{x:AV}(h:aM G w u x)(e:x.aN m=true):aM (G.cut m) w u x:=by
 induction h with
 |agg A B q _ E=>
  rw[AV.aN,ox,Zc]at e;exact .agg A B q λi u c v p=>E i u c v p (e c (ZZ p))
 |bw A B q _ E=>
  rw[AV.aN,ox,Zc]at e;exact .bw A B q λi u c v p=>E i u c v p (e c (ZZ p))
 |fn f A B q _ E=>
  rw[AV.aN,ox,Zc]at e;exact .fn f A B q λi u c v p=>E i u c v p (e c (ZZ p))
 |own n F h J M z=>rw[AV.aN]at e;exact .own n F (show n<m by rw[UC,<-Uj,dT]at e;omega) J M z
 |ptr n g h=>rw[AV.aN]at e;exact .ptr (G:=G.cut m) n g (show n<m by rw[UC,<-Uj,dT]at e;omega)
 |row n g len cap k h q S=>rw[AV.aN]at e;exact .row (G:=G.cut m) n g len cap k (show n<m by rw[UC,<-Uj,dT]at e;omega) q S
 |mp n h=>rw[AV.aN]at e;exact .mp (G:=G.cut m) n (show n<m by rw[UC,<-Uj,dT]at e;omega)
 |cD n h=>rw[AV.aN]at e;exact .cD (G:=G.cut m) n (show n<m by rw[UC,<-Uj,dT]at e;omega)
 |vec n o len L k h N R z=>rw[AV.aN]at e;exact .vec (G:=G.cut m) n o len L k (show n<m by rw[UC,<-Uj,dT]at e;omega) N R z
 |dU n i j L k h N R z=>rw[AV.aN]at e;exact .dU (G:=G.cut m) n i j L k (show n<m by rw[UC,<-Uj,dT]at e;omega) N R z
 |hid h T=>exact .hid (G:=G.cut m) h T
 |d h=>exact .d h
 |bm F i g b o u x W hS v=>exact .bm F i g b o u x W hS v
 |full F J z=>exact .full F J z
 |dead u=>exact .dead u
def St.mask(s:St)(live:U Nat)(m:Nat):St:={s with t:=live.map λk=>(k,(bE s.t k).bK m),h:=(s.h.take m).map (ao.bK m)}
def St.BD(s:St)(live:U Nat)(m:Nat):Prop:=m<=s.h.length/\(live.all λk=>((bE s.t k).bK m).aN m)=true/\(((s.h.take m).map (ao.bK m)).all (ao.aN m))=true
def rT(f:Nat->AV):∀(live:U Nat)(i:Nat),bE (live.map λk=>(k,f k)) i=if i∈live then f i else .dead
 |[],i=>by simp [bE]
 |k::l,i=>by
  simp only[ZY,mN,rT f l i,Za];by_cases h:i=k;{subst h;simp};{simp [h]}
def SS{G:Gh}{w:Zy}{h:U ao}(hi:cp G w h){m:Nat}(hm:m<=h.length)(hb:(((h.take m).map (ao.bK m)).all (ao.aN m))=true):cp (G.cut m) w ((h.take m).map (ao.bK m)):=by
 have fQ:∀(n:Nat)(B:ao),((h.take m).map (ao.bK m))[n]?=some B->n<m/\∃B',h[n]?=some B'/\B=B'.bK m/\(B'.bK m).aN m=true:=λn B v=>by
  have W:=Zc.1 hb B (ZZ v);rw[Zm,List.getElem?_take]at v;split at v
  ·rename_i hn
   cases q:h[n]? with
   |none=>rw[q]at v;cases v
   |some B'=>rw[q]at v;cases v;exact⟨hn,B',rfl,rfl,W⟩
  ·cases v
 have fg:∀n b,cu ((h.take m).map (ao.bK m)) (G.cut m) n=some b->cu h G n=some b:=λn b hb=>by
  obtain⟨B,v,hb⟩:=nv hb;obtain⟨_,B',h1,rfl,_⟩:=fQ n B v;rw[eN h1,<-hb];cases B'<;>rfl
 refine⟨by simp [Gh.cut];omega,hi.z,hi.S,λn B v=> ?_,λi j b h1 h2=>hi.inj i j b (fg i b h1) (fg j b h2),hi.gl⟩;obtain⟨hn,B',h1,rfl,W⟩:=fQ n B v;have E:=hi.dN n B' h1;cases B' with
 |gone=>trivial
 |front e k len=>exact E
 |jC e b=>exact E
 |map kv=>exact E
 |l7 kv=>exact E
 |vec e k F=>
  obtain⟨J,L,M,N⟩:=E;refine⟨by rw[Zw];exact J,by rw[Zw];exact L,λc d=> ?_,?_⟩;{obtain⟨x,q,rfl⟩:=UZ.1 d;rw[Zw];exact M x q}
  ·rcases N with⟨d1,d2,A,d3⟩|⟨g,cap,cur,d1,d2,d3,d4,d5,d6,d7,d8,d9⟩
   ·exact .inl ⟨d1,by rw[d2];rfl,A,d3⟩
   ·refine .inr ⟨g,cap,cur,d1,by rw[Zw];exact d2,d3,d4,by rw[Zw];exact d5,d6,d7,d8,λi j c x u d q R=> ?_⟩;simp only[ao.bK,ao.aN,Zc]at W;rw[Zm]at d;cases hy:F[i]? with
    |none=>rw[hy]at d;cases d
    |some y=>
     rw[hy]at d;cases d
     have hz:=q;rw[Zm]at q;cases hw:y[j]? with
     |none=>rw[hw]at q;cases q
     |some z=>
      rw[hw]at q;cases q
      exact((d9 i j y z u hy hw R).bK m).cut (W _ (UZ.2 ⟨y,ZZ hy,rfl⟩) _ (ZZ hz))
 |cells F=>
  obtain⟨J,L,vs,T,M,N,c5⟩:=E;refine⟨J,L,vs,T,M,by rw[Zw];exact N,λi u c R d=> ?_⟩;have jd:=ZZ d;rw[Zm]at d;cases q:F[i]? with
  |none=>rw[q]at d;cases d
  |some x=>
   rw[q]at d;cases d
   exact((c5 i u x R q).bK m).cut (Zc.1 W _ jd)
 |lp ls p as bd F=>
  obtain⟨J,L,fn,vs,T,M,N,c5⟩:=E;refine⟨J,L,fn,vs,T,M,by rw[Zw];exact N,λi u c R d=> ?_⟩;have jd:=ZZ d;rw[Zm]at d;cases q:F[i]? with
  |none=>rw[q]at d;cases d
  |some x=>
   rw[q]at d;cases d
   exact((c5 i u x R q).bK m).cut (Zc.1 W _ jd)
 |it sn F=>
  obtain⟨J,L,fn,vs,T,M,N,c5⟩:=E;refine⟨J,L,fn,vs,T,M,by rw[Zw];exact N,λi u c R d=> ?_⟩;have jd:=ZZ d;rw[Zm]at d;cases q:F[i]? with
  |none=>rw[q]at d;cases d
  |some x=>
   rw[q]at d;cases d
   exact((c5 i u x R q).bK m).cut (Zc.1 W _ jd)
 |gu T0 F=>
  obtain⟨J,L,fn,vs,T,M,N,c5⟩:=E;refine⟨J,L,fn,vs,T,M,by rw[Zw];exact N,λi u c R d=> ?_⟩;have jd:=ZZ d;rw[Zm]at d;cases q:F[i]? with
  |none=>rw[q]at d;cases d
  |some x=>
   rw[q]at d;cases d
   exact((c5 i u x R q).bK m).cut (Zc.1 W _ jd)
def rP(N:Nat)(G:Gh)(w:Zy)(m:Nat):cf N G w (G.cut m) w:=
 ⟨Zx _,λ_ _ h=>h,λ_ _ _=>rfl,λ_ _=>rfl,λ_ _=>.inl ⟨rfl,rfl⟩,iJ rfl,λ_ _=>rfl,rfl,rfl,rfl,λ_ _ h=>.inl h⟩
section
variable {P:eG} {r:O Nat} {n N0:Nat} {G:Gh} {w:Zy} {a:Act} {s:St} {o:Oper} {Q:Exit->St->Prop}
def dk.mask(b:dk G w a s){live:U Nat}{m:Nat}(h:s.BD live m):dk (G.cut m) w a (s.mask live m):=by
 obtain⟨c,d,e⟩:=h;refine⟨b.size,λi=> ?_,SS b.inv c e,b.df⟩;show aM _ _ _ (bE (live.map λk=>(k,(bE s.t k).bK m)) i);rw[rT (λk=>(bE s.t k).bK m)];split
 ·rename_i g
  exact((b.tmp i).bK m).cut (Zc.1 d i g)
 ·exact .dead _
def NY{c:Code}{ι:Type}(live:U Nat)(m:Nat)(d:ι->St)(b:ι->Prop)(μ:ι->Nat)(k:ι)(u:N0<=m)(E:s.BD live m)(F:s.mask live m=d k)(J:b k)
 (round:∀i,b i->bM P r N0 c (jG (λs'=>s'.BD live m/\∃i',s'.mask live m=d i'/\b i'/\μ i'<μ i) Q) (d i)):bM P r N0 (.loop c) Q s:=by
 constructor
 intro G w a n L _;refine Xy (λ(i:ι) p g=>∃G',b i/\cf N0 G w G' g/\N0<=G'.N/\dk G' g p (d i)) μ k ⟨G.cut m,J,rP _ _ _ _,u,F▸L.mask E⟩ ?_;rintro i p g ⟨G',M,v,R,S⟩;refine wpIn_mono ((round i M).run G' g p n S R) λe a1 w1 T=> ?_;obtain⟨G1,s1,z,W,A,B⟩:=T;cases e with
 |normal=>
  obtain⟨q,i',h1,h2,h3⟩:=B;exact⟨i',⟨G1.cut m,h2,(v.trans z).trans (rP _ _ _ _),u,h1▸A.mask q⟩,h3⟩
 |_=>exact⟨G1,s1,v.trans z,W,A,B⟩
def oS(P:eG)(s:St):U ResultVar->(U AV->Prop)->Prop
 |[],C=>C []
 | .tmp t::l,C=>oS P s l λb=>C (bE s.t t::b)
 | .cell p t::l,C=>qE P t s.h (bE s.t p) λx=>oS P s l λb=>C (x::b)
def ly:U AV->AV
 |[x]=>x
 |l=>.bw l
def tC(P:eG)(fn:Func)(m:Nat)(K:AV->U ao->Prop)(s:St):Prop:=oS P s fn.results.toList λl=>m<=s.h.length/\((ly l).bK m).aN m=true/\(((s.h.take m).map (ao.bK m)).all (ao.aN m))=true/\K ((ly l).bK m) ((s.h.take m).map (ao.bK m))
def Oj(P:eG)(fn:Func)(m:Nat)(K:AV->U ao->Prop):Exit->St->Prop
 | .normal,s=>tC P fn m K s
 | .ret,s=>tC P fn m K s
 |_,_=>False
def aoK{C:U AV->Prop}(q:dk G w a s)(g:ResultVar->Sem oZ)(A:∀t,g (.tmp t)=pure (a.tmps.getD t undef))(T:∀p t,g (.cell p t)=(do loadVar t (<-asAddr (a.tmps.getD p undef)))):
 ∀(l:U ResultVar),oS P s l C->∃(d:U oZ)(xs:U AV),(l.mapM g).run P w= .ok d w/\d.length=xs.length/\(∀(i:Nat)(u:oZ)(c:AV),d[i]?=some u->xs[i]?=some c->aM G w u c)/\C xs:=by
 intro l
 induction l generalizing C with
 |nil=>exact λh=>⟨[],[],by simp,rfl,λi u c b=>by simp at b,h⟩
 |cons x l R=>
  intro h;cases x with
  |tmp t=>
   obtain⟨d,xs,B,E,F,J⟩:=R h;refine⟨a.tmps.getD t undef::d,bE s.t t::xs,by simp only[List.mapM_cons,A,Sem.run_bind,Sem.run_pure,Result.andThen_ok,B],by simp [E],λi u c b k=> ?_,J⟩
   match i with
   |0=>simp only[List.getElem?_cons_zero,Vg]at b k;subst b;subst k;exact q.tmp t
   |i+1=>exact F i u c (by simpa using b) (by simpa using k)
  |cell p t=>
   obtain⟨S,W,L,r2,r3⟩:=YW (P:=P) q.inv (q.tmp p) h;obtain⟨d,xs,B,E,F,J⟩:=R r3;have M:=q.tmp p;have e:∃z,a.tmps.getD p undef= .pointer (some z):=by
    have h':qE P t s.h (bE s.t p) λx=>oS P s l λxs=>C (x::xs):=h;generalize a.tmps.getD p undef=v at M L;generalize bE s.t p=y at M h';cases M with
    |ptr=>exact⟨_,rfl⟩
    |bm=>exact⟨_,rfl⟩
    |_=>exact(show False from h').elim
   obtain⟨z,e⟩:=e;rw[e]at L;have N:(loadVar t z).run P w= .ok S w:=by simpa [Instr.loadAt,Instr.sureAddr]using L
   have ha:(asAddr (a.tmps.getD p undef)).run P w= .ok z w:=by rw[e];rfl
   refine⟨S::d,W::xs,by simp only[List.mapM_cons,T,Sem.run_bind,Sem.run_pure,Result.andThen_ok,B,ha,N],by simp [E],λi u c b k=> ?_,J⟩
   match i with
   |0=>simp only[List.getElem?_cons_zero,Vg]at b k;subst b;subst k;exact r2
   |i+1=>exact F i u c (by simpa using b) (by simpa using k)
def aq2:∀(d:U oZ)(xs:U AV),d.length=xs.length->(∀(i:Nat)(u:oZ)(c:AV),d[i]?=some u->xs[i]?=some c->aM G w u c)->aM G w (if h:d.toArray.size=1 then d.toArray[0]else .tuple d.toArray) (ly xs)
 |[v],[x],_,h=>h 0 v x rfl rfl
 |[],[],_,_=>.bw _ _ rfl λi u c e=>by simp at e
 |v::u::d,x::y::xs,b,h=>by
  have:¬(v::u::d).toArray.size=1:=by simp
  rw[dif_neg this];exact .bw _ _ (by simpa using b) λi p q g k=>h i p q (by simpa using g) k
 |[],_::_,b,_=>by simp at b
 |_::_,[],b,_=>by simp at b
 |[_],_::_::_,b,_=>by simp at b
 |_::_::_,[_],b,_=>by simp at b
def aj9{fn:Func}{m:Nat}{K:AV->U ao->Prop}(d:dk G w a s)(h:tC P fn m K s):∃v G' r h',(results fn a.tmps).run P w= .ok v w/\cf N0 G w G' w/\m<=G'.N/\cp G' w h'/\aM G' w v r/\K r h':=by
 obtain⟨g,c⟩:∃g:ResultVar->Sem oZ,results fn a.tmps=(do let b <-fn.results.mapM g;pure (if h:b.size=1 then b[0]else .tuple b))/\(∀t,g (.tmp t)=pure (a.tmps.getD t undef))/\(∀p t,g (.cell p t)=(do loadVar t (<-asAddr (a.tmps.getD p undef)))):=
  ⟨_,rfl,λ_=>rfl,λ_ _=>rfl⟩
 obtain⟨b,k,q,u,z,A,B,E,F⟩:=aoK d g c.2.1 c.2.2 fn.results.toList h;have J:(results fn a.tmps).run P w= .ok (if h:b.toArray.size=1 then b.toArray[0]else .tuple b.toArray) w:=by
  rw[c.1,Sem.run_bind,Array.mapM_eq_mapM_toList];have e:∀X:Sem (U oZ),(Functor.map List.toArray X:Sem _)=X>>=λl=>pure l.toArray:=λ_=>rfl;rw[e,Sem.run_bind,q];rfl
 have L:=aq2 b k u z;exact⟨_,G.cut m,_,_,J,rP _ _ _ _,Zx _,SS d.inv A E,(L.bK m).cut B,F⟩
def we{f:FuncId}{fn:Func}{c:Code}{args:U AV}{h:U ao}{K:AV->U ao->Prop}(m:Nat)(q:P.funcs[f]?=some fn)(u:fn.body=some c)(k:(fn.name== "runtime.NumGoroutine")=false)(J:h.length<=m)
 (L:bM P none h.length c (Oj P fn m K) {n:=args.length+(fn.ntmps-args.length),t:=nh 0 args,h:=h}):da P f args h K:=by
 refine⟨by unfold IA;rw[q];simp [u];simpa using k,λG w vs b A R=> ?_⟩;refine callsIn_wide (n:=8).1 (callsIn_of_wp_marks (F:=Fence.wide) q u trivial ?_);have S:dk {G with M:=w.heap.size} w {tmps:=vs++Array.replicate (fn.ntmps-vs.size) undef,defers:=[]} {n:=args.length+(fn.ntmps-args.length),t:=nh 0 args,h:=h}:=by
  refine⟨by simp [A],λi=> ?_,b.zm G.Z _ (λ_ h=>h) (Zx _),ux.nil _ _⟩;show aM _ _ _ (bE (nh 0 args) i);rw[Uw];simp only[Wl,if_true,Nat.sub_zero];cases B:args[i]? with
  |none=>exact .dead _
  |some x=>
   have p:i<vs.size:=by rw[A];exact(Zj.1 B).1
   have:(vs++Array.replicate (fn.ntmps-vs.size) undef).getD i undef=vs[i]:=by
    simp [Array.getElem?_append_left p,ZI p]
   simp only[this,Option.getD_some];exact(R i _ x (ZI p) B).zm G.Z _
 refine wpIn_mono (L.run _ w _ 8 S (by rw[b.len];exact Zx _)) λe E w' k=> ?_;obtain⟨G1,s1,T,W,fW,d⟩:=k;have g:tC P fn m K s1->LeavesInM Fence.wide 8 P fn E.tmps (λe w'=>∃v G' r h',e= .returned v/\cf G.N G w G' w'/\G.N<=G'.N/\cp G' w' h'/\aM G' w' v r/\K r h') E.defers .returning w':=λd=>by
  obtain⟨w2,G2,k1,k2,k3,k4⟩:=al1 T W b.z b.gl.2 fW;obtain⟨v,G',r,h',r1,r2,r3,r4,r5,r6⟩:=aj9 (N0:=h.length) k4 d;exact k1 _ _ _ _ _ ⟨v,r1,v,G',r,h',rfl,by rw[<-b.len];exact k2.trans r2,by rw[<-b.len];exact Ze J r3,r4,r5,r6⟩
 cases e with
 |normal=>exact g d
 |ret=>exact g d
 |_=>exact d.elim
end
section
variable {P:eG} {r:O Nat} {N0:Nat} {s:St} {Q:Exit->St->Prop}
end
def da.frame{P:eG}{f:FuncId}{args:U AV}{K:AV->Prop}(E:da P f args [] λr h=>h=[]/\K r)(ha:args.all (AV.aN 0)=true)(hK:∀r,K r->r.aN 0=true)(h:U ao):
 da P f args h λr h'=>h'=h/\K r:=by
 refine⟨E.1,λG w A F g p=> ?_⟩;have uJ:cp {G with N:=0,Z:=λb=>b<w.heap.size} w []:=⟨rfl,λb hb=>hb,F.S,λn B hB=>by simp at hB,λm n b h1=>by simp [cu]at h1,F.gl⟩;refine(E.2 {G with N:=0,Z:=λb=>b<w.heap.size} w A uJ g λi u c J hx=> ?_).mono λe w' hp=> ?_
 ·have:=(p i u c J hx).cut (Zc.1 ha c (ZZ hx));clear E;generalize hG:({G with N:=0,Z:=λb=>b<w.heap.size}:Gh)=G0;have e:∀{v y},aM (G.cut 0) w v y->aM G0 w v y:=by
   intro v y hv;subst hG
   induction hv with
   |agg A M g _ R=>exact .agg A M g R
   |bw A M g _ R=>exact .bw A M g R
   |fn f A M g _ R=>exact .fn f A M g R
   |own n W h hp hle hf=>exact absurd h (ZJ _)
   |ptr n q h=>exact absurd h (ZJ _)
   |row n q len cap k h g hm=>exact absurd h (ZJ _)
   |mp n h=>exact absurd h (ZJ _)
   |cD n h=>exact absurd h (ZJ _)
   |vec n o len L k h=>exact absurd h (ZJ _)
   |dU n i j L k h=>exact absurd h (ZJ _)
   |hid h h1=>exact .hid h h1
   |d h=>exact .d h
   |bm W i q b o u x hx hS J=>exact .bm W i q b o u x hx hS J
   |full W hp hf=>exact .full W hp hf
   |dead u=>exact .dead u
  exact e this
 ·obtain⟨v,G',r,h',rfl,T,hN,eK,hv,rfl,hk⟩:=hp;have avz:G'.N=0:=eK.len.symm;have gW:∀b o,G'.S b o->G.S b o\/w.heap.size<=b:=λb o hs=>(T.new b o hs).imp id Nat.le_of_not_lt;have mh:cf G.N G w {G with S:=G'.S} w':=
   ⟨T.size,T.S,T.cell,λ_ _=>rfl,λ_ _=>.inl ⟨rfl,rfl⟩,iJ rfl,λb hb=>T.old b (F.z b hb),T.os,T.tape,T.output,λb o hs=>(gW b o hs).imp id λlf hz=>by have:=F.z b hz;omega⟩
  refine⟨v,{G with S:=G'.S},r,h,rfl,mh,Zx _,⟨F.len,λb hb=>ZO (F.z b hb) T.size,eK.S,λn B hB=> ?_,λm n b h1 h2=>F.inj m n b h1 h2,F.gl.keep mh⟩,?_,rfl,hk⟩
  ·refine fj.keep (F.lt hB) mh (Zx _) ⟨rfl,rfl,rfl⟩ (λb hb=> ?_) (F.dN n B hB);have a8:=F.kR (n:=n) (b:=b) ((eN hB).trans hb);refine⟨T.old _ a8,λo kL hs=> ?_⟩;rcases gW _ o hs with hs|hs
   ·exact kL hs
   ·omega
  ·have p:=hK r hk;clear hk mh
   induction hv with
   |agg A M g _ R=>
    rw[AV.aN,ox,Zc]at p;exact .agg A M g λi u c J E=>R i u c J E (p c (ZZ E))
   |bw A M g _ R=>
    rw[AV.aN,ox,Zc]at p;exact .bw A M g λi u c J E=>R i u c J E (p c (ZZ E))
   |fn f A M g _ R=>
    rw[AV.aN,ox,Zc]at p;exact .fn f A M g λi u c J E=>R i u c J E (p c (ZZ E))
   |own n W h hp hle hf=>simp [AV.aN,cF]at p
   |ptr n q h=>simp [AV.aN,cF]at p
   |row n q len cap k h g hm=>simp [AV.aN,cF]at p
   |mp n h=>simp [AV.aN,cF]at p
   |cD n h=>simp [AV.aN,cF]at p
   |vec n o len L k h=>simp [AV.aN,cF]at p
   |dU n i j L k h=>simp [AV.aN,cF]at p
   |hid h h1=>exact .hid h h1
   |d h=>exact .d h
   |bm W i q b o u x hx hS J=>exact .bm W i q b o u x hx hS J
   |full W hp hf=>exact .full W hp hf
   |dead u=>exact .dead u
def gq(P:eG)(f:FuncId)(args:U AV)(K:AV->Prop):Prop:=da P f args [] λr h=>h=[]/\K r
def gq.use{P:eG}{f:FuncId}{args:U AV}{r:AV}{h:U ao}{C:AV->U ao->Prop}(b:gq P f args (·=r))(c:args.all (AV.aN 0)=true)(d:r.aN 0=true)(g:C r h):da P f args h C:=
 (b.frame c (λ_ e=>e▸d) h).mono λ_ _ ⟨k,p⟩=>by subst k;subst p;exact g
def avd:U FuncId:=[38,39,44,84,127,128,129]
def amC:U FuncId:=[38,74,76,78,121,149,158,160,161,194,196,233]
def ru:Operand->Bool
 | .func g=>avd.any (·==g)
 |_=>false
def cM(o:Oper):Nat:=
 match o.op with
 | .move _| .assign _| .pick .. | .nilCheck _| .fieldAddr .. | .field .. | .indexAddr .. | .index .. | .build .. | .buildSlice .. | .slice .. | .extract .. | .makeFunc .. | .binOp .. | .unOp .. | .convert .. =>0
 | .load .. | .lookup .. =>1
 | .alloc _| .box .. =>2
 | .store .. | .makeMap .. | .mapUpdate .. =>3
 | .call c=>match c.callee with
   | .builtin .len| .builtin .max| .builtin .min=>0
   | .builtin .append=>5
   | .value f=>bif ru f then 6 else 4
   |_=>9
 |_=>9
def Y6(P:eG)(g:FuncId)(args:U AV)(h:U ao)(C:AV->Prop):Prop:=∃r,C r/\∀e,da P g args (h++e) λb h'=>b=r/\h'=h++e
def D9(P:eG)(o:Oper)(K:St->Prop)(s:St):Prop:=
 match o.op with
 | .call c=>match c.callee with
   | .value f=>match ev s f with
     | .fn g b=>Y6 P g (c.args.toList.map (ev s)++b) s.h λr=>K (s.put o.dst r)
     | .hid q=>∃g as,q.app (c.args.toList.map (ev s))=some (g,as)/\Y6 P g as s.h λr=>K (s.put o.dst r)
     |_=>False
   |_=>tz P o K s
 |_=>tz P o K s
def kV(o:Oper):Bool:=
 match o.op with
 | .indexAddr .. | .fieldAddr .. | .nilCheck .. | .load .. | .store .. =>true
 | .call c=>match c.callee with
   | .builtin .len=>true
   |_=>false
 |_=>false
def Wx(o:Oper):Bool:=match o.op with
 | .call c=>match c.callee with
   | .value (.tmp _)=>true
   | .value (.func g)=>amC.any (·==g)
   |_=>false
 |_=>false
def vZ(o:Oper):Bool:=match o.op with
 | .call c=>match c.callee with
   | .builtin .append=>true
   |_=>false
 |_=>false
def pw(m:Bool)(o:Oper):Bool:=m&&(Wx o||vZ o)
def AO(m:Bool)(P:eG)(o:Oper)(K:St->Prop)(s:St):Prop:=D9 P o K s\/(pw m o=true/\∃x b,K ((s.wh b).put o.dst x)/\∀C:AV->U ao->Prop,C x b->dg P o (ev s) s.h C)\/((kV o=true/\(m&&cM o==0)=false\/(m&&vZ o)=true)/\JX P o K s)\/(cM o=6/\∃x c,K ((s.wh (s.h++c)).put o.dst x)/\∀C:AV->U ao->Prop,C x (s.h++c)->dg P o (ev s) s.h C)
def k9(P:eG)(o:Oper)(ρ:Operand->AV)(h:U ao)(C:AV->U ao->Prop):Prop:=dg P o ρ h C\/((kV o=true\/vZ o=true)/\∃a x h' p,jB P o.op ρ h a=some (x,h',p)/\p/\C x h')
def w6(m:Bool)(P:eG)(ops:Array Oper):U Oper->(St->Prop)->St->Prop
 |[],K,s=>K s
 |o::rest,K,s=>jO ops o s (AO m P o (w6 m P ops rest K) s) (w6 m P ops rest K (s.put o.dst (.d (.v undef))))
abbrev Y5(P:eG)(o:Oper)(K:St->Prop)(s:St):Prop:=AO false P o K s
abbrev Fv(P:eG)(ops:Array Oper)(l:U Oper)(K:St->Prop)(s:St):Prop:=w6 false P ops l K s
section
variable {P:eG} {o:Oper} {ρ ρ':Operand->AV} {h:U ao} {C:AV->U ao->Prop}
def Vi(x:O Operand)(b:∀y∈x.toArray,ρ y=ρ' y)(d:Nat)(F:Nat->Prop):lM ρ x d F=lM ρ' x d F:=by
 cases x with
 |none=>rfl
 |some y=>simp only[lM,b y gj]
def aqT(e:∀x∈o.op.operands,ρ x=ρ' x):dg P o ρ h C=dg P o ρ' h C:=by
 obtain⟨dst,op,type,pos,after,guard⟩:=o;have A:∀ps:Array (Nat×Operand),(∀x∈ps.map (·.2),ρ x=ρ' x)->(ps.toList.map λp=>(p.1,ρ p.2))=(ps.toList.map λp=>(p.1,ρ' p.2)):=λps N=>
  Z5 λp z=>by rw[N p.2 (Array.mem_map.2 ⟨p,Array.mem_toList_iff.1 z,rfl⟩)]
 have B:∀l:Array Operand,(∀x∈l,ρ x=ρ' x)->l.toList.map ρ=l.toList.map ρ':=λl R=>Z5 λx z=>R x (Array.mem_toList_iff.1 z);cases op with
 |build t ps=>simp only[dg,A ps λx g=>e x (by simpa [Op.operands]using g)]
 |buildSlice t n ps=>simp only[dg,A ps λx g=>e x (by simpa [Op.operands]using g)]
 |makeFunc S first captured=>
  cases S with
  |func f=>simp only[dg,B captured λx g=>e x (by simp [Op.operands,g]),B first λx g=>e x (by simp [Op.operands,g])]
  |_=>rfl
 |slice t x J L M=>
  have T:ρ x=ρ' x:=e x (by simp [Op.operands]);have W:=λd F=>Vi (ρ:=ρ) (ρ':=ρ') J (λy q=>e y (by simp at q;simp [Op.operands,q])) d F;have e3:=λd F=>Vi (ρ:=ρ) (ρ':=ρ') L (λy q=>e y (by simp at q;simp [Op.operands,q])) d F;have e4:=λd F=>Vi (ρ:=ρ) (ρ':=ρ') M (λy q=>e y (by simp at q;simp [Op.operands,q])) d F;cases J<;>cases L<;>cases M<;>simp only[dg,xA,T,W,e3,e4]
 |call c=>
  have E:c.args.toList.map ρ=c.args.toList.map ρ':=B c.args λx g=>e x (by simp [Op.operands,Call.operands,g]);have z:∀x,x∈c.args.toList->ρ x=ρ' x:=λx g=>e x (by simp [Op.operands,Call.operands];right;exact Array.mem_toList_iff.1 g);cases v:c.callee with
  |value f=>
   have hf:ρ f=ρ' f:=e f (by simp [Op.operands,Call.operands,v]);simp only[dg,v,hf,E]
  |invoke=>simp only[dg,v]
  |builtin b=>
   cases b with
   |len=>
    simp only[dg,v];split
    ·rename_i x _ k _
     rw[z x (by rw[k];simp)]
    ·rfl
   |append=>
    simp only[dg,v];split
    ·rename_i x y _ _ k _
     rw[z x (by rw[k];simp),z y (by rw[k];simp)]
    ·rfl
   |max=>simp only[dg,v,E]
   |min=>simp only[dg,v,E]
   |_=>simp only[dg,v]
 |makeMap t r=>cases r<;>rfl
 |lookup t a b ok=>simp only[dg,sL,e a (by simp [Op.operands]),e b (by simp [Op.operands])]
 |mapUpdate t a b c=>simp only[dg,sL,e a (by simp [Op.operands]),e b (by simp [Op.operands]),e c (by simp [Op.operands])]
 |pick c a b=>simp only[dg,e c (by simp [Op.operands]),e a (by simp [Op.operands]),e b (by simp [Op.operands])]
 |store t a b=>simp only[dg,e a (by simp [Op.operands]),e b (by simp [Op.operands])]
 |binOp op t a b u=>simp only[dg,e a (by simp [Op.operands]),e b (by simp [Op.operands])]
 |indexAddr t a b=>simp only[dg,e a (by simp [Op.operands]),e b (by simp [Op.operands])]
 |index t a b=>simp only[dg,e a (by simp [Op.operands]),e b (by simp [Op.operands])]
 |move a|assign a|box t a|load t a|nilCheck a|fieldAddr t a f|field t a f|extract a i|unOp op t a|convert t u a=>simp only[dg,e a (by simp [Op.operands])]
 |_=>rfl
def aso(k:kV o=true\/vZ o=true)(e:∀x∈o.op.operands,ρ x=ρ' x)(a:VA):jB P o.op ρ h a=jB P o.op ρ' h a:=by
 obtain⟨dst,op,type,pos,after,guard⟩:=o;cases op with
 |store t a b=>simp only[jB,e a (by simp [Op.operands]),e b (by simp [Op.operands])]
 |indexAddr t a b=>simp only[jB,e a (by simp [Op.operands]),e b (by simp [Op.operands])]
 |load t a|nilCheck a|fieldAddr t a f=>simp only[jB,e a (by simp [Op.operands])]
 |call c=>
  have p:∀x,x∈c.args.toList->ρ x=ρ' x:=λx q=>e x (by simp [Op.operands,Call.operands];right;exact Array.mem_toList_iff.1 q);cases g:c.callee with
  |builtin b=>
   cases b with
   |len=>
    simp only[jB,g];split
    ·rename_i x _ d _
     rw[p x (by rw[d];simp)]
    ·rfl
   |append=>
    simp only[jB,g];split
    ·rename_i x y _ _ d _
     rw[p x (by rw[d];simp),p y (by rw[d];simp)]
    ·rfl
   |_=>simp [kV,vZ,g]at k
  |_=>simp [kV,vZ,g]at k
 |_=>simp [kV,vZ]at k
def Xm(b:∀x∈o.op.operands,ρ x=ρ' x):k9 P o ρ h C=k9 P o ρ' h C:=by
 unfold k9;rw[aqT b];by_cases c:kV o=true\/vZ o=true;{simp only[aso c b]};{simp only[c,false_and]}
end
def alI:ao->Bool
 | .cells _| .map _| .vec .. =>true
 |_=>false
def pY:O ao->O (Nat×Nat)
 |some (.vec _ k b)=>some (k,b.length)
 |_=>none
def jX(h h':U ao):Prop:=∀(m:Nat)(q:Nat×Nat),pY h[m]?=some q->pY h'[m]?=some q
def jF(h h':U ao):Prop:=∀m:Nat,pY h[m]?=pY h'[m]?
def jF.i{h h':U ao}(e:jF h h'):jX h h':=λm q b=>by rw[<-e m];exact b
def jF.j{h h':U ao}(e:jF h h'):jX h' h:=λm q b=>by rw[e m];exact b
def jX.refl(h:U ao):jX h h:=λ_ _ e=>e
def jX.trans{a b c:U ao}(x:jX a b)(y:jX b c):jX a c:=λm q e=>y m q (x m q e)
def jX.app(h e:U ao):jX h (h++e):=λm q b=>by
 by_cases c:m<h.length;{rw[ZT c];exact b};{rw[Z1 k7]at b;cases b}
def jF.app{h:U ao}{B:ao}(b:pY (some B)=none):jF h (h++[B]):=λm=>by
 by_cases c:m<h.length;{rw[ZT c]}
 ·rw[ZK k7,Z1 (by omega:h.length<=m)];by_cases d:m-h.length=0
  ·rw[d];exact b.symm
  ·rw[Z1 (by simp;omega)]
def jF.set{h:U ao}{n:Nat}{B b:ao}(c:h[n]?=some B)(d:pY (some B)=pY (some b)):jF h (h.set n b):=λm=>by
 by_cases e:n=m;{subst e;rw[ZB (Zj.1 c).1,c];exact d};{rw[Z7 e]}
def j4(h h':U ao):Prop:=∀(n:Nat)(B:ao),h[n]?=some B->alI B=true->h'[n]?=some B
def j4.app(h e:U ao):j4 h (h++e):=λn c b _=>by
 rw[ZT (Zj.1 b).1];exact b
def j4.refl(h:U ao):j4 h h:=λ_ _ b _=>b
def anC{P:eG}{ρ:Operand->AV}{h h1:U ao}{T:TypeId}{m i:Operand}{ok:Bool}{x:AV}{p:Sd}(c:sL P (.lookup T m i ok) ρ h=some (x,h1,p)):h1=h/\∀h',j4 h h'->sL P (.lookup T m i ok) ρ h'=some (x,h',p):=by
 simp only[sL]at c ⊢;split at c
 ·next k e u=>
  split at c
  ·next z v=>
   split at c
   ·next b s' A B=>
    split at c
    ·next E g=>
     cases d:jc P k with
     |false=>rw[d]at c;cases c
     |true=>
      rw[d]at c;cases c
      refine⟨rfl,λh' q=> ?_⟩;rw[q b _ g rfl];simp only[Tj]
    ·cases c
   ·cases c
  ·cases c
 ·cases c
def Y1{h:U ao}{n e k:Nat}{cs:U (U AV)}(b:h[n]?=some (.vec e k cs)):pY h[n]?=some (k,cs.length):=by rw[b];rfl
def Y4{h:U ao}{n k l:Nat}(b:pY h[n]?=some (k,l)):∃e cs,h[n]?=some (.vec e k cs)/\cs.length=l:=by
 unfold pY at b;split at b;{next e d cs c=>cases b;exact⟨e,cs,c,rfl⟩};{cases b}
def alO{P:eG}{o:Oper}{ρ:Operand->AV}{h h1:U ao}{a:VA}{x:AV}{p:Prop}(q:kV o=true)(N:cM o=0)(d:jB P o.op ρ h a=some (x,h1,p))(u:p):h1=h/\∀h',jX h h'->∃p',jB P o.op ρ h' a=some (x,h',p')/\p':=by
 obtain⟨dst,op,type,pos,after,guard⟩:=o;cases op with
 |indexAddr T y i=>
  simp only[jB]at d ⊢;split at d
  ·next n o len L k z e k' i' v R e3=>
   split at d
   ·next e4 S W A=>
    obtain⟨g,B⟩:=oa d;cases B
    rw[Zo,TC,TC]at g;obtain⟨rfl,rfl⟩:=g;refine⟨rfl,λh' E=> ?_⟩;obtain⟨e5,F,q1,J⟩:=Y4 (E n _ (Y1 A));simp only[q1,Z3,Bool.and_self,Tj];exact⟨_,rfl,by rw[J];exact u.1,u.2⟩
   ·cases d
  ·cases d
 |fieldAddr T y f=>
  simp only[jB]at d ⊢;split at d;{next v R=>cases d;exact⟨rfl,λh' _=>⟨_,rfl,trivial⟩⟩};{cases d}
 |nilCheck y=>
  simp only[jB]at d ⊢;split at d;{next v=>cases d;exact⟨rfl,λh' _=>⟨_,rfl,trivial⟩⟩};{cases d}
 |call c=>
  cases M:c.callee with
  |builtin b=>
   cases b with
   |len=>
    simp only[jB,M]at d ⊢;split at d
    ·split at d
     ·next n o len L k v=>
      split at d
      ·next R S W A=>
       obtain⟨g,B⟩:=oa d;cases B
       rw[Zo,TC]at g;obtain⟨jq,rfl⟩:=g;refine⟨rfl,λh' E=> ?_⟩;obtain⟨e5,F,q1,J⟩:=Y4 (E n _ (Y1 A));simp only[q1,jq,Z3,Bool.and_self,Tj];exact⟨_,rfl,by rw[J];exact u⟩
      ·cases d
     ·cases d
    ·cases d
   |_=>simp [kV,M]at q
  |_=>simp [kV,M]at q
 |load t y=>simp [cM]at N
 |store t y z=>simp [cM]at N
 |_=>simp [kV]at q
def ajI{P:eG}{o:Oper}{ρ:Operand->AV}{h h1:U ao}{a:VA}{x:AV}{p:Prop}(q:kV o=true)(d:cM o=1)(e:jB P o.op ρ h a=some (x,h1,p))(u:p):h1=h/\∀h',j4 h h'->∃p',jB P o.op ρ h' a=some (x,h',p')/\p':=by
 obtain⟨dst,op,type,pos,after,guard⟩:=o;cases op with
 |load t y=>
  simp only[jB]at e ⊢;split at e
  ·next n i j L k c M=>
   split at e
   ·next N R S z v A=>
    obtain⟨B,E⟩:=oa e;cases E
    refine⟨rfl,λh' F=> ?_⟩;simp only[F n _ v rfl,A,B,Tj];exact⟨_,rfl,u⟩
   ·cases e
  ·cases e
 |indexAddr T y i=>simp [cM]at d
 |fieldAddr T y f=>simp [cM]at d
 |nilCheck y=>simp [cM]at d
 |call c=>
  cases g:c.callee with
  |builtin b=>cases b<;>simp [cM,g]at d
  |value f=>cases J:ru f<;>simp [cM,g,J]at d
  |invoke=>simp [cM,g]at d
 |store t y z=>simp [cM]at d
 |_=>simp [kV]at q
def alB{P:eG}{o:Oper}{ρ:Operand->AV}{h h1:U ao}{a:VA}{x:AV}{p:Prop}(A:kV o=true)(d:cM o=3)(g:jB P o.op ρ h a=some (x,h1,p))(B:p):jF h h1:=by
 obtain⟨dst,op,type,pos,after,guard⟩:=o;cases op with
 |store t y z=>
  simp only[jB]at g;split at g
  ·next n i j L k c M N=>
   split at g
   ·next e R S q E W=>
    obtain⟨v,F⟩:=oa g;cases F
    simp only[Zo,TC]at v;refine jF.set E ?_;simp only[pY,Zf,B.2.2,v.1.1.1.1]
   ·cases g
  ·cases g
 |load t y=>simp [cM]at d
 |indexAddr T y i=>simp [cM]at d
 |fieldAddr T y f=>simp [cM]at d
 |nilCheck y=>simp [cM]at d
 |call c=>
  cases u:c.callee with
  |builtin b=>cases b<;>simp [cM,u]at d
  |value f=>cases J:ru f<;>simp [cM,u,J]at d
  |invoke=>simp [cM,u]at d
 |_=>simp [kV]at A
def kX(m:Bool)(o:Oper):Nat:=bif pw m o then 7 else cM o
def fm(m:Bool)(P:eG)(o:Oper)(ρ:Operand->AV)(h:U ao)(x:AV)(h1:U ao):Prop:=
 match kX m o with
 |0=>h1=h/\∀h',(m=true\/jX h h')->∀C:AV->U ao->Prop,C x h'->k9 P o ρ h' C
 |1=>h1=h/\∀h',j4 h h'->∀C:AV->U ao->Prop,C x h'->k9 P o ρ h' C
 |2=>∃B,pY (some B)=none/\x= .ptr h.length 0/\h1=h++[B]/\∀h'(C:AV->U ao->Prop),C (.ptr h'.length 0) (h'++[B])->k9 P o ρ h' C
 |3=>jF h h1/\∀C:AV->U ao->Prop,C x h1->k9 P o ρ h C
 |4=>h1=h/\∀e(C:AV->U ao->Prop),C x (h++e)->k9 P o ρ (h++e) C
 |5=>(j4 h h1/\j4 h1 h/\jF h h1)/\∀C:AV->U ao->Prop,C x h1->k9 P o ρ h C
 |6=>∃b,h1=h++b/\∀C:AV->U ao->Prop,C x h1->k9 P o ρ h C
 |7=>∀C:AV->U ao->Prop,C x h1->k9 P o ρ h C
 |_=>False
section
variable {P:eG} {o:Oper} {ρ ρ':Operand->AV} {h:U ao} {C:AV->U ao->Prop}
def ajh{p:AV}{K:U AV->Nat->Prop}(b:uE h p K):∃cs off,K cs off/\∀h',j4 h h'->∀K':U AV->Nat->Prop,K' cs off->uE h' p K':=by
 unfold uE at b ⊢;split at b
 ·rename_i n off
  split at b
  ·rename_i cs d
   refine⟨cs,off,b,λh' e K' c=> ?_⟩;rw[e n _ d rfl];exact c
  ·exact b.elim
 ·rename_i g i off
  split at b
  ·rename_i cs d
   refine⟨_,off,b,λh' _ K' c=> ?_⟩;exact c
  ·exact b.elim
 ·exact b.elim
def ak3{t:Nat}{p:AV}{K:AV->Prop}(g:qE P t h p K):∃x,K x/\∀h',j4 h h'->∀K':AV->Prop,K' x->qE P t h' p K':=by
 unfold qE at g ⊢;obtain⟨v,q,b,k⟩:=ajh g;split at b;{rw[cm]at b;refine⟨_,b.2,λh' d K' e=>k h' d _ ?_⟩;exact cm.2 ⟨b.1,e⟩}
 ·split at b
  ·rename_i c u
   refine⟨c,b,λh' d K' e=>k h' d _ ?_⟩;simp only[u];exact e
  ·exact b.elim
 ·exact b.elim
def wu{x:O Operand}{d:Nat}{F:Nat->Prop}(b:lM ρ x d F):∃m,F m/\∀F':Nat->Prop,F' m->lM ρ x d F':=by
 cases x with
 |none=>exact⟨d,b,λ_ h=>h⟩
 |some y=>
  simp only[lM]at b;split at b
  ·rename_i z c
   exact⟨_,b.2,λF' e=>by simp only[lM,c];exact⟨b.1,e⟩⟩
  ·exact b.elim
def amc(hk:cM o=0)(v:dg P o ρ h C):∃x,C x h/\∀h'(C':AV->U ao->Prop),C' x h'->dg P o ρ h' C':=by
 have yf:∀(F:(AV->Prop)->Prop),(∀K,F K->∃x,K x/\∀E,E x->F E)->F (λx=>C x h)->(∀h' C',dg P o ρ h' C'=F (λx=>C' x h'))->∃x,C x h/\∀h'(C':AV->U ao->Prop),C' x h'->dg P o ρ h' C':=λF M R he=>by
  obtain⟨x,J,L⟩:=M _ R;exact⟨x,J,λh' C' B=>by rw[he];exact L _ B⟩
 obtain⟨dst,op,type,pos,after,guard⟩:=o;cases op with
 |move a=>exact⟨ρ a,v,λ_ _ h=>h⟩
 |assign a=>exact⟨ρ a,v,λ_ _ h=>h⟩
 |pick c a b=>
  simp only[dg]at v;split at v
  ·rename_i t ht
   cases t with
   |true=>exact⟨ρ a,v.1 rfl,λh' C' B=>by simp only[dg,ht];exact⟨λ_=>B,λe=>by cases e⟩⟩
   |false=>exact⟨ρ b,v.2 rfl,λh' C' B=>by simp only[dg,ht];exact⟨λe=>(by cases e),λ_=>B⟩⟩
  ·exact v.elim
 |nilCheck a=>
  simp only[dg]at v;split at v;{rename_i m S e;exact⟨_,v,λh' C' B=>by simp only[dg,e];exact B⟩};{rename_i xs i S e;exact⟨_,v,λh' C' B=>by simp only[dg,e];exact B⟩};{rename_i f cs e;exact⟨_,v,λh' C' B=>by simp only[dg,e];exact B⟩};{exact v.elim}
 |fieldAddr t a f=>
  simp only[dg]at v;split at v
  ·rename_i fo k g hf
   split at v;{rename_i m S e;exact⟨_,v,λh' C' B=>by simp only[dg,hf,e];exact B⟩};{rename_i xs i S e;exact⟨_,v,λh' C' B=>by simp only[dg,hf,e];exact B⟩};{exact v.elim}
  ·exact v.elim
 |field t a f=>
  refine yf (Ax P t (ρ a) f) (λK q=> ?_) v (λ_ _=>rfl);unfold Ax at q ⊢;split at q;{rw[cm]at q;exact⟨_,q.2,λE A=>cm.2 ⟨q.1,A⟩⟩}
  ·split at q
   ·rename_i c gZ;exact⟨c,q,λE A=>A⟩
   ·exact q.elim
  ·exact q.elim
 |indexAddr t a b=>
  refine yf (uB P t (ρ a) (ρ b)) (λK q=> ?_) v (λ_ _=>rfl);unfold uB at q ⊢;split at q
  ·rename_i e k hT
   split at q
   ·rename_i n S len cap k'
    split at q
    ·rename_i z hz
     rw[cm]at q;obtain⟨J,L,N,h4⟩:=q;exact⟨_,h4,λE A=>cm.2 ⟨J,L,N,A⟩⟩
    ·exact q.elim
   ·split at q
    ·rename_i xs z nc hz
     obtain⟨R,q⟩:=q;split at q
     ·rename_i c gZ
      exact⟨_,q.2,λE A=>⟨R,q.1,A⟩⟩
     ·exact q.elim
    ·exact q.elim
  ·split at q
   ·rename_i n e k b' S z hT hz
    obtain⟨J,L,N⟩:=q;exact⟨_,N,λE A=>⟨J,L,A⟩⟩
   ·rename_i n e k xs i' S z hT hz
    rw[cm]at q;obtain⟨R,J,L,N⟩:=q;split at N
    ·rename_i c gZ
     split at N
     ·rename_i d hd
      exact⟨_,N,λE A=>cm.2 ⟨R,J,L,A⟩⟩
     ·exact N.elim
    ·exact N.elim
   ·exact q.elim
 |index t a b=>
  simp only[dg]at v;split at v
  ·rename_i bb z e1 e2
   rw[cm]at v;obtain⟨J,L,N⟩:=v;split at N
   ·rename_i c gZ
    exact⟨_,N,λh' C' B=>by simp only[dg,e1,e2];exact cm.2 ⟨J,L,by simp only[gZ];exact B⟩⟩
   ·exact N.elim
  ·exact v.elim
 |build t ps=>
  refine yf (AI P t (ps.toList.map λp:Nat×Operand=>(p.1,ρ p.2))) (λK q=> ?_) v (λ_ _=>rfl);unfold AI at q ⊢;split at q
  ·split at q
   ·rename_i cs ib
    rw[cm]at q;exact⟨_,q.2,λE A=>cm.2 ⟨q.1,A⟩⟩
   ·exact q.elim
  ·exact q.elim
 |buildSlice t n ps=>
  refine yf (za P t n (ps.toList.map λp:Nat×Operand=>(p.1,ρ p.2))) (λK q=> ?_) v (λ_ _=>rfl);unfold za at q ⊢;split at q
  ·split at q
   ·split at q
    ·rename_i cs ib
     split at q
     ·rename_i ds sX
      rw[cm]at q;exact⟨_,q.2,λE A=>cm.2 ⟨q.1,A⟩⟩
     ·exact q.elim
    ·exact q.elim
   ·exact q.elim
  ·exact q.elim
 |slice t a lo hi mx=>
  refine yf (xA P t ρ (ρ a) lo hi mx) (λK q=> ?_) v (λ_ _=>rfl);unfold xA at q ⊢;split at q
  ·split at q
   ·rw[cm]at q;obtain⟨R,q⟩:=q;obtain⟨m1,q,j1⟩:=wu q;obtain⟨J,q⟩:=q;obtain⟨m2,q,j2⟩:=wu q;obtain⟨L,q⟩:=q;exact⟨_,q,λE A=>cm.2 ⟨R,j1 _ ⟨J,j2 _ ⟨L,A⟩⟩⟩⟩
   ·split at q
    ·rw[cm]at q;obtain⟨R,q⟩:=q;obtain⟨m1,q,j1⟩:=wu q;rw[cm]at q;obtain⟨J,q⟩:=q;obtain⟨m2,q,j2⟩:=wu q;rw[cm]at q;obtain⟨L,q⟩:=q;exact⟨_,q,λE A=>by rw[cm];exact⟨R,j1 _ (by rw[cm];exact⟨J,j2 _ (by rw[cm];exact⟨L,A⟩)⟩)⟩⟩
    ·exact q.elim
   ·split at q
    ·obtain⟨R,q⟩:=q;obtain⟨m1,q,j1⟩:=wu q;obtain⟨J,q⟩:=q;obtain⟨m2,q,j2⟩:=wu q;obtain⟨L,q⟩:=q;exact⟨_,q,λE A=>⟨R,j1 _ ⟨J,j2 _ ⟨L,A⟩⟩⟩⟩
    ·exact q.elim
  ·split at q
   ·split at q
    ·obtain⟨R,q⟩:=q;obtain⟨m1,q,j1⟩:=wu q;obtain⟨J,q⟩:=q;obtain⟨m2,q,j2⟩:=wu q;obtain⟨L,q⟩:=q;exact⟨_,q,λE A=>⟨R,j1 _ ⟨J,j2 _ ⟨L,A⟩⟩⟩⟩
    ·exact q.elim
   ·exact q.elim
 |extract a i=>
  simp only[dg]at v;split at v
  ·rename_i cs e
   split at v;{rename_i c gZ;exact⟨c,v,λh' C' B=>by simp only[dg,e,gZ];exact B⟩};{exact v.elim}
  ·exact v.elim
 |makeFunc fn first dz=>
  cases fn with
  |func f=>
   simp only[dg]at v;split at v;{rename_i e;exact⟨_,v,λh' C' B=>by simp only[dg,e];exact B⟩};{exact v.elim}
  |_=>exact v.elim
 |binOp op t a b u=>
  refine yf (zZ P t op (ρ a) (ρ b)) (λK q=> ?_) v (λ_ _=>rfl);unfold zZ at q ⊢;split at q
  ·split at q
   ·rw[cm]at q;exact⟨_,q.2.2,λE A=>cm.2 ⟨q.1,q.2.1,A⟩⟩
   ·split at q
    ·exact⟨_,q.2,λE A=>⟨q.1,A⟩⟩
    ·split at q
     ·rw[cm]at q;exact⟨_,q.2,λE A=>cm.2 ⟨q.1,A⟩⟩
     ·exact q.elim
  ·split at q
   ·exact⟨_,q,λE A=>A⟩
   ·split at q
    ·exact⟨_,q.2,λE A=>⟨q.1,A⟩⟩
    ·exact q.elim
  ·split at q
   ·rw[cm]at q;exact⟨_,q.2,λE A=>cm.2 ⟨q.1,A⟩⟩
   ·exact q.elim
  ·split at q
   ·split at q
    ·exact⟨_,q,λE A=>A⟩
    ·exact q.elim
   ·exact q.elim
  ·exact q.elim
 |unOp op t a=>
  refine yf (zR op (ρ a)) (λK q=> ?_) v (λ_ _=>rfl);unfold zR at q ⊢;split at q
  ·split at q
   ·exact⟨_,q,λE A=>A⟩
   ·exact q.elim
  ·exact q.elim
 |convert t u a=>
  refine yf (yI P t u (ρ a)) (λK q=> ?_) v (λ_ _=>rfl);unfold yI at q ⊢;split at q
  ·split at q
   ·exact⟨_,q,λE A=>A⟩
   ·exact q.elim
  ·rw[cm]at q;exact⟨_,q.2,λE A=>cm.2 ⟨q.1,A⟩⟩
  ·split at q
   ·rw[cm]at q;obtain⟨J,ns,L,N⟩:=q;exact⟨_,N,λE A=>cm.2 ⟨J,ns,L,A⟩⟩
   ·exact q.elim
 |call c=>
  simp only[cM]at hk;cases W:c.callee with
  |value f=>cases n6:ru f<;>simp [W,n6]at hk
  |invoke=>simp [W]at hk
  |builtin b=>
   cases b with
   |len=>
    simp only[dg,W]at v;split at v
    ·rename_i x T e1 e2
     have key:∀F:Nat->Prop,vn P T (ρ x) F->∃m,F m/\∀F':Nat->Prop,F' m->vn P T (ρ x) F':=λF M=>by
      unfold vn at M ⊢;split at M;{rw[cm]at M;exact⟨_,M.2,λF' mO=>cm.2 ⟨M.1,mO⟩⟩};{rw[cm]at M;exact⟨_,M.2,λF' mO=>cm.2 ⟨M.1,mO⟩⟩}
      ·split at M
       ·rw[cm]at M;exact⟨_,M.2,λF' mO=>cm.2 ⟨M.1,mO⟩⟩
       ·exact M.elim
     obtain⟨m,J,L⟩:=key _ v;exact⟨_,J,λh' C' B=>by simp only[dg,W,e1,e2];exact L _ B⟩
    ·exact v.elim
   |max=>
    simp only[dg,W]at v;split at v
    ·rename_i e1
     exact⟨_,v,λh' C' B=>by simp only[dg,W,e1];exact B⟩
    ·exact v.elim
   |min=>
    simp only[dg,W]at v;split at v
    ·rename_i e1
     exact⟨_,v,λh' C' B=>by simp only[dg,W,e1];exact B⟩
    ·exact v.elim
   |_=>simp [W]at hk
 |_=>simp [cM]at hk
def avh(g:cM o=2)(d:dg P o ρ h C):∃B,pY (some B)=none/\C (.ptr h.length 0) (h++[B])/\∀h'(C':AV->U ao->Prop),C' (.ptr h'.length 0) (h'++[B])->dg P o ρ h' C':=by
 obtain⟨dst,op,type,pos,after,guard⟩:=o;cases op with
 |alloc e=>
  simp only[dg]at d;split at d;{rename_i z q;exact⟨_,rfl,d,λh' C' k=>by simp only[dg,q];exact k⟩};{exact d.elim}
 |box e x=>
  simp only[dg]at d;rw[cm]at d;exact⟨_,rfl,d.2,λh' C' k=>by simp only[dg];rw[cm];exact⟨d.1,k⟩⟩
 |call c=>
  simp only[cM]at g;cases p:c.callee with
  |value f=>cases u:ru f<;>simp [p,u]at g
  |invoke=>simp [p]at g
  |builtin b=>cases b<;>simp [p]at g
 |_=>simp [cM]at g
def aix(k:cM o=3)(e:dg P o ρ h C):∃x h1,C x h1/\jF h h1/\∀C':AV->U ao->Prop,C' x h1->dg P o ρ h C':=by
 obtain⟨dst,op,type,pos,after,guard⟩:=o;cases op with
 |store t a b=>
  simp only[dg]at e;have u:∀F:U ao->Prop,Ae P t h (ρ a) (ρ b) F->∃h1,F h1/\jF h h1/\∀F':U ao->Prop,F' h1->Ae P t h (ρ a) (ρ b) F':=λF g=>by
   unfold Ae at g ⊢;split at g
   ·split at g
    ·next v=>
     split at g;{rw[cm]at g;exact⟨_,g.2,jF.set v rfl,λF' A=>cm.2 ⟨g.1,A⟩⟩};{exact g.elim}
    ·exact g.elim
   ·exact g.elim
  obtain⟨h1,B,E,J⟩:=u _ e;exact⟨_,h1,B,E,λC' q=>by simp only[dg];exact J _ q⟩
 |makeMap t r=>
  simp only[dg]at e;split at e
  ·rename_i x h' p d
   refine⟨x,h',e.2,?_,λC' q=>by simp only[dg,d];exact⟨e.1,q⟩⟩;unfold sL at d;cases r with
   |none=>
    simp only at d;split at d;{cases d;exact jF.app rfl};{cases d}
   |some r=>cases d
  ·exact e.elim
 |mapUpdate t a b c=>
  simp only[dg]at e;split at e
  ·rename_i x h' p d
   refine⟨x,h',e.2,?_,λC' q=>by simp only[dg,d];exact⟨e.1,q⟩⟩;unfold sL at d;simp only at d;split at d
   ·split at d
    ·split at d
     ·next v=>
      obtain⟨N,L⟩:=oa d;cases L
      exact jF.set v rfl
     ·cases d
    ·cases d
   ·cases d
  ·exact e.elim
 |call c=>
  simp only[cM]at k;cases z:c.callee with
  |value f=>cases M:ru f<;>simp [z,M]at k
  |invoke=>simp [z]at k
  |builtin b=>cases b<;>simp [z]at k
 |_=>simp [cM]at k
def Y2{n:Nat}{e:TypeId}{k l e' g p:Nat}(d:h[n]?=some (.front e' g p)):j4 h (h.set n (.front e k l))/\j4 (h.set n (.front e k l)) h:=by
 refine⟨λm q b c=> ?_,λm q b c=> ?_⟩
 ·have:n≠m:=λe=>by subst e;rw[d]at b;cases b;cases c
  rw[Z7 this];exact b
 ·by_cases e:n=m
  ·subst e;rw[ZB (Zj.1 d).1]at b;cases b;cases c
  ·rw[Z7 e]at b;exact b
def LJ{e:TypeId}{k l:Nat}:j4 h (h++[.front e k l])/\j4 (h++[.front e k l]) h:=by
 refine⟨j4.app _ _,λm p b c=> ?_⟩;by_cases d:m<h.length;{rw[ZT d]at b;exact b}
 ·rw[ZK k7]at b;by_cases g:m-h.length=0
  ·rw[g]at b;cases b;cases c
  ·rw[Z1 (by simp;omega)]at b;cases b
def au4(q:cM o=5)(p:dg P o ρ h C):∃x h1,C x h1/\(j4 h h1/\j4 h1 h/\jF h h1)/\∀C':AV->U ao->Prop,C' x h1->dg P o ρ h C':=by
 obtain⟨dst,op,type,pos,after,guard⟩:=o;cases op with
 |call c=>
  simp only[cM]at q;cases u:c.callee with
  |value f=>cases W:ru f<;>simp [u,W]at q
  |invoke=>simp [u]at q
  |builtin b=>
   cases b with
   |append=>
    simp only[dg,u]at p;split at p
    ·rename_i x y T d e1 e2
     rw[cm]at p;have E:∀(k:Nat)(y:AV)(F:U (U D)->Prop),xE h k y F->∃J,F J/\∀F':U (U D)->Prop,F' J->xE h k y F':=λk y F e=>by
       unfold xE at e ⊢;split at e
       ·split at e
        ·split at e
         ·rw[cm]at e;exact⟨_,e.2,λF' g=>cm.2 ⟨e.1,g⟩⟩
         ·exact e.elim
        ·exact e.elim
       ·split at e
        ·exact⟨_,e.2,λF' g=>⟨e.1,g⟩⟩
        ·exact e.elim
     have L:∀F:AV->U ao->Prop,wT P T h (ρ x) (ρ y) F->∃v h1,F v h1/\(j4 h h1/\j4 h1 h/\jF h h1)/\∀F':AV->U ao->Prop,F' v h1->wT P T h (ρ x) (ρ y) F':=λF e=>by
      unfold wT at e ⊢;split at e
      ·split at e
       ·rw[cm]at e;obtain⟨M,e⟩:=e;obtain⟨J,e,N⟩:=E _ _ _ e;split at e
        ·split at e
         ·rename_i R
          rw[cm]at e;obtain⟨g1,g2,S,z,A,B⟩:=e;exact⟨_,_,B,⟨(Y2 R).1,(Y2 R).2,jF.set R rfl⟩,λF' g=>cm.2 ⟨M,N _ (cm.2 ⟨g1,g2,S,z,A,g⟩)⟩⟩
         ·exact e.elim
        ·obtain⟨z,A,B⟩:=e;exact⟨_,_,B,⟨LJ.1,LJ.2,jF.app rfl⟩,λF' g=>cm.2 ⟨M,N _ ⟨z,A,g⟩⟩⟩
        ·obtain⟨S,z,A,B⟩:=e;exact⟨_,_,B,⟨LJ.1,LJ.2,jF.app rfl⟩,λF' g=>cm.2 ⟨M,N _ ⟨S,z,A,g⟩⟩⟩
        ·exact e.elim
       ·exact e.elim
      ·exact e.elim
     obtain⟨v,h1,k1,c1,k2⟩:=L _ p.2;exact⟨v,h1,k1,c1,λC' eC=>by simp only[dg,u,e1,e2];rw[cm];exact⟨p.1,k2 _ eC⟩⟩
    ·exact p.elim
   |_=>simp [u]at q
 |_=>simp [cM]at q
def Y0{m:Bool}(la:pw m o=false){s:St}{K:St->Prop}(z:D9 P o K s):∃x h1,fm m P o (ev s) s.h x h1/\K ((s.wh h1).put o.dst x):=by
 have F:kX m o=cM o:=by unfold kX;rw[la];rfl
 have plain:tz P o K s->cM o≠4->cM o≠6->∃x h1,fm m P o (ev s) s.h x h1/\K ((s.wh h1).put o.dst x):=λu S Gq=>by
  unfold tz at u;by_cases J:cM o=0;{obtain⟨x,h1,T⟩:=amc J u;exact⟨x,s.h,by unfold fm;rw[F,J];exact⟨rfl,λh' _ k d=>.inl (T h' k d)⟩,h1⟩}
  ·by_cases h1:cM o=1
   ·obtain⟨dst,op,type,pos,after,guard⟩:=o;cases op with
    |load t a=>
     simp only[dg]at u;obtain⟨x,L,A⟩:=ak3 u;exact⟨x,s.h,by unfold fm;rw[F,h1];exact⟨rfl,λh' hh k d=>.inl (by simp only[dg];exact A h' hh _ d)⟩,L⟩
    |lookup t a b ok=>
     simp only[dg]at u;split at u
     ·rename_i x h' p hx
      obtain⟨rfl,A⟩:=anC hx;exact⟨x,s.h,by unfold fm;rw[F,h1];exact⟨rfl,λh' hh k d=>.inl (by simp only[dg,A h' hh];exact⟨u.1,d⟩)⟩,u.2⟩
     ·exact u.elim
    |call c=>
     simp only[cM]at h1;cases v:c.callee with
     |value f=>cases n6:ru f<;>simp [v,n6]at h1
     |invoke=>simp [v]at h1
     |builtin b=>cases b<;>simp [v]at h1
    |_=>simp [cM]at h1
   ·by_cases T:cM o=2
    ·obtain⟨B,kB,L,A⟩:=avh T u;exact⟨_,_,by unfold fm;rw[F,T];exact⟨B,kB,rfl,rfl,λh' k d=>.inl (A h' k d)⟩,L⟩
    ·by_cases M:cM o=3
     ·obtain⟨x,o8,L,kv,A⟩:=aix M u;exact⟨x,o8,by unfold fm;rw[F,M];exact⟨kv,λk d=>.inl (A k d)⟩,L⟩
     ·by_cases R:cM o=5
      ·obtain⟨x,o8,L,c1,A⟩:=au4 R u;exact⟨x,o8,by unfold fm;rw[F,R];exact⟨c1,λk d=>.inl (A k d)⟩,L⟩
      exfalso;obtain⟨dst,op,type,pos,after,guard⟩:=o;cases op with
      |call c=>
       simp only[cM]at J M S Gq R;simp only[dg]at u;cases v:c.callee with
       |value f=>cases n6:ru f<;>simp [v,n6]at S Gq
       |invoke=>simp only[v]at u
       |builtin b=>cases b<;>simp only[v]at u J M R<;>first|exact u|exact absurd rfl J|exact absurd rfl M|exact absurd rfl R|exact M trivial|exact J trivial|exact R trivial
      |_=>first|exact absurd rfl J|exact absurd rfl h1|exact absurd rfl T|exact absurd rfl M|exact u
 unfold D9 at z;split at z
 ·rename_i c E
  split at z
  ·rename_i f v
   have W:∀x:AV,(∀e,∀k:AV->U ao->Prop,k x (s.h++e)->dg P o (ev s) (s.h++e) k)->fm m P o (ev s) s.h x s.h:=λx hx=>by
    have hk:cM o=4\/cM o=6:=by
     unfold cM;simp only[E,v];cases ru f<;>simp
    unfold fm;rw[F];rcases hk with hk|hk
    ·rw[hk];exact⟨rfl,λe k d=>.inl (hx e k d)⟩
    ·rw[hk];refine⟨[],(ZW _).symm,λk d=>.inl ?_⟩;have:=hx [] k (by rw[ZW];exact d)
     rwa [ZW]at this
   split at z
   ·rename_i g dz hg
    obtain⟨x,hK,kZ⟩:=z;refine⟨x,s.h,W x λe k d=> ?_,hK⟩;unfold dg;simp only[E,v,hg];exact(kZ e).mono λr' h' ⟨e1,e2⟩=>by subst e1;subst e2;exact d
   ·rename_i q hg
    obtain⟨g,as,eq,x,hK,kZ⟩:=z;refine⟨x,s.h,W x λe k d=> ?_,hK⟩;unfold dg;simp only[E,v,hg];exact⟨g,as,eq,(kZ e).mono λr' h' ⟨e1,e2⟩=>by subst e1;subst e2;exact d⟩
   ·exact z.elim
  ·rename_i v
   exact plain z (by
    unfold cM;simp only[E];cases N:c.callee with
    |value f=>exact absurd N (v f)
    |invoke=>simp
    |builtin b=>cases b<;>simp) (by
    unfold cM;simp only[E];cases N:c.callee with
    |value f=>exact absurd N (v f)
    |invoke=>simp
    |builtin b=>cases b<;>simp)
 ·rename_i E
  exact plain z (by
   unfold cM;split<;>first|(rename_i c N;exact(E c N).elim)|simp) (by
   unfold cM;split<;>first|(rename_i c N;exact(E c N).elim)|simp)
def XZ{m:Bool}{h1:U ao}{x:AV}(b:fm m P o ρ h x h1):∀C:AV->U ao->Prop,C x h1->k9 P o ρ h C:=λC c=>by
 unfold fm at b;split at b;{obtain⟨e,b⟩:=b;subst e;exact b _ (.inr (jX.refl _)) _ c};{obtain⟨e,b⟩:=b;subst e;exact b _ (j4.refl _) _ c};{obtain⟨B,_,rfl,rfl,b⟩:=b;exact b _ _ c};{exact b.2 _ c}
 ·obtain⟨e,b⟩:=b;subst e;have:=b [] C (by rw[ZW];exact c)
  rwa [ZW]at this
 ·exact b.2 _ c
 ·obtain⟨d,_,b⟩:=b;exact b _ c
 ·exact b _ c
 ·exact b.elim
def ME{m:Bool}{s:St}{K:St->Prop}(u:AO m P o K s):∃x h1,fm m P o (ev s) s.h x h1/\K ((s.wh h1).put o.dst x):=by
 cases q:pw m o with
 |true=>
  have F:kX m o=7:=by unfold kX;rw[q];rfl
  rcases u with u|⟨_,x,h1,d,A⟩|⟨b,a,x,h',p,v,z,d⟩|⟨_,x,R,d,A⟩
  ·obtain⟨x,h1,B,d⟩:=Y0 (m:=false) rfl u;refine⟨x,h1,?_,d⟩;have:=XZ B;unfold fm;rw[F];exact this
  ·exact⟨x,h1,by unfold fm;rw[F];exact λC g=>.inl (A C g),d⟩
  ·exact⟨x,h',by unfold fm;rw[F];exact λC g=>.inr ⟨b.imp (·.1) (λe=>(Zo _ _▸e).2),a,x,h',p,v,z,g⟩,d⟩
  ·exact⟨x,_,by unfold fm;rw[F];exact λC g=>.inl (A C g),d⟩
 |false=>
 have J:kX m o=cM o:=by unfold kX;rw[q];rfl
 rcases u with u|⟨S,_⟩|⟨b,a,x,h',p,v,z,d⟩|⟨k,x,R,d,A⟩
 ·exact Y0 q u
 ·rw[q]at S;cases S
 ·obtain⟨b,E⟩:kV o=true/\(m&&cM o==0)=false:=b.resolve_right λe=>by
   rw[Zo]at e;unfold pw at q;rw[e.1,e.2]at q;simp at q
  have k:cM o=0\/cM o=1\/cM o=3:=by
   unfold kV at b;unfold cM;split at b
   all_goals first|(next e=>simp only[e];simp)|skip
   ·next c e=>
    split at b;{next T=>simp only[e,T];simp};{cases b}
   ·cases b
  rcases k with k|k|k
  ·obtain⟨rfl,B⟩:=alO b k v z;refine⟨x,_,?_,d⟩;unfold fm;rw[J,k];exact⟨rfl,λh' L C g=>.inr ⟨.inl b,a,x,h',by obtain⟨M,q1,N⟩:=B h' (L.resolve_left λe=>by rw[e,k]at E;cases E);exact⟨M,q1,N,g⟩⟩⟩
  ·obtain⟨rfl,B⟩:=ajI b k v z;refine⟨x,_,?_,d⟩;unfold fm;rw[J,k];exact⟨rfl,λh' L C g=>.inr ⟨.inl b,a,x,h',by obtain⟨M,q1,N⟩:=B h' L;exact⟨M,q1,N,g⟩⟩⟩
  ·refine⟨x,h',?_,d⟩;unfold fm;rw[J,k];exact⟨alB b k v z,λC g=>.inr ⟨.inl b,a,x,h',p,v,z,g⟩⟩
 ·refine⟨x,_,?_,d⟩;unfold fm;rw[J,k];exact⟨R,rfl,λC g=>.inl (A C g)⟩
end
structure ky(s s':St):Prop where
 n:s.n=s'.n
 h:s.h=s'.h
 t:∀i,bE s.t i=bE s'.t i
def ky.refl(s:St):ky s s:=⟨rfl,rfl,λ_=>rfl⟩
def ky.symm{s s':St}(h:ky s s'):ky s' s:=⟨h.n.symm,h.h.symm,λi=>(h.t i).symm⟩
def ky.trans{a b c:St}(h:ky a b)(k:ky b c):ky a c:=⟨h.n.trans k.n,h.h.trans k.h,λi=>(h.t i).trans (k.t i)⟩
def vP(s:St)(d:O Nat)(x:AV)(i:Nat):bE (s.put d x).t i=if d=some i/\i<s.n then x else bE s.t i:=by
 cases d with
 |none=>simp [St.put]
 |some k=>
  by_cases b:k<s.n
  ·rw[uc b,mN];by_cases c:i=k
   ·subst c;simp [b]
   ·rw[af c,af (by simp;intro e;exact absurd e.symm c)]
  ·rw[Gj b,af (by rintro⟨e,g⟩;cases e;exact b g)]
def tA(s:St)(d:O Nat)(x:AV):(s.put d x).n=s.n:=by
 cases d with
 |none=>rfl
 |some k=>
  by_cases b:k<s.n;{rw[uc b]};{rw[Gj b]}
def GV(s:St)(d:O Nat)(x:AV):(s.put d x).h=s.h:=by
 cases d with
 |none=>rfl
 |some k=>
  by_cases b:k<s.n;{rw[uc b]};{rw[Gj b]}
def ky.put{s s':St}(h:ky s s')(h1:U ao)(d:O Nat)(x:AV):ky ((s.wh h1).put d x) ((s'.wh h1).put d x):=
 ⟨by rw[tA,tA];exact h.n,by rw[GV,GV];rfl,λi=>by
  rw[vP,vP];show(if d=some i/\i<s.n then x else bE s.t i)=(if d=some i/\i<s'.n then x else bE s'.t i);rw[h.n,h.t]⟩
def an2(s:St)(h1 e g:U ao){d b:O Nat}(x c:AV)(p:∀k,d=some k->b≠some k):ky ((((s.wh h1).put d x).wh g).put b c) ((((s.wh e).put b c).wh g).put d x):=by
 refine⟨by simp only[tA];show((s.wh h1).put d x).n=((s.wh e).put b c).n;simp only[tA];rfl,by simp only[GV];rfl,λi=> ?_⟩;rw[vP,vP];show(if b=some i/\i<((s.wh h1).put d x).n then c else bE ((s.wh h1).put d x).t i)=(if d=some i/\i<((s.wh e).put b c).n then x else bE ((s.wh e).put b c).t i);rw[tA,tA,vP,vP];show(if b=some i/\i<s.n then c else(if d=some i/\i<s.n then x else bE s.t i))=(if d=some i/\i<s.n then x else(if b=some i/\i<s.n then c else bE s.t i));by_cases a:d=some i;{have:=p i a;simp [a,this]};{simp [a]}
section
variable {P:eG} {ops:Array Oper}
def nY(m:Bool)(P:eG)(ops:Array Oper)(o:Oper)(s:St)(x:AV)(h1:U ao):Prop:=(jO ops o s True False/\fm m P o (ev s) s.h x h1)\/(jO ops o s False True/\x= .d (.v undef)/\h1=s.h)
def J9{o:Oper}{s:St}{c p:Prop}(h:jO ops o s c p):(jO ops o s True False/\c)\/(jO ops o s False True/\p):=by
 unfold jO at h ⊢;split at h;{exact .inl ⟨trivial,h⟩}
 ·rename_i j want q
  split at h
  ·rename_i d u
   split at h
   ·rename_i b v
    by_cases g:b=want;{exact .inl ⟨⟨λ_=>trivial,λe=>by subst g;cases b<;>cases e⟩,h.1 g⟩}
    ·have k:b= !want:=by cases b<;>cases want<;>simp_all
     exact .inr ⟨⟨λe=>(g e).elim,λ_=>trivial⟩,h.2 k⟩
   ·exact .inr ⟨trivial,h⟩
   ·exact h.elim
  ·exact h.elim
def yz{o:Oper}{s s':St}{b no:Prop}(e:∀d,d∈o.looksAt ops->bE s'.t d=bE s.t d)(h:jO ops o s b no):jO ops o s' b no:=by
 unfold jO at h ⊢;split at h;{exact h}
 ·rename_i j c g
  split at h
  ·rename_i d k
   have:bE s'.t d=bE s.t d:=e d (by unfold Oper.looksAt;rw[g];simp [k]);rw[this];exact h
  ·exact h.elim
def Uk{m:Bool}{o:Oper}{s s':St}{x:AV}{h1:U ao}(v:∀d,d∈o.looksAt ops->bE s'.t d=bE s.t d)(u:s'.h=s.h)(h:nY m P ops o s x h1):nY m P ops o s' x h1:=by
 have z:∀y∈o.op.operands,ev s y=ev s' y:=λy A=>by
  cases y with
  |tmp t=>exact(v t (by unfold Oper.looksAt;refine ZM.2 (.inl (List.mem_filterMap.2 ⟨.tmp t,Array.mem_toList_iff.2 A,rfl⟩)))).symm
  |_=>rfl
 rcases h with⟨g,k⟩|⟨g,E,F⟩
 ·refine .inl ⟨yz v g,?_⟩;rw[u];have q:∀h C,k9 P o (ev s) h C=k9 P o (ev s') h C:=λh C=>Xm z;unfold fm at k ⊢;split at k
  ·exact⟨k.1,λh' u C p=>q h' C▸k.2 h' u C p⟩
  ·exact⟨k.1,λh' u C p=>q _ C▸k.2 h' u C p⟩
  ·obtain⟨B,J,a,b,c⟩:=k;exact⟨B,J,a,b,λh' C p=>q h' C▸c h' C p⟩
  ·exact⟨k.1,λC p=>q _ C▸k.2 C p⟩
  ·exact⟨k.1,λe C p=>q _ C▸k.2 e C p⟩
  ·exact⟨k.1,λC p=>q _ C▸k.2 C p⟩
  ·obtain⟨L,a,b⟩:=k;exact⟨L,a,λC p=>q _ C▸b C p⟩
  ·exact λC p=>q _ C▸k C p
  ·exact k.elim
 ·exact .inr ⟨yz v g,E,F.trans u.symm⟩
def XX{o:Oper}(h:cM o=7):False:=by
 unfold cM at h
 repeat' (first|(split at h)|cases h)
 all_goals (cases b:ru _<;>rw[b]at h<;>cases h)
def am9{m:Bool}{o:Oper}{ρ:Operand->AV}{h h1:U ao}{x:AV}(c:pw m o=false)(b:fm m P o ρ h x h1):jX h h1:=by
 unfold fm at b;unfold kX at b;rw[c]at b;simp only[Tf]at b;split at b;{rw[b.1];exact jX.refl _};{rw[b.1];exact jX.refl _};{obtain⟨B,d,_,e,_⟩:=b;rw[e];exact(jF.app d).i};{exact b.1.i};{rw[b.1];exact jX.refl _};{exact b.1.2.2.i};{obtain⟨g,e,_⟩:=b;rw[e];exact jX.app _ _};{next e=>exact(XX e).elim};{exact b.elim}
def amo{m:Bool}{o:Oper}{ρ:Operand->AV}{h h1:U ao}{x:AV}(c:pw m o=false)(d:cM o≠6)(b:fm m P o ρ h x h1):jX h1 h:=by
 unfold fm at b;unfold kX at b;rw[c]at b;simp only[Tf]at b;split at b;{rw[b.1];exact jX.refl _};{rw[b.1];exact jX.refl _};{obtain⟨B,g,_,e,_⟩:=b;rw[e];exact(jF.app g).j};{exact b.1.j};{rw[b.1];exact jX.refl _};{exact b.1.2.2.j};{next e=>exact(d e).elim};{next e=>exact(XX e).elim};{exact b.elim}
def Ee(m:Bool)(a b:Oper):Bool:=(m&&((pw m a&&(!pw m b&&cM b==0))||(pw m b&&(!pw m a&&cM a==0))))|| !pw m a&& !pw m b&&(cM a==0||(cM b==0&& !(cM a==6))||((cM a==1||cM a==4)&&(cM b==1||cM b==4||cM b==2||cM b==6))||(cM a==1&&cM b==5)||(cM a==5&&cM b==1))
def avm{m:Bool}{oi oj:Oper}{s:St}{L E:AV}{hi hj:U ao}(Lq:oi.apart ops oj=true)(p:Ee m oi oj=true)(h1:nY m P ops oi s L hi)(h2:nY m P ops oj ((s.wh hi).put oi.dst L) E hj):
 ∃jw,nY m P ops oj s E jw/\nY m P ops oi ((s.wh jw).put oj.dst E) L hj:=by
 obtain⟨a1,a2,a3⟩:=Oper.apart_spec Lq;have W:∀d,d∈oj.looksAt ops->bE s.t d=bE ((s.wh hi).put oi.dst L).t d:=λd hd=>by
  rw[vP,af (λe=>a1 d e.1 hd)];rfl
 have ti:∀(h':U ao) d,d∈oi.looksAt ops->bE ((s.wh h').put oj.dst E).t d=bE s.t d:=λh' d hd=>by
  rw[vP,af (λe=>a3 d e.1 hd)];rfl
 have F:((s.wh hi).put oi.dst L).h=hi:=by rw[GV];rfl
 have J:∀h',((s.wh h').put oj.dst E).h=h':=λh'=>by rw[GV];rfl
 have u:hi=s.h->nY m P ops oj s E hj:=λe=>Uk W (by rw[F,e]) h2;have evi:∀h',∀y∈oi.op.operands,ev ((s.wh h').put oj.dst E) y=ev s y:=λh' y hy=>by
  cases y with
  |tmp t=>exact ti h' t (by unfold Oper.looksAt;refine ZM.2 (.inl (List.mem_filterMap.2 ⟨.tmp t,Array.mem_toList_iff.2 hy,rfl⟩)))
  |_=>rfl
 have evj:∀y∈oj.op.operands,ev ((s.wh hi).put oi.dst L) y=ev s y:=λy hy=>by
  cases y with
  |tmp t=>exact(W t (by unfold Oper.looksAt;refine ZM.2 (.inl (List.mem_filterMap.2 ⟨.tmp t,Array.mem_toList_iff.2 hy,rfl⟩)))).symm
  |_=>rfl
 have N:∀h' h C,k9 P oi (ev ((s.wh h').put oj.dst E)) h C=k9 P oi (ev s) h C:=λh' h C=>Xm (evi h');have cj:∀h C,k9 P oj (ev ((s.wh hi).put oi.dst L)) h C=k9 P oj (ev s) h C:=λh C=>Xm evj;unfold Ee at p;rw[bh]at p;rcases h1 with⟨g1,c⟩|⟨g1,e1,e2⟩
 ·rcases h2 with⟨g2,g⟩|⟨g2,f1,f2⟩
  ·rcases p with p|p
   ·
    rw[Zo,bh,Zo,Zo,Zo,Zo,UC,UC,TC,TC]at p;obtain⟨hm,p⟩:=p;have R:∀h',jO ops oi ((s.wh h').put oj.dst E) True False:=λh'=>yz (ti h') g1;have JU:jO ops oj s True False:=yz W g2;rcases p with⟨xy,lj,kj⟩|⟨haj,li,ki⟩
    ·have A:kX m oj=0:=by unfold kX;rw[lj];exact kj
     have v:kX m oi=7:=by unfold kX;rw[xy];rfl
     unfold fm at c g;rw[v]at c;rw[A]at g;simp only at c g;obtain⟨e,g⟩:=g;rw[F]at e;refine⟨s.h,.inl ⟨JU,?_⟩,.inl ⟨R s.h,?_⟩⟩;{unfold fm;rw[A];exact⟨rfl,λh' _ C q=>by rw[<-cj];exact g h' (.inl hm) C q⟩};{unfold fm;rw[v,J];exact λC q=>by rw[N];exact c C (e▸q)}
    ·have v:kX m oi=0:=by unfold kX;rw[li];exact ki
     have A:kX m oj=7:=by unfold kX;rw[haj];rfl
     unfold fm at c;rw[v]at c;simp only at c;obtain⟨e,c⟩:=c;refine⟨hj,u e,.inl ⟨R hj,?_⟩⟩;unfold fm;rw[v];exact⟨(J hj).symm,λh' _ C q=>by rw[N];exact c h' (.inl hm) C q⟩
   rw[Zo,Zo,UC,UC]at p;obtain⟨⟨li,lj⟩,p⟩:=p;have v:kX m oi=cM oi:=by unfold kX;rw[li];rfl
   have A:kX m oj=cM oj:=by unfold kX;rw[lj];rfl
   have R:∀h',jO ops oi ((s.wh h').put oj.dst E) True False:=λh'=>yz (ti h') g1;have JU:jO ops oj s True False:=yz W g2;by_cases k0:cM oi=0
   ·unfold fm at c;rw[v,k0]at c;simp only at c;obtain⟨e,c⟩:=c;refine⟨hj,u e,.inl ⟨R hj,?_⟩⟩;unfold fm;rw[v,k0];have hv:jX s.h hj:=by
     have:=am9 lj g;rw[F,e]at this;exact this
    exact⟨(J hj).symm,λh' z C q=>by rw[J]at z;rw[N];exact c h' (z.imp id λz=>hv.trans z) C q⟩
   ·by_cases k1:cM oj=0
    ·unfold fm at g;rw[A,k1]at g;simp only at g;obtain⟨e,g⟩:=g;rw[F]at e g;have k6:cM oi≠6:=λk6=>by
      simp [k6,k1]at p
     have hv:=amo li k6 c;refine⟨s.h,.inl ⟨JU,?_⟩,.inl ⟨R s.h,?_⟩⟩;{unfold fm;rw[A,k1];exact⟨rfl,λh' z C q=>by rw[<-cj];exact g h' (z.imp id λz=>hv.trans z) C q⟩};{rw[e];unfold fm at c ⊢;rw[J];simp only[N];exact c}
    ·by_cases k15:cM oi=1/\cM oj=5
     ·obtain⟨ka,kb⟩:=k15;unfold fm at c g;rw[v,ka]at c;rw[A,kb]at g;simp only at c g;obtain⟨e,c⟩:=c;obtain⟨⟨c1,c2,_⟩,g⟩:=g;rw[F,e]at c1 c2;refine⟨hj,u e,.inl ⟨R hj,?_⟩⟩;unfold fm;rw[v,ka];simp only;refine⟨(J hj).symm,λh' z C q=> ?_⟩;rw[J]at z;rw[N];exact c h' (λn S hn T=>z n S (c1 n S hn T) T) C q
     by_cases ZS:cM oi=5/\cM oj=1
     ·obtain⟨ka,kb⟩:=ZS;unfold fm at c g;rw[v,ka]at c;rw[A,kb]at g;simp only at c g;obtain⟨⟨c1,c2,c3⟩,c⟩:=c;obtain⟨e,g⟩:=g;rw[F]at e g;refine⟨s.h,.inl ⟨JU,?_⟩,.inl ⟨R s.h,?_⟩⟩
      ·unfold fm;rw[A,kb];simp only;exact⟨trivial,λh' z C q=>by rw[<-cj];exact g h' (λn S hn T=>z n S (c2 n S hn T) T) C q⟩
      ·rw[e];unfold fm;rw[v,ka];simp only;rw[J];exact⟨⟨c1,c2,c3⟩,λC q=>by rw[N];exact c C q⟩
     have hc:(cM oi=1\/cM oi=4)/\(cM oj=1\/cM oj=4\/cM oj=2\/cM oj=6):=by
      simp only[bh,Zo,TC,k0,k1,false_or,false_and]at p;rcases p with(p|p)|p
      ·refine⟨p.1,?_⟩;rcases p.2 with((h|h)|h)|h
       ·exact .inl h
       ·exact .inr (.inl h)
       ·exact .inr (.inr (.inl h))
       ·exact .inr (.inr (.inr h))
      ·exact absurd p k15
      ·exact absurd p ZS
     have q1:hi=s.h/\∀e(C:AV->U ao->Prop),C L (s.h++e)->k9 P oi (ev s) (s.h++e) C:=by
      unfold fm at c;rcases hc.1 with k|k
      ·rw[v,k]at c;exact⟨c.1,λe C q=>c.2 _ (j4.app _ _) C q⟩
      ·rw[v,k]at c;exact c
     have q2:∃e0,hj=s.h++e0:=by
      have M:=g;unfold fm at M;rcases hc.2 with k|k|k|k
      ·rw[A,k]at M;exact⟨[],by rw[M.1,F,q1.1,ZW]⟩
      ·rw[A,k]at M;exact⟨[],by rw[M.1,F,q1.1,ZW]⟩
      ·rw[A,k]at M;obtain⟨B,_,_,b,_⟩:=M;exact⟨[B],by rw[b,F,q1.1]⟩
      ·rw[A,k]at M;obtain⟨e0,b,_⟩:=M;exact⟨e0,by rw[b,F,q1.1]⟩
     obtain⟨e0,Jo⟩:=q2;refine⟨hj,u q1.1,.inl ⟨R hj,?_⟩⟩;have:∀e(C:AV->U ao->Prop),C L (hj++e)->k9 P oi (ev ((s.wh hj).put oj.dst E)) (hj++e) C:=λe C q=>by
      rw[N,Jo,ZU];rw[Jo,ZU]at q;exact q1.2 _ C q
     unfold fm;rw[J];rcases hc.1 with k|k
     ·rw[v,k];simp only;refine⟨trivial,λh' z C q=> ?_⟩;rw[N];unfold fm at c;rw[v,k]at c;exact c.2 h' (λn S hn T=>z n S (by rw[Jo];exact j4.app _ _ n S hn T) T) C q
     ·rw[v,k];exact⟨rfl,this⟩
  ·
   subst f1;rw[F]at f2;refine⟨s.h,.inr ⟨yz W g2,rfl,rfl⟩,?_⟩;rw[f2];exact Uk (ti s.h) (by rw[J]) (.inl ⟨g1,c⟩)
 ·
  subst e1;refine⟨hj,u e2,.inr ⟨yz (ti hj) g1,rfl,(J hj).symm⟩⟩
def tt(K:St->Prop):Prop:=∀s s',ky s s'->K s->K s'
def mB(m:Bool)(P:eG)(ops:Array Oper)(K:St->Prop):Nat->Array Bool->St->Prop
 |0,listed,s=>Region.ready .any ops listed=[]/\K s
 |b+1,listed,s=>(Region.ready .any ops listed=[]->K s)/\ ∀i∈Region.ready .any ops listed,∀o,ops[i]?=some o->∃x c,nY m P ops o s x c/\mB m P ops K b (listed.setIfInBounds i true) ((s.wh c).put o.dst x)
def XT{m:Bool}{K:St->Prop}(e:tt K):∀(b:Nat)(listed:Array Bool)(s s':St),ky s s'->mB m P ops K b listed s->mB m P ops K b listed s'
 |0,_,s,s',c,h=>⟨h.1,e s s' c h.2⟩
 |b+1,_,s,s',c,h=>⟨λk=>e s s' c (h.1 k),λi p o q=>by
  obtain⟨x,g,u,v⟩:=h.2 i p o q;exact⟨x,g,Uk (λd _=>(c.t d).symm) c.h.symm u,XT e b _ _ _ (c.put g o.dst x) v⟩⟩
def qQ(M:Array Nat)(ops:Array Oper):Bool:=
 (List.range ops.size).all λj=>(List.range ops.size).all λi=> !(M.getD j 0).testBit i||match ops[j]? with
  |some o=>o.after.any λe=>Region.binds .any e&&decide (e.on<j)&&(e.on==i||(M.getD e.on 0).testBit i)
  |none=>false
def Dn(ops:Array Oper)(listed:Array Bool):Prop:=∀(j:Nat)(o:Oper),ops[j]?=some o->listed.getD j false=true->∀e∈o.after,Region.binds .any e=true->listed.getD e.on false=true
def asL{M:Array Nat}(d:qQ M ops=true){listed:Array Bool}(z:Dn ops listed):∀(j i:Nat)(o:Oper),i<ops.size->ops[j]?=some o->(∀e∈o.after,Region.binds .any e=true->listed.getD e.on false=true)->(M.getD j 0).testBit i=true->listed.getD i false=true:=by
 intro j
 induction j using Nat.strongRecOn with
 |_ j A=>
  intro i o k g B E;unfold qQ at d;simp only[Zc,List.mem_range]at d;have c:=d j (ZP.1 g).1 i k;rw[E,g]at c;simp only[VX,c6]at c;rw[Array.any_eq_true']at c;obtain⟨e,F,p⟩:=c;simp only[Zo,UL,bh,TC]at p;obtain⟨⟨J,q⟩,b⟩:=p;have u:=B e F J;rcases b with b|b
  ·rw[<-b];exact u
  ·have v:e.on<ops.size:=Nat.lt_trans q (ZP.1 g).1;exact A e.on q i ops[e.on] k (ZI v) (z e.on _ (ZI v) u) b
def Dn.set{listed:Array Bool}(q:Dn ops listed){i:Nat}(u:i∈Region.ready .any ops listed):Dn ops (listed.setIfInBounds i true):=by
 intro j o b c e d g;refine getD_set_true ?_;by_cases k:i=j;{subst k;obtain⟨_,z,p,v⟩:=mem_ready.1 u;rw[b]at p;cases p;exact v e d g};{rw[getD_set_ne false k]at c;exact q j o b c e d g}
def JS{m:Bool}{K:St->Prop}(hK:tt K){M:Array Nat}(hM:qQ M ops=true){i:Nat}{p:Oper}{x:AV}{h1:U ao}(hi:ops[i]?=some p):
 ∀(b:Nat)(listed:Array Bool)(s:St),Dn ops listed->
  (∀j d,ops[j]?=some d->j≠i->listed.getD j true=false->(M.getD j 0).testBit i=false->p.apart ops d=true/\Ee m p d=true)->
  i∈Region.ready .any ops listed->nY m P ops p s x h1->mB m P ops K b (listed.setIfInBounds i true) ((s.wh h1).put p.dst x)->mB m P ops K (b+1) listed s:=by
 intro b
 induction b generalizing x h1 with
 |zero=>
  intro listed s _ _ e B H;refine⟨λh=>(by rw[h]at e;cases e),λj q o J=> ?_⟩;by_cases c:j=i;{subst c;rw[hi]at J;cases J;exact⟨x,h1,B,H⟩};{have:=ready_mono q c;rw[H.1]at this;cases this}
 |succ b ih=>
  intro listed s L u e B H;refine⟨λh=>(by rw[h]at e;cases e),λj q d g=> ?_⟩;by_cases c:j=i;{subst c;rw[hi]at g;cases g;exact⟨x,h1,B,H⟩}
  ·obtain⟨N,E,Sm,H2⟩:=H.2 j (ready_mono q c) d g;obtain⟨v,oj',z,gn⟩:=mem_ready.1 q;rw[g]at z;cases z;have F6:=(ZP.1 hi).1;have R:listed.getD i false=false:=by
    have S:=(mem_ready.1 e).1;rcases Nat.lt_or_ge i listed.size with h'|h'
    ·simpa [h']using S
    ·simp [Array.getElem?_eq_none h']at S
   have mc:(M.getD j 0).testBit i=false:=by
    cases hb:(M.getD j 0).testBit i with
    |false=>rfl
    |true=>rw[asL hM L j i d F6 g gn hb]at R;cases R
   obtain⟨T,jJ⟩:=u j d g c v mc;obtain⟨W,s1,s2⟩:=avm T jJ B Sm;obtain⟨_,a2,_⟩:=Oper.apart_spec T;refine⟨N,W,s1,ih (listed.setIfInBounds j true) _ (L.set q) (λk ok F DJ A vp=> ?_) (ready_mono e (Ne.symm c)) s2 ?_⟩
   ·refine u k ok F DJ ?_ vp;by_cases K6:j=k
    ·subst K6;exact v
    ·rw[getD_set_ne true K6]at A;exact A
   ·rw[Array.setIfInBounds_comm _ _ c];exact XT hK _ _ _ _ (an2 s h1 W E x N (λk F=>a2 k F)) H2
def XS(M:Array Nat)(ops:Array Oper)(k:Nat):Bool:=
 match ops[k]? with
 |none=>false
 |some b=>(List.range ops.size).all λj=>decide (j<=k)||(M.getD j 0).testBit k||match ops[j]? with
  |some c=>b.apart ops c&&Ee false b c
  |none=>true
def Fp(M:Array Nat)(ops:Array Oper):Nat->Nat->Array Bool->Bool
 |0,_,listed=>(Region.ready .any ops listed).isEmpty
 |b+1,k,listed=>(Region.ready .any ops listed).contains k&&XS M ops k&&Fp M ops b (k+1) (listed.setIfInBounds k true)
def tZ(ops:Array Oper):Bool:=qQ (Region.before ops) ops&&Fp (Region.before ops) ops ops.size 0 (Array.replicate ops.size false)
def ZX{K p:St->Prop}(z:tt p)(A:∀s,K s->p s){M:Array Nat}(B:qQ M ops=true):∀(l:U Oper)(k:Nat)(listed:Array Bool)(s:St),(∀j,l[j]?=ops[k+j]?)->(∀j,j<k->listed.getD j true=true)->Dn ops listed->
 Fp M ops l.length k listed=true->Fv P ops l K s->mB false P ops p l.length listed s
 |[],_,_,_,_,_,_,c,h=>⟨by simpa [Fp]using c,A _ h⟩
 |o::l,k,listed,s,E,F,J,c,h=>by
  have L:ops[k]?=some o:=by simpa using (E 0).symm
  simp only[Zp,Fp,Zo]at c;obtain⟨⟨S,d⟩,T⟩:=c;have N:k∈Region.ready .any ops listed:=by simpa using S
  have W:∀j,l[j]?=ops[k+1+j]?:=λj=>by have:=E (j+1);simpa [Nat.add_assoc,Nat.add_comm 1 j]using this
  have q:∀j,j<k+1->(listed.setIfInBounds k true).getD j true=true:=λj u=>by
   by_cases e:k=j
   ·subst e;rcases Nat.lt_or_ge k listed.size with h'|h'
    ·simp [h']
    ·have:(listed.setIfInBounds k true)[k]?=none:=Array.getElem?_eq_none (by simpa using h');rw[Array.getD_eq_getD_getElem?,this];rfl
   ·rw[getD_set_ne true e];exact F j k7
  obtain⟨x,b,hy,CS⟩:∃x b,nY false P ops o s x b/\Fv P ops l K ((s.wh b).put o.dst x):=by
   rcases J9 h with⟨g,v⟩|⟨g,v⟩
   ·obtain⟨x,b,h2,h3⟩:=ME v;exact⟨x,b,.inl ⟨g,h2⟩,h3⟩
   ·exact⟨_,s.h,.inr ⟨g,rfl,rfl⟩,v⟩
  refine JS z B L l.length listed s J (λj oj u cV R vp=> ?_) N hy (ZX z A B l (k+1) _ _ W q (J.set N) T CS);unfold XS at d;rw[L]at d;simp only[Zc,List.mem_range]at d;have:=d j (ZP.1 u).1;rw[vp,u]at this;simp only[Bool.or_false,bh,Zo,UL]at this;rcases this with this|this
  ·exfalso;have:=F j k7;rw[this]at R;cases R
  ·exact this
def E4(m:Bool)(M:Array Nat)(ops:Array Oper):U Nat->Array Bool->Bool
 |[],listed=>(Region.ready .any ops listed).isEmpty
 |k::l,listed=>(Region.ready .any ops listed).contains k&&(match ops[k]? with
  |none=>false
  |some b=>(List.range ops.size).all λj=>j==k||listed.getD j true||(M.getD j 0).testBit k||match ops[j]? with
   |some c=>b.apart ops c&&Ee m b c
   |none=>true)&&E4 m M ops l (listed.setIfInBounds k true)
def ED(m:Bool)(ops:Array Oper)(p:U Nat):Bool:=qQ (Region.before ops) ops&&E4 m (Region.before ops) ops p (Array.replicate ops.size false)
def vv(ops:Array Oper):U Nat->U Oper
 |[]=>[]
 |k::l=>match ops[k]? with
  |some o=>o::vv ops l
  |none=>vv ops l
def XQ{m:Bool}{K d:St->Prop}(v:tt d)(z:∀s,K s->d s){M:Array Nat}(A:qQ M ops=true):∀(l:U Nat)(listed:Array Bool)(s:St),Dn ops listed->
 E4 m M ops l listed=true->w6 m P ops (vv ops l) K s->mB m P ops d l.length listed s
 |[],_,_,_,c,h=>⟨by simpa [E4]using c,z _ h⟩
 |k::l,listed,s,B,c,h=>by
  simp only[E4,Zo]at c;obtain⟨⟨F,e⟩,J⟩:=c;have p:k∈Region.ready .any ops listed:=by simpa using F
  obtain⟨_,o,q,_⟩:=mem_ready.1 p;rw[q]at e;simp only[Zc,List.mem_range]at e;simp only[vv,q]at h;obtain⟨x,b,L,N⟩:∃x b,nY m P ops o s x b/\w6 m P ops (vv ops l) K ((s.wh b).put o.dst x):=by
   rcases J9 h with⟨g,u⟩|⟨g,u⟩
   ·obtain⟨x,b,R,S⟩:=ME u;exact⟨x,b,.inl ⟨g,R⟩,S⟩
   ·exact⟨_,s.h,.inr ⟨g,rfl,rfl⟩,u⟩
  refine JS v A q l.length listed s B (λj oj E T W vp=> ?_) p L (XQ v z A l _ _ (B.set p) J N);have:=e j (ZP.1 E).1;rw[vp,W,E]at this;simp only[Bool.or_false,bh,Zo,TC]at this;rcases this with this|this
  ·exact absurd this T
  ·exact this
end
section
variable {P:eG} {r:O Nat} {n N0:Nat} {G:Gh} {w:Zy} {a:Act} {s:St} {o:Oper} {Q:Exit->St->Prop}
def dk.drew(b:dk G w a s):cf G.N G w G {w with drawn:=w.drawn+1}/\dk G {w with drawn:=w.drawn+1} a s:=by
 have c:cf G.N G w G {w with drawn:=w.drawn+1}:=⟨Zx _,λ_ _ h=>h,λ_ _ _=>rfl,λ_ _=>rfl,λ_ _=>.inl ⟨rfl,rfl⟩,iJ rfl,λ_ _=>rfl,rfl,rfl,rfl,λ_ _ h=>.inl h⟩;have e:cp G {w with drawn:=w.drawn+1} s.h:=⟨b.inv.len,b.inv.z,b.inv.S,λn B d=>fj.keep (b.inv.lt d) c (Zx _) ⟨rfl,rfl,rfl⟩ (λ_ _=>⟨rfl,λ_ h=>h⟩) (b.inv.dN n B d),b.inv.inj,b.inv.gl.keep c⟩;exact⟨c,b.move c (Zx _) e⟩
def alv{m:Bool}{x:AV}{h1:U ao}(h:fm m P o (ev s) s.h x h1):k9 P o (ev s) s.h (λb h'=>(s.wh h').put o.dst b=(s.wh h1).put o.dst x):=XZ h _ rfl
def Ji{m:Bool}{ops:Array Oper}{K:St->Prop}{Q':Exit->Act->Zy->Prop}(A:∀a' w',kE N0 G w K a' w'->Q' .normal a' w'):∀(b:Nat)(listed:Array Bool)(G1:Gh)(e:Zy)(a:Act)(s:St),
 cf N0 G w G1 e->N0<=G1.N->dk G1 e a s->mB m P ops K b listed s->wpAnyIn (WF r) n P .any ops Q' b listed a e
 |0,_,G1,e,a,s,u,q,c,h=>⟨h.1,A _ _ ⟨G1,s,u,q,c,h.2⟩⟩
 |b+1,listed,G1,e,a,s,u,q,c,h=>by
  refine⟨λM=>A _ _ ⟨G1,s,u,q,c,h.1 M⟩,λi E=> ?_⟩;obtain⟨_,o,F,_⟩:=mem_ready.1 E;obtain⟨x,J,R,L⟩:=h.2 i E o F;unfold wpOpIn;rw[F];simp only;rcases R with⟨g,S⟩|⟨g,rfl,rfl⟩
  ·have z:=W8 c g;split at z
   ·rename_i B
    rw[ae B];refine Oper.wpIn_mono (λa' w' T=> ?_) ((alv S).elim (λk=>YB (K:=λs'=>s'=(s.wh J).put o.dst x) (r:=r) (n:=n) (N0:=N0) (Q:=Q') c q k) fun⟨_,W,x',h',p,k1,k2,k3⟩=>YA (K:=λs'=>s'=(s.wh J).put o.dst x) (r:=r) (n:=n) (N0:=N0) (Q:=Q') c q ⟨W,x',h',p,k1,k2,k3⟩);obtain⟨G2,s2,e2,n2,Aw,rfl⟩:=T;exact Ji A b _ G2 w' a' _ (u.trans e2) n2 Aw L
   ·exact z.elim
  ·have z:=W8 c g;split at z
   ·exact z.elim
   ·rename_i B
    rw[af B];exact⟨λ_ _=>trivial,Ji A b _ G1 e _ _ u q (c.put (.d (.v undef)) o.dst) L⟩
def OZ{id:Nat}{l:U Oper}(q:P.follows .mixedOrders=true)(d:tZ l.toArray=true)(h:Fv P l.toArray l (Q .normal) s):bM P r N0 (.region id l.toArray true) Q s:=by
 constructor
 intro G w a n u p;unfold tZ at d;rw[Zo]at d;obtain⟨v,z⟩:=u.drew;refine wpIn_region_any q ?_;have A:tt (λs=>∃s',ky s' s/\Q .normal s'):=λs s' e ⟨k,c,B⟩=>⟨k,c.trans e,B⟩;have:=ZX (K:=Q .normal) A (λs h=>⟨s,ky.refl s,h⟩) d.1 l 0 (Array.replicate l.toArray.size false) s gj (λj b=>absurd b (ZJ _)) (λj o N b=>by
  exfalso;rw[Array.getD_eq_getD_getElem?,Array.getElem?_replicate]at b;split at b<;>simp at b) (by simpa using d.2) h
 refine Ji (G:=G) (w:=w) (N0:=N0) (K:=λs=>∃s',ky s' s/\Q .normal s') (λR S E=> ?_) l.toArray.size _ G _ a s (v.less p) p z (by simpa using this);obtain⟨F,s',J,L,g,k,c,M⟩:=E;refine⟨F,k,J,L,⟨g.size.trans c.n.symm,λi=>by rw[c.t i];exact g.tmp i,by rw[c.h];exact g.inv,g.df⟩,M⟩
def XP{m:Bool}{id:Nat}{ops:Array Oper}(p:U Nat)(u:P.follows .mixedOrders=true)(v:p.length=ops.size)(c:ED m ops p=true)(h:w6 m P ops (vv ops p) (Q .normal) s):bM P r N0 (.region id ops true) Q s:=by
 constructor
 intro G w a n z q;unfold ED at c;rw[Zo]at c;obtain⟨A,B⟩:=z.drew;refine wpIn_region_any u ?_;have E:tt (λs=>∃s',ky s' s/\Q .normal s'):=λs s' e ⟨k,b,F⟩=>⟨k,b.trans e,F⟩;have:=XQ (K:=Q .normal) E (λs h=>⟨s,ky.refl s,h⟩) c.1 p (Array.replicate ops.size false) s (λj o S d=>by
  exfalso;rw[Array.getD_eq_getD_getElem?,Array.getElem?_replicate]at d;split at d<;>simp at d) c.2 h
 rw[v]at this;refine Ji (G:=G) (w:=w) (N0:=N0) (K:=λs=>∃s',ky s' s/\Q .normal s') (λT W J=> ?_) ops.size _ G _ a s (A.less q) q B this;obtain⟨L,s',M,N,g,k,b,R⟩:=J;refine⟨L,k,M,N,⟨g.size.trans b.n.symm,λi=>by rw[b.t i];exact g.tmp i,by rw[b.h];exact g.inv,g.df⟩,R⟩
end
def avA(c:Bool):AV->Bool
 | .d (.v (.bool b))=>b==c
 |_=>false
def gNo(c:Bool):AV->Bool
 | .d (.v (.bool b))=>b== !c
 | .d (.v (.tuple _))=>true
 |_=>false
def aq7(t:U (Nat×AV)):O Nat->AV
 |some d=>bE t d
 |none=>.dead
def w5(ops:Array Oper)(j:Nat)(t:U (Nat×AV)):AV:=aq7 t ((ops[j]?).bind (·.dst))
section
variable {P:eG} {ops:Array Oper} {dst:O Nat} {op:Op} {ty:TypeId} {pos:String} {after:Array Edge} {j:Nat} {w:Bool} {s:St} {rest:U Oper} {K:St->Prop} {y n:Prop}
def La:jO ops ⟨dst,op,ty,pos,after,some (j,w)⟩ s y n=(match w5 ops j s.t with
 | .d (.v (.bool b))=>(b=w->y)/\(b= !w->n)
 | .d (.v (.tuple _))=>n
 |_=>False):=by
 show(match (ops[j]?).bind (·.dst)with
  |some d=>match bE s.t d with
   | .d (.v (.bool b))=>(b=w->y)/\(b= !w->n)
   | .d (.v (.tuple _))=>n
   |_=>False
  |none=>False)=_
 unfold w5;cases (ops[j]?).bind (·.dst)<;>rfl
end
section
variable {P:eG} {r:O Nat} {n N0:Nat} {G:Gh} {w:Zy} {a:Act} {s:St} {o:Oper} {Q:Exit->St->Prop}
def bx{K:St->Prop}(h:K s):jG K Q .normal s:=h
def iK{K:St->Prop}{i:Nat}(h:Q (.exit i) s):jG K Q (.exit i) s:=h
def dd{K:St->Prop}(h:Q .ret s):jG K Q .ret s:=h
def hY{id:Nat}(h:Q .normal s):tV id Q .normal s:=h
def eI{id:Nat}(h:Q .ret s):tV id Q .ret s:=h
def nx{id i:Nat}(e:(i==id)=true)(h:Q .normal s):tV id Q (.exit i) s:=by simpa only[tV,e,Tj]using h
def atS{id i:Nat}(e:(i==id)=false)(h:Q (.exit i) s):tV id Q (.exit i) s:=by simpa only[tV,e,Tf]using h
def lI{c:Operand}{x y:Code}(b:ev s c= .d (.v (.bool true)))(h:bM P r N0 x Q s):bM P r N0 (.cond c x y) Q s:=TI b (λ_=>h) λh=>Bool.noConfusion h
def BE{c:Operand}{x y:Code}(h:bM P r N0 x Q s)(b:ev s c= .d (.v (.bool true)):=by kernel_rfl):bM P r N0 (.cond c x y) Q s:=lI b h
def lH{c:Operand}{x y:Code}(b:ev s c= .d (.v (.bool false)))(h:bM P r N0 y Q s):bM P r N0 (.cond c x y) Q s:=TI b (λh=>Bool.noConfusion h) λ_=>h
def Bo{c:Operand}{x y:Code}(h:bM P r N0 y Q s)(b:ev s c= .d (.v (.bool false)):=by kernel_rfl):bM P r N0 (.cond c x y) Q s:=lH b h
def abB{c:Operand}{x y:Code}{t:Bool}(b:ev s c= .d (.v (.bool t)))(e:t=true)(h:bM P r N0 x Q s):bM P r N0 (.cond c x y) Q s:=lI (by rw[b,e]) h
def AY{c:Operand}{x y:Code}{t:Bool}(e:t=true)(h:bM P r N0 x Q s)(b:ev s c= .d (.v (.bool t)):=by kernel_rfl):bM P r N0 (.cond c x y) Q s:=abB b e h
def ab6{c:Operand}{x y:Code}{t:Bool}(b:ev s c= .d (.v (.bool t)))(e:t=false)(h:bM P r N0 y Q s):bM P r N0 (.cond c x y) Q s:=lH (by rw[b,e]) h
def AX{c:Operand}{x y:Code}{t:Bool}(e:t=false)(h:bM P r N0 y Q s)(b:ev s c= .d (.v (.bool t)):=by kernel_rfl):bM P r N0 (.cond c x y) Q s:=ab6 b e h
def OW{c:Code}(k:Nat)(e:TypeId)(z:Nat)(xs:U (U D))(g:bE s.t k= .full xs\/(bE s.t k= .d (.v (.slice none 0 0))/\xs=[]))
 (h:bM P r N0 c Q ⟨s.n,(k,.own s.h.length xs)::s.t,s.h++[.front e z xs.length]⟩):bM P r N0 c Q s:=by
 constructor
 intro G w a n p E;have q:dR G.S w (a.tmps.getD k undef) (.sl xs)/\∃A,a.tmps.getD k undef= .slice A xs.length xs.length:=by
  have b:=p.tmp k;revert b;generalize a.tmps.getD k undef=u;intro b;rcases g with g|⟨g,rfl⟩
  ·rw[g]at b;cases b with|full _ q J=>exact⟨q,J⟩
  ·rw[g]at b;rw[b.val];exact⟨LB,none,rfl⟩
 obtain⟨B,F,L,M⟩:=Qi p.inv q.1 q.2 e z;have N:dk (G.jg (a.tmps.getD k undef) xs.length) w a ⟨s.n,(k,.own s.h.length xs)::s.t,s.h++[.front e z xs.length]⟩:=by
  refine⟨p.size,λi=> ?_,L,p.df.keep B⟩;show aM _ _ _ (bE ((k,.own s.h.length xs)::s.t) i);rw[mN];split;{next e=>exact e▸M};{exact(p.tmp i).keep B F}
 exact wpIn_mono (h.run _ w a n N (Ze E F)) λ_ _ _ R=>R.trans (B.less E)
end
def QZ{G:Gh}{w:Zy}{h:U ao}{b:Nat}{cs cw:U AV}(hi:cp G w h)(g:h[b]?=some (.cells cs))(A:cw.length=cs.length)
 (E:∀(d:Array oZ)(T:TypeId),w.heap[G.bn b]?=some (.cells d T (0,0))->∀(i:Nat)(u:oZ)(c:AV),d[i]?=some u->cw[i]?=some c->aM G w u c):cp G w (h.set b (ao.cells cw)):=by
 have q:∀n,cu (h.set b (ao.cells cw)) G n=cu h G n:=λn=>by
  have p:=(Zj.1 g).1;unfold cu;by_cases e:b=n;{subst e;rw[ZB p,g];rfl};{rw[Z7 e]}
 refine⟨by rw[Zf];exact hi.len,hi.z,hi.S,λn B k=> ?_,λm n x F J=>hi.inj m n x (by rw[<-q];exact F) (by rw[<-q];exact J),hi.gl⟩;have p:=(Zj.1 g).1;by_cases e:b=n
 ·subst e;rw[ZB p]at k;cases k
  obtain⟨L,M,d,T,v,N,_⟩:=hi.dN _ _ g;exact⟨L,M,d,T,v,N.trans A.symm,E d T v⟩
 ·rw[Z7 e]at k;exact hi.dN n B k
def E1{P:eG}{r:O Nat}{N0:Nat}{s:St}{Q:Exit->St->Prop}{c:Code}(b i:Nat)(e:TypeId)(E:Nat)(xs:U (U D)){cs:U AV}(F:s.h[b]?=some (.cells cs))(g:cs[i]?=some (.full xs)\/(cs[i]?=some (.d (.v (.slice none 0 0)))/\xs=[]))
 (h:bM P r N0 c Q ⟨s.n,s.t,(s.h++[ao.front e E xs.length]).set b (ao.cells (cs.set i (AV.own s.h.length xs)))⟩):bM P r N0 c Q s:=by
 constructor
 intro G w a n p W;obtain⟨h1,h2,k,T,h3,h4,J⟩:=p.inv.dN _ _ F;have hi:i<cs.length:=by rcases g with g|⟨g,_⟩<;>exact(Zj.1 g).1
 have L:k[i]?=some k[i]:=ZI k7;have q:dR G.S w k[i] (.sl xs)/\∃A,k[i]= .slice A xs.length xs.length:=by
  rcases g with g|⟨g,rfl⟩
  ·have:=J i _ _ L g;generalize k[i]=u at this;cases this with|full _ q hf=>exact⟨q,hf⟩
  ·have:=J i _ _ L g;rw[this.val];exact⟨LB,none,rfl⟩
 obtain⟨z,M,a3,a4⟩:=Qi p.inv q.1 q.2 e E;have a8:=(Zj.1 F).1;have cA:dk (G.jg k[i] xs.length) w a ⟨s.n,s.t,(s.h++[ao.front e E xs.length]).set b (ao.cells (cs.set i (AV.own s.h.length xs)))⟩:=by
  refine⟨p.size,λj=>(p.tmp j).keep z M,QZ a3 (by rw[ZT a8];exact F) (by rw[Zf]) λgM T' nZ j u c R B=> ?_,p.df.keep z⟩;have e1:(G.jg k[i] xs.length).bn b=G.bn b:=by
   have:b≠G.N:=by have:=p.inv.len;omega
   simp [Gh.jg]
  rw[e1,h3]at nZ;cases nZ
  by_cases e2:i=j
  ·subst e2;rw[ZB hi]at B;cases B
   rw[L]at R;cases R
   exact a4
  ·rw[Z7 e2]at B;exact(J j u c R B).keep z M
 exact wpIn_mono (h.run _ w a n cA (Ze W M)) λ_ _ _ hn=>hn.trans (z.less W)
def AV.Le(x y:AV):Prop:=∀(G:Gh)(w:Zy)(u:oZ),aM G w u x->aM G w u y
def AV.Le.refl(x:AV):AV.Le x x:=λ_ _ _ h=>h
set_option linter.unusedSimpArgs false
set_option linter.unusedVariables false
def rn:U Nat->Nat->Nat->Nat
 |[],b,i=>b+i
 |j::_,_,0=>j
 |_::l,b,i+1=>rn l b i
def Cb:∀(l:U Nat)(base i:Nat)(j:Nat),l[i]?=some j->rn l base i=j
 |[],_,i,j,h=>by simp at h
 |a::l,base,0,j,h=>by simpa [rn]using h
 |a::l,base,i+1,j,h=>by rw[rn];exact Cb l base i j (by simpa using h)
def Mz:∀(l:U Nat)(base i:Nat),l.length<=i->rn l base i=base+(i-l.length)
 |[],base,i,_=>by simp [rn]
 |a::l,base,0,h=>by simp at h
 |a::l,base,i+1,h=>by rw[rn,Mz l base i (by simpa using h)];simp
mutual
def AV.ba(σ:Nat->Nat):AV->AV
 | .ptr n off=>.ptr (σ n) off
 | .own n xs=>.own (σ n) xs
 | .row n off len cap k=>.row (σ n) off len cap k
 | .mp n=>.mp (σ n)
 | .cD n=>.cD (σ n)
 | .vec n o len L k=>.vec (σ n) o len L k
 | .dU n i j L k=>.dU (σ n) i j L k
 | .agg cs=>.agg (AV.ij σ cs)
 | .bw cs=>.bw (AV.ij σ cs)
 | .fn f cs=>.fn f (AV.ij σ cs)
 | .d x=>.d x
 | .bm xs i off=>.bm xs i off
 | .full xs=>.full xs
 | .hid c=>.hid c
 | .dead=>.dead
def AV.ij(σ:Nat->Nat):U AV->U AV
 |[]=>[]
 |x::l=>x.ba σ::AV.ij σ l
end
def iI(σ:Nat->Nat):∀l,AV.ij σ l=l.map (AV.ba σ)
 |[]=>by simp [AV.ij]
 |x::l=>by simp [AV.ij,iI σ l]
def ao.ba(σ:Nat->Nat):ao->ao
 | .cells c=>.cells (AV.ij σ c)
 | .lp g p as bd c=>.lp g p as bd (AV.ij σ c)
 | .it q c=>.it q (AV.ij σ c)
 | .gu T c=>.gu T (AV.ij σ c)
 | .vec e k c=>.vec e k (c.map (AV.ij σ))
 | .front e k len=>.front e k len
 | .jC e b=>.jC e b
 | .map d=>.map d
 | .l7 d=>.l7 d
 | .gone=>.gone
def iX:U Nat->U ao->U ao->U ao
 |[],b,h=>h++b
 |_::_,[],h=>h
 |i::l,B::b,h=>iX l b (h.set i B)
structure s7(σ:Nat->Nat)(G G2:Gh):Prop where
 lt:∀n,n<G.N->σ n<G2.N
 bn:∀n,n<G.N->G2.bn (σ n)=G.bn n
 sg:∀n,n<G.N->G2.sg (σ n)=G.sg n
 fl:∀n,n<G.N->G2.fl (σ n)=G.fl n
 ow:∀n,n<G.N->G2.ow (σ n)=G.ow n
 S:∀b o,G2.S b o↔G.S b o
def dR.xh{S S':Nat->Nat->Prop}{w:Zy}(c:∀b o,S b o->S' b o){u:oZ}{x:D}(h:dR S w u x):dR S' w u x:=h.keep c (λ_ _ _=>rfl)
def aM.ba{σ:Nat->Nat}{G G2:Gh}{w:Zy}(e:s7 σ G G2){u:oZ}{x:AV}(h:aM G w u x):aM G2 w u (x.ba σ):=by
 have B:∀b o,G.S b o->G2.S b o:=λb o h=>(e.S b o).2 h;have M:∀(g:Array oZ)(q:U AV),(∀(i:Nat)(u:oZ)(c:AV),g[i]?=some u->q[i]?=some c->aM G2 w u (c.ba σ))->∀(i:Nat)(u:oZ)(c:AV),g[i]?=some u->(AV.ij σ q)[i]?=some c->aM G2 w u c:=by
  intro g q v i u c N E;rw[iI,Zm]at E;cases F:q[i]? with
  |none=>rw[F]at E;cases E
  |some x=>rw[F]at E;cases E;exact v i u x N F
 induction h with
 |agg g q z _ v=>rw[AV.ba];exact .agg g _ (by rw[iI,Zw];exact z) (M g q v)
 |bw g q z _ v=>rw[AV.ba];exact .bw g _ (by rw[iI,Zw];exact z) (M g q v)
 |fn f g q z _ v=>rw[AV.ba];exact .fn f g _ (by rw[iI,Zw];exact z) (M g q v)
 |d h=>rw[AV.ba];exact .d (h.xh B)
 |full J R A=>rw[AV.ba];exact .full J (R.xh B) A
 |ptr n p h=>rw[AV.ba,<-e.bn n h];exact .ptr _ p (e.lt n h)
 |row n p len cap k h z hm=>rw[AV.ba,<-e.bn n h];exact .row _ p len cap k (e.lt n h) z hm
 |mp n h=>rw[AV.ba,<-e.bn n h];exact .mp _ (e.lt n h)
 |cD n h=>rw[AV.ba,<-e.bn n h];exact .cD _ (e.lt n h)
 |own n J h R T A=>rw[AV.ba];exact .own _ J (e.lt n h) (R.xh B) (by rw[e.fl n h];exact T) (by rw[e.fl n h,e.sg n h];exact A)
 |vec n o len L k h W hL A=>rw[AV.ba];exact .vec _ o len L k (e.lt n h) W (by rw[e.fl n h];exact hL) (by rw[e.fl n h,e.sg n h];exact A)
 |dU n i j L k h W hL A=>rw[AV.ba];exact .dU _ i j L k (e.lt n h) W (by rw[e.fl n h];exact hL) (by rw[e.fl n h,e.sg n h];exact A)
 |bm J i p b o u x F tW N=>rw[AV.ba];exact .bm J i p b o u x F (λj hj=>⟨B _ _ (tW j hj).1,(tW j hj).2⟩) (λj d hd=>(N j d hd).xh B)
 |hid h h1=>rw[AV.ba];exact .hid (h.keep B (λ_ _ _=>rfl)) h1
 |dead u=>rw[AV.ba];exact .dead u
def aM.uG{σ:Nat->Nat}{G G2:Gh}{w:Zy}(A:s7 σ G G2){u:oZ}{y:AV}(h:aM G2 w u y):∀x:AV,x.ba σ=y->x.aN G.N=true->aM G w u x:=by
 have T:∀b o,G2.S b o->G.S b o:=λb o h=>(A.S b o).1 h;have lt:∀n,(!cF G.N n)=true->n<G.N:=λn h=>by rw[UC,<-Uj,dT]at h;omega
 have fY:∀(B:Array oZ)(F z:U AV),(∀(i:Nat)(u:oZ)(c:AV),B[i]?=some u->F[i]?=some c->∀x:AV,x.ba σ=c->x.aN G.N=true->aM G w u x)->AV.ij σ z=F->AV.lN G.N z=true->∀(i:Nat)(u:oZ)(c:AV),B[i]?=some u->z[i]?=some c->aM G w u c:=by
  intro B F z M e p i u c hu hc;subst e;rw[ox,Zc]at p;exact M i u (c.ba σ) hu (by rw[iI,Zm,hc];rfl) c rfl (p c (ZZ hc))
 induction h with
 |agg B F R _ M=>
  intro x e p;cases x<;>simp only[AV.ba,AV.agg.injEq,reduceCtorEq]at e
  next z=>
   rw[AV.aN]at p;exact .agg B z (by rw[R,<-e,iI,Zw]) (fY B F z M e p)
 |bw B F R _ M=>
  intro x e p;cases x<;>simp only[AV.ba,AV.bw.injEq,reduceCtorEq]at e
  next z=>
   rw[AV.aN]at p;exact .bw B z (by rw[R,<-e,iI,Zw]) (fY B F z M e p)
 |fn f B F R _ M=>
  intro x e p;cases x<;>simp only[AV.ba,AV.fn.injEq,reduceCtorEq]at e
  next g z=>
   obtain⟨rfl,e⟩:=e;rw[AV.aN]at p;exact .fn _ B z (by rw[R,<-e,iI,Zw]) (fY B F z M e p)
 |d h=>
  intro x e p;cases x<;>simp only[AV.ba,AV.d.injEq,reduceCtorEq]at e
  next y=>subst e;exact .d (h.xh T)
 |full z hp E=>
  intro x e p;cases x<;>simp only[AV.ba,AV.full.injEq,reduceCtorEq]at e
  next y=>subst e;exact .full y (hp.xh T) E
 |ptr n W h=>
  intro x e p;cases x<;>simp only[AV.ba,AV.ptr.injEq,reduceCtorEq]at e
  next m o=>
   obtain⟨J,rfl⟩:=e;rw[AV.aN]at p;have v:=lt _ p;rw[<-J,A.bn _ v];exact .ptr _ _ v
 |row n W len cap k h R kF=>
  intro x e p;cases x<;>simp only[AV.ba,AV.row.injEq,reduceCtorEq]at e
  next m o l c q=>
   obtain⟨J,rfl,rfl,rfl,rfl⟩:=e;rw[AV.aN]at p;have v:=lt _ p;rw[<-J,A.bn _ v];exact .row _ _ _ _ _ v R kF
 |mp n h=>
  intro x e p;cases x<;>simp only[AV.ba,AV.mp.injEq,reduceCtorEq]at e
  next m=>
   rw[AV.aN]at p;have v:=lt _ p;rw[<-e,A.bn _ v];exact .mp _ v
 |cD n h=>
  intro x e p;cases x<;>simp only[AV.ba,AV.cD.injEq,reduceCtorEq]at e
  next m=>
   rw[AV.aN]at p;have v:=lt _ p;rw[<-e,A.bn _ v];exact .cD _ v
 |own n z h hp hle E=>
  intro x e p;cases x<;>simp only[AV.ba,AV.own.injEq,reduceCtorEq]at e
  next m l=>
   obtain⟨J,rfl⟩:=e;rw[AV.aN]at p;have v:=lt _ p;rw[<-J]at hle E;exact .own _ _ v (hp.xh T) (by rw[<-A.fl _ v];exact hle) (by rw[<-A.fl _ v,<-A.sg _ v];exact E)
 |vec n o len L k h hs hL E=>
  intro x e p;cases x<;>simp only[AV.ba,AV.vec.injEq,reduceCtorEq]at e
  next m a1 a2 a3 a4=>
   obtain⟨J,rfl,rfl,rfl,rfl⟩:=e;rw[AV.aN]at p;have v:=lt _ p;rw[<-J]at hL E;exact .vec _ _ _ _ _ v hs (by rw[<-A.fl _ v];exact hL) (by rw[<-A.fl _ v,<-A.sg _ v];exact E)
 |dU n i j L k h hs hL E=>
  intro x e p;cases x<;>simp only[AV.ba,AV.dU.injEq,reduceCtorEq]at e
  next m a1 a2 a3 a4=>
   obtain⟨J,rfl,rfl,rfl,rfl⟩:=e;rw[AV.aN]at p;have v:=lt _ p;rw[<-J]at hL E;exact .dU _ _ _ _ _ v hs (by rw[<-A.fl _ v];exact hL) (by rw[<-A.fl _ v,<-A.sg _ v];exact E)
 |bm z i W b o u y hx tW hu=>
  intro x e p;cases x<;>simp only[AV.ba,AV.bm.injEq,reduceCtorEq]at e
  next a1 a2 a3=>
   obtain⟨rfl,rfl,rfl⟩:=e;exact .bm _ _ _ b o u y hx (λj hj=>⟨T _ _ (tW j hj).1,(tW j hj).2⟩) (λj d hd=>(hu j d hd).xh T)
 |hid h h1=>
  intro x e p;cases x<;>simp only[AV.ba,AV.hid.injEq,reduceCtorEq]at e
  next c=>subst e;exact .hid (h.keep T (λ_ _ _=>rfl)) h1
 |dead u=>
  intro x e p;cases x<;>simp only[AV.ba,reduceCtorEq]at e
  exact .dead u
def RN{σ:Nat->Nat}{G b:Gh}(c:s7 σ G b){n:Nat}(d:n<G.N)(B:ao):(B.ba σ).fv b (σ n)=B.fv G n:=by
 cases B<;>simp only[ao.ba,ao.fv,c.bn n d,c.ow n d]
def fj.ba{σ:Nat->Nat}{G G2:Gh}{w:Zy}(d:s7 σ G G2){n:Nat}(q:n<G.N){B:ao}(hz:∀b,B.fv G n=some b->¬G2.Z b)(h:fj G w n B):fj G2 w (σ n) (B.ba σ):=by
 have hS:∀b o,¬G.S b o->¬G2.S b o:=λb o h v=>h ((d.S b o).1 v);cases B with
 |gone=>trivial
 |cells cs=>
  obtain⟨R,v,vs,T,F,L,M⟩:=h;rw[ao.ba];refine⟨by rw[d.bn n q];exact hz _ rfl,by rw[d.bn n q];exact λo=>hS _ _ (v o),vs,T,by rw[d.bn n q];exact F,by rw[iI,Zw];exact L,λi u c hu E=> ?_⟩;rw[iI,Zm]at E;cases J:cs[i]? with
  |none=>rw[J]at E;cases E
  |some x=>rw[J]at E;cases E;exact(M i u x hu J).ba d
 |lp ls p as bd cs=>
  obtain⟨R,v,fn,vs,T,F,L,M⟩:=h;rw[ao.ba];refine⟨by rw[d.bn n q];exact hz _ rfl,by rw[d.bn n q];exact λo=>hS _ _ (v o),fn,vs,T,by rw[d.bn n q];exact F,by rw[iI,Zw];exact L,λi u c hu E=> ?_⟩;rw[iI,Zm]at E;cases J:cs[i]? with
  |none=>rw[J]at E;cases E
  |some x=>rw[J]at E;cases E;exact(M i u x hu J).ba d
 |it sn cs=>
  obtain⟨R,v,fn,vs,T,F,L,M⟩:=h;rw[ao.ba];refine⟨by rw[d.bn n q];exact hz _ rfl,by rw[d.bn n q];exact λo=>hS _ _ (v o),fn,vs,T,by rw[d.bn n q];exact F,by rw[iI,Zw];exact L,λi u c hu E=> ?_⟩;rw[iI,Zm]at E;cases J:cs[i]? with
  |none=>rw[J]at E;cases E
  |some x=>rw[J]at E;cases E;exact(M i u x hu J).ba d
 |gu T0 cs=>
  obtain⟨R,v,fn,vs,T,F,L,M⟩:=h;rw[ao.ba];refine⟨by rw[d.bn n q];exact hz _ rfl,by rw[d.bn n q];exact λo=>hS _ _ (v o),fn,vs,T,by rw[d.bn n q];exact F,by rw[iI,Zw,d.bn n q];exact L,λi u c hu E=> ?_⟩;rw[iI,Zm]at E;cases J:cs[i]? with
  |none=>rw[J]at E;cases E
  |some x=>rw[J]at E;cases E;exact(M i u x hu J).ba d
 |map kv=>
  obtain⟨R,v,es,c,F,L⟩:=h;exact⟨by rw[d.bn n q];exact hz _ rfl,by rw[d.bn n q];exact λo=>hS _ _ (v o),es,c,by rw[d.bn n q];exact F,L.keep (λb o h=>(d.S b o).2 h) (λ_ _ _=>rfl)⟩
 |l7 kv=>
  obtain⟨R,v,es,c,F,L⟩:=h;exact⟨by rw[d.bn n q];exact hz _ rfl,by rw[d.bn n q];exact λo=>hS _ _ (v o),es,c,by rw[d.bn n q];exact F,L.keep (λb o h=>(d.S b o).2 h) (λ_ _ _=>rfl)⟩
 |jC e b=>
  obtain⟨R,hm,v⟩:=h;refine⟨(d.fl n q).trans R,hm,?_⟩;rcases v with⟨v,h0,A,F⟩|⟨g,cap,W,v,F,L,M,h6,h7,h8,h9,bu⟩
  ·exact .inl ⟨(d.ow n q).trans v,h0,A,(d.sg n q).trans F⟩
  ·exact .inr ⟨g,cap,W,(d.ow n q).trans v,(d.sg n q).trans F,hz g v,M,h6,h7,h8,λo=>hS _ _ (h9 o),bu⟩
 |front e k len=>
  obtain⟨R,hm,v⟩:=h;refine⟨(d.fl n q).trans R,hm,?_⟩;rcases v with⟨v,A,F⟩|⟨g,cap,W,v,F,L,M,h6,h7,h8,h9⟩
  ·exact .inl ⟨(d.ow n q).trans v,A,(d.sg n q).trans F⟩
  ·exact .inr ⟨g,cap,W,(d.ow n q).trans v,(d.sg n q).trans F,hz g v,M,h6,h7,h8,λo ho=>hS _ _ (h9 o ho)⟩
 |vec e k cs=>
  obtain⟨R,hm,hk,v⟩:=h;rw[ao.ba];refine⟨by rw[Zw];exact(d.fl n q).trans R,by rw[Zw];exact hm,λc E=> ?_,?_⟩;{obtain⟨x,J,rfl⟩:=UZ.1 E;rw[iI,Zw];exact hk x J}
  ·rcases v with⟨v,e2,A,F⟩|⟨g,cap,W,v,F,L,M,h6,h7,h8,h9,bu⟩
   ·exact .inl ⟨(d.ow n q).trans v,by rw[e2];rfl,A,(d.sg n q).trans F⟩
   ·refine .inr ⟨g,cap,W,(d.ow n q).trans v,by rw[Zw];exact(d.sg n q).trans F,hz g v,M,by rw[Zw];exact h6,h7,h8,λo=>hS _ _ (h9 o),λi j c x u E J hu=> ?_⟩;rw[Zm]at E;cases hy:cs[i]? with
    |none=>rw[hy]at E;cases E
    |some y=>
     rw[hy]at E;cases E
     rw[iI,Zm]at J;cases hw:y[j]? with
     |none=>rw[hw]at J;cases J
     |some z=>rw[hw]at J;cases J;exact(bu i j y z u hy hw hu).ba d
def fj.uG{σ:Nat->Nat}{G G2:Gh}{w:Zy}(v:s7 σ G G2){n:Nat}(F:n<G.N){B:ao}(R:B.aN G.N=true)(W:∀b,B.fv G n=some b->¬G.Z b)(h:fj G2 w (σ n) (B.ba σ)):fj G w n B:=by
 have hS:∀b o,¬G2.S b o->¬G.S b o:=λb o h d=>h ((v.S b o).2 d);cases B with
 |gone=>trivial
 |cells cs=>
  rw[ao.ba]at h;obtain⟨J,d,vs,T,q,z,L⟩:=h;rw[v.bn n F]at d q;rw[iI,Zw]at z;simp only[ao.aN,Zc]at R;exact⟨W _ rfl,λo=>hS _ _ (d o),vs,T,q,z,λi u c hu E=>aM.uG v (L i u (c.ba σ) hu (by rw[iI,Zm,E];rfl)) c rfl (R c (ZZ E))⟩
 |lp ls p as bd cs=>
  rw[ao.ba]at h;obtain⟨J,d,fn,vs,T,q,z,L⟩:=h;rw[v.bn n F]at d q;rw[iI,Zw]at z;simp only[ao.aN,Zc]at R;exact⟨W _ rfl,λo=>hS _ _ (d o),fn,vs,T,q,z,λi u c hu E=>aM.uG v (L i u (c.ba σ) hu (by rw[iI,Zm,E];rfl)) c rfl (R c (ZZ E))⟩
 |it sn cs=>
  rw[ao.ba]at h;obtain⟨J,d,fn,vs,T,q,z,L⟩:=h;rw[v.bn n F]at d q;rw[iI,Zw]at z;simp only[ao.aN,Zc]at R;exact⟨W _ rfl,λo=>hS _ _ (d o),fn,vs,T,q,z,λi u c hu E=>aM.uG v (L i u (c.ba σ) hu (by rw[iI,Zm,E];rfl)) c rfl (R c (ZZ E))⟩
 |gu T0 cs=>
  rw[ao.ba]at h;obtain⟨J,d,fn,vs,T,q,z,L⟩:=h;rw[v.bn n F]at d q z;rw[iI,Zw]at z;simp only[ao.aN,Zc]at R;exact⟨W _ rfl,λo=>hS _ _ (d o),fn,vs,T,q,z,λi u c hu E=>aM.uG v (L i u (c.ba σ) hu (by rw[iI,Zm,E];rfl)) c rfl (R c (ZZ E))⟩
 |map kv=>
  obtain⟨J,d,es,c,q,z⟩:=h;rw[v.bn n F]at d q;exact⟨W _ rfl,λo=>hS _ _ (d o),es,c,q,z.keep (λb o h=>(v.S b o).1 h) (λ_ _ _=>rfl)⟩
 |l7 kv=>
  obtain⟨J,d,es,c,q,z⟩:=h;rw[v.bn n F]at d q;exact⟨W _ rfl,λo=>hS _ _ (d o),es,c,q,z.keep (λb o h=>(v.S b o).1 h) (λ_ _ _=>rfl)⟩
 |jC e b=>
  obtain⟨J,hm,d⟩:=h;rw[v.fl n F]at J;rw[v.ow n F,v.sg n F]at d;refine⟨J,hm,?_⟩;rcases d with⟨d,h0,A,q⟩|⟨g,cap,M,d,q,z,L,h6,h7,h8,h9,bu⟩
  ·exact .inl ⟨d,h0,A,q⟩
  ·exact .inr ⟨g,cap,M,d,q,W g d,L,h6,h7,h8,λo=>hS _ _ (h9 o),bu⟩
 |front e k len=>
  obtain⟨J,hm,d⟩:=h;rw[v.fl n F]at J;rw[v.ow n F,v.sg n F]at d;refine⟨J,hm,?_⟩;rcases d with⟨d,A,q⟩|⟨g,cap,M,d,q,z,L,h6,h7,h8,h9⟩
  ·exact .inl ⟨d,A,q⟩
  ·exact .inr ⟨g,cap,M,d,q,W g d,L,h6,h7,h8,λo ho=>hS _ _ (h9 o ho)⟩
 |vec e k cs=>
  rw[ao.ba]at h;obtain⟨J,hm,hk,d⟩:=h;rw[v.fl n F,Zw]at J;rw[Zw]at hm;rw[v.ow n F,v.sg n F,Zw]at d;simp only[ao.aN,Zc]at R;refine⟨J,hm,λc E=> ?_,?_⟩
  ·have:=hk _ (UZ.2 ⟨c,E,rfl⟩)
   rwa [iI,Zw]at this
  ·rcases d with⟨d,e2,A,q⟩|⟨g,cap,M,d,q,z,L,h6,h7,h8,h9,bu⟩
   ·exact .inl ⟨d,List.map_eq_nil_iff.1 e2,A,q⟩
   ·refine .inr ⟨g,cap,M,d,q,W g d,L,h6,h7,h8,λo=>hS _ _ (h9 o),λi j c x u E hx hu=> ?_⟩;exact aM.uG v (bu i j (AV.ij σ c) (x.ba σ) u (by rw[Zm,E];rfl) (by rw[iI,Zm,hx];rfl) hu) x rfl (R c (ZZ E) x (ZZ hx))
def XO:∀(l:U Nat)(Bs h:U ao),l.length<=Bs.length->(iX l Bs h).length=h.length+(Bs.length-l.length)
 |[],Bs,h,_=>by simp [iX]
 |j::l,[],h,b=>by simp at b
 |j::l,B::Bs,h,b=>by rw[iX,XO l Bs _ (by simpa using b),Zf];simp
def TW:∀(l:U Nat)(Bs h:U ao)(n:Nat),l.length<=Bs.length->n<h.length->n ∉ l->(iX l Bs h)[n]?=h[n]?
 |[],Bs,h,n,_,b,_=>by rw[iX,ZT b]
 |j::l,[],h,n,c,_,_=>by simp at c
 |j::l,B::Bs,h,n,c,b,d=>by
  simp only[Za,not_or]at d;rw[iX,TW l Bs _ n (by simpa using c) (by rw[Zf];exact b) d.2,Z7 (Ne.symm d.1)]
def XM:∀(l:U Nat)(Bs h:U ao)(i:Nat),l.length<=Bs.length->l.Nodup->(∀j∈l,j<h.length)->i<Bs.length->(iX l Bs h)[rn l h.length i]?=Bs[i]?
 |[],Bs,h,i,_,_,_,e=>by rw[iX,rn,ZK (Yp _ _),Nat.add_sub_cancel_left]
 |j::l,[],h,i,b,_,_,_=>by simp at b
 |j::l,B::Bs,h,0,b,c,d,_=>by
  rw[List.nodup_cons]at c;rw[iX,rn,TW l Bs _ j (by simpa using b) (by rw[Zf];exact d j gj) c.1,ZB (d j gj)];rfl
 |j::l,B::Bs,h,i+1,b,c,d,e=>by
  rw[List.nodup_cons]at c;have:=XM l Bs (h.set j B) i (by simpa using b) c.2 (λx g=>by rw[Zf];exact d x (by simp [g])) (by simpa using e);rw[Zf]at this;rw[iX,rn,this];simp
def zJ(l:U Nat)(base n:Nat):O Nat:=if n∈l then some (l.idxOf n)else if base<=n then some (l.length+(n-base))else none
def Tw{l:U Nat}{base:Nat}(c:l.Nodup)(d:∀j∈l,j<base)(i:Nat):zJ l base (rn l base i)=some i:=by
 unfold zJ;by_cases b:i<l.length;{have e:l[i]?=some l[i]:=Zd b;rw[Cb l base i _ e,ae (List.getElem_mem _),List.Nodup.idxOf_getElem c i b]}
 ·rw[Mz l base i k7,af (λh=>by have:=d _ h;omega),ae (Yp _ _)]
  congr 1;omega
def SY{l:U Nat}{base n i:Nat}(h:zJ l base n=some i):rn l base i=n:=by
 unfold zJ at h;split at h
 ·rename_i b
  cases h
  have c:=List.idxOf_lt_length_of_mem b;refine Cb l base _ n ?_;rw[Zd c,List.getElem_idxOf]
 ·split at h
  ·cases h
   rw[Mz _ _ _ k7];omega
  ·cases h
def ajg{l:U Nat}{base n:Nat}(h:zJ l base n=none):n<base/\n ∉ l:=by
 unfold zJ at h;split at h;{cases h}
 ·split at h
  ·cases h
  ·rename_i b c;exact⟨by omega,b⟩
def vy{α:Type}(o:O Nat)(f:Nat->α)(d:α):α:=match o with|some i=>f i|none=>d
def YV{H:U ao}{l:U Nat}{h:U ao}
 (hd:l.Nodup) (a8:∀j∈l,j<h.length) (hH:∀(i j:Nat),l[i]?=some j->h[j]?=(H[i]?).map (ao.ba (rn l h.length))) (hk:l.length=H.length)
 (hb:H.all (ao.aN H.length)=true) {G:Gh} {w:Zy} (hi:cp G w h):
 ∃G0:Gh,G0.N=H.length/\cp G0 w H/\s7 (rn l h.length) G0 G/\∀(G1:Gh)(w':Zy)(H':U ao),cf H.length G0 w G1 w'->H.length<=G1.N->cp G1 w' H'->
  ∃G2:Gh,cf G.N G w G2 w'/\G.N<=G2.N/\cp G2 w' (iX l (H'.map (ao.ba (rn l h.length))) h)/\s7 (rn l h.length) G1 G2:=by
 obtain⟨σ,L⟩:∃σ,σ=rn l h.length:=⟨_,rfl⟩;rw[<-L]at hH ⊢;have O6:h.length=G.N:=hi.len;obtain⟨own,fg⟩:∃own:Nat->Prop,own=λb=>∃j∈l,cu h G j=some b:=⟨_,rfl⟩;obtain⟨G0,u⟩:∃G0:Gh,G0={N:=H.length,Z:=λb=>b<w.heap.size/\¬own b,S:=G.S,bn:=λi=>G.bn (σ i),sg:=λi=>G.sg (σ i),ow:=λi=>G.ow (σ i),fl:=λi=>G.fl (σ i),M:=G.M}:=⟨_,rfl⟩;have JW:∀i,i<H.length->∃j,l[i]?=some j/\σ i=j/\j∈l:=λi v=>by
  have jT:i<l.length:=by rw[hk];exact v
  exact⟨l[i],Zd jT,by rw[L];exact Cb l _ i _ (Zd jT),List.getElem_mem _⟩
 have qf:s7 σ G0 G:=by
  subst u;refine⟨λn F=> ?_,λ_ _=>rfl,λ_ _=>rfl,λ_ _=>rfl,λ_ _=>rfl,λ_ _=>Iff.rfl⟩;obtain⟨j,_,e,hj⟩:=JW n F;rw[e,<-O6];exact a8 j hj
 have cW:G0.N=H.length:=by rw[u]
 have hσH:∀(i:Nat)(B:ao),H[i]?=some B->h[σ i]?=some (B.ba σ):=λi B c=>by
  obtain⟨j,e1,e2,_⟩:=JW i (Zj.1 c).1;rw[e2,hH i j e1,c];rfl
 have Rn:∀(i:Nat)(B:ao)(b:Nat),H[i]?=some B->B.fv G0 i=some b->cu h G (σ i)=some b:=λi B b c p=>by
  rw[eN (hσH i B c),RN qf (by rw[cW];exact(Zj.1 c).1) B];exact p
 have Az:∀(i:Nat)(B:ao)(b:Nat),H[i]?=some B->B.fv G0 i=some b->¬G0.Z b:=λi B b c p d=>by
  rw[u]at d;refine d.2 ?_;rw[fg];obtain⟨j,_,e2,hj⟩:=JW i (Zj.1 c).1;exact⟨j,hj,by rw[<-e2];exact Rn i B b c p⟩
 have as9:∀i i',σ i=σ i'->i=i':=λi i' e=>by
  have g:=Tw hd a8 i;have T:=Tw hd a8 i';rw[L]at e;rw[e,T]at g;exact(Zl g).symm
 have uJ:cp G0 w H:=by
  refine⟨cW.symm,λb d=> ?_,λb o q=> ?_,λi B c=> ?_,λm n b g T=> ?_,by rw[u];exact hi.gl⟩;{rw[u]at d;exact d.1};{rw[u]at q;exact hi.S b o q}
  ·have hiN:i<G0.N:=by rw[cW];exact(Zj.1 c).1
   rw[Zc]at hb;exact fj.uG qf hiN (by rw[cW];exact hb B (ZZ c)) (λb p=>Az i B b c p) (hi.dN (σ i) _ (hσH i B c))
  ·obtain⟨B1,um,jq⟩:=nv g;obtain⟨B2,TM,lK⟩:=nv T;exact as9 m n (hi.inj _ _ b (Rn m B1 b um jq) (Rn n B2 b TM lK))
 refine⟨G0,cW,uJ,qf,λG1 w' H' A iv lk=> ?_⟩;have JA:H'.length=G1.N:=lk.len;obtain⟨ps,Ic⟩:∃ps,ps=zJ l h.length:=⟨_,rfl⟩;obtain⟨G2,k⟩:∃G2:Gh,G2={N:=G.N+(G1.N-H.length),Z:=G.Z,S:=G1.S,bn:=λn=>vy (ps n) G1.bn (G.bn n),sg:=λn=>vy (ps n) G1.sg (G.sg n),ow:=λn=>vy (ps n) G1.ow (G.ow n),fl:=λn=>vy (ps n) G1.fl (G.fl n),M:=G.M}:=⟨_,rfl⟩;have MC:∀i,ps (σ i)=some i:=λi=>by rw[Ic,L];exact Tw hd a8 i
 have Kb:∀i,H.length<=i->σ i=G.N+(i-H.length):=λi lf=>by rw[L,Mz l _ i k7,O6,hk]
 have arU:∀i,i<H.length->σ i<G.N:=λi Pb=>by
  obtain⟨j,_,e,hj⟩:=JW i Pb;rw[e,<-O6];exact a8 j hj
 have Qs:s7 σ G1 G2:=by
  subst k;refine⟨λn F=> ?_,λn _=>by simp only[MC];rfl,λn _=>by simp only[MC];rfl,λn _=>by simp only[MC];rfl,λn _=>by simp only[MC];rfl,λ_ _=>Iff.rfl⟩;show σ n<G.N+(G1.N-H.length);by_cases gJ:n<H.length;{have:=arU n gJ;omega};{rw[Kb n k7];omega}
 have hZ1:∀b,G0.Z b->G1.Z b:=A.Z.1.1;have Qz:∀b,G.Z b->G0.Z b:=λb d=>by
  rw[u];refine⟨hi.z b d,λR=> ?_⟩;rw[fg]at R;obtain⟨j,_,R⟩:=R;obtain⟨B,c,p⟩:=nv R;exact(hi.dN j B c).mD p d
 have mh:cf G.N G w G2 w':=by
  refine⟨A.size,λb o q=> ?_,λb o q=> ?_,λn F=> ?_,λn F=> ?_,iJ (by rw[k]) (by rw[k]),λb d=>A.old b (Qz b d),A.os,A.tape,A.output,λb o q=> ?_⟩;{rw[k];exact A.S b o (by rw[u];exact q)};{exact A.cell b o (by rw[u];exact q)}
  ·rw[k];show vy (ps n) G1.bn (G.bn n)=G.bn n;cases E:ps n with
   |none=>rfl
   |some i=>
    have e:σ i=n:=by rw[L];rw[Ic]at E;exact SY E
    have v:i<H.length:=Nat.lt_of_not_le λlf=>by rw[Kb i lf]at e;omega
    show G1.bn i=G.bn n;rw[A.bn i v,u,<-e]
  ·rw[k];show(vy (ps n) G1.fl (G.fl n)=G.fl n/\vy (ps n) G1.sg (G.sg n)=G.sg n)\/G.fl n<vy (ps n) G1.fl (G.fl n);cases E:ps n with
   |none=>exact .inl ⟨rfl,rfl⟩
   |some i=>
    have e:σ i=n:=by rw[L];rw[Ic]at E;exact SY E
    have v:i<H.length:=Nat.lt_of_not_le λlf=>by rw[Kb i lf]at e;omega
    have:=A.fr i v;rw[u]at this;simp only[e]at this;exact this
  ·rw[k]at q;rcases A.new b o q with g|g
   ·rw[u]at g;exact .inl g
   ·exact .inr λd=>g (Qz b d)
 have W:(iX l (H'.map (ao.ba σ)) h).length=G2.N:=by
  rw[XO _ _ _ (by rw[Zw,hk,JA];omega),Zw,JA,hk,O6,k]
 have aoV:∀i,i<G1.N->(iX l (H'.map (ao.ba σ)) h)[σ i]?=(H'[i]?).map (ao.ba σ):=λi v=>by
  rw[<-Zm,L];exact XM l _ h i (by rw[Zw,hk,JA];omega) hd a8 (by rw[Zw,JA];exact v)
 have Mn:∀(n:Nat)(B:ao),(iX l (H'.map (ao.ba σ)) h)[n]?=some B->(∃i B',i<G1.N/\n=σ i/\H'[i]?=some B'/\B=B'.ba σ)\/(ps n=none/\n ∉ l/\h[n]?=some B):=λn B c=>by
  have YO:n<G2.N:=by rw[<-W];exact(Zj.1 c).1
  cases E:ps n with
  |none=>
   rw[Ic]at E;obtain⟨g,T⟩:=ajg E;exact .inr ⟨rfl,T,by rw[<-TW l (H'.map (ao.ba σ)) h n (by rw[Zw,hk,JA];omega) g T];exact c⟩
  |some i=>
   have e:σ i=n:=by rw[L];rw[Ic]at E;exact SY E
   have v:i<G1.N:=Nat.lt_of_not_le λlf=>by
    rw[Kb i k7]at e;rw[k]at YO;have:n<G.N+(G1.N-H.length):=YO;omega
   rw[<-e,aoV i v]at c;cases hx:H'[i]? with
   |none=>rw[hx]at c;cases c
   |some B'=>rw[hx]at c;cases c;exact .inl ⟨i,B',v,e.symm,hx,rfl⟩
 have hold:∀(n b:Nat),n ∉ l->cu h G n=some b->G0.Z b:=λn b F p=>by
  rw[u];refine⟨hi.kR p,λR=> ?_⟩;rw[fg]at R;obtain⟨j,hj,R⟩:=R;exact F ((hi.inj n j b p R)▸hj)
 have FF:∀(n b:Nat),cu (iX l (H'.map (ao.ba σ)) h) G2 n=some b->(∃i,n=σ i/\cu H' G1 i=some b/\¬G0.Z b)\/(n ∉ l/\cu h G n=some b/\G0.Z b):=λn b p=>by
  obtain⟨B,c,jq⟩:=nv p;rcases Mn n B c with⟨i,B',v,rfl,J,rfl⟩|⟨E,F,J⟩
  ·rw[RN Qs v]at jq;exact .inl ⟨i,rfl,(eN J).trans jq,λd=>(lk.dN i B' J).mD jq (hZ1 _ d)⟩
  ·have e:B.fv G2 n=B.fv G n:=by
    subst k;cases B<;>simp only[ao.fv,E,vy]
   have:=(eN J).trans (e▸jq);exact .inr ⟨F,this,hold n b F this⟩
 refine⟨G2,mh,by rw[k];exact Yp _ _,⟨W,λb d=> ?_,λb o q=> ?_,λn B c=> ?_,λm n b g T=> ?_,hi.gl.keep mh⟩,Qs⟩;{rw[k]at d;exact ZO (hi.z b d) A.size};{rw[k]at q;exact lk.S b o q}
 ·rcases Mn n B c with⟨i,B',v,rfl,J,rfl⟩|⟨E,F,J⟩
  ·refine fj.ba Qs v (λb p d=> ?_) (lk.dN i B' J);have:=(lk.dN i B' J).mD p;rw[k]at d;exact this (hZ1 b (Qz b d))
  ·have qH:n<G.N:=by rw[<-hi.len];exact(Zj.1 J).1
   refine fj.keep qH mh (by rw[k];exact Yp _ _) (by rw[k];simp only[E];exact⟨rfl,rfl,rfl⟩) (λb p=> ?_) (hi.dN n B J);have d:=hold n b F ((eN J).trans p);refine⟨A.old b d,λo kL q=> ?_⟩;rw[k]at q;rcases A.new b o q with g|g
   ·rw[u]at g;exact kL g
   ·exact g d
 ·rcases FF m b g with⟨i,rfl,a1,a2⟩|⟨a0,a1,a2⟩<;>rcases FF n b T with⟨j,rfl,b1,b2⟩|⟨b0,b1,b2⟩
  ·rw[lk.inj i j b a1 b1]
  ·exact absurd b2 a2
  ·exact absurd a2 b2
  ·exact hi.inj m n b a1 b1
def da.Zz{P:eG}{f:FuncId}{args:U AV}{H:U ao}{K:AV->U ao->Prop}(d:da P f args H K){l:U Nat}{h:U ao}
 (A:l.Nodup) (B:∀j∈l,j<h.length) (E:∀(i j:Nat),l[i]?=some j->h[j]?=(H[i]?).map (ao.ba (rn l h.length))) (F:l.length=H.length)
 (g:args.all (AV.aN H.length)=true) (J:H.all (ao.aN H.length)=true):
 da P f (args.map (AV.ba (rn l h.length))) h λL h'=>∃r H',K r H'/\L=r.ba (rn l h.length)/\h'=iX l (H'.map (ao.ba (rn l h.length))) h:=by
 refine⟨d.1,λG w M N R b=> ?_⟩;obtain⟨S,k,T,W,RM⟩:=YV A B E F J N;refine(d.2 S w M T (by rw[R,Zw]) λi u c hu p=> ?_).mono λe w' hp=> ?_
 ·rw[Zc]at g;exact aM.uG W (b i u (c.ba (rn l h.length)) hu (by rw[Zm,p];rfl)) c rfl (by rw[k];exact g c (ZZ p))
 ·obtain⟨v,G1,r,H',rfl,q,z,lk,hv,hK⟩:=hp;rw[k]at z q;obtain⟨G2,e1,e2,e3,e4⟩:=RM G1 w' H' q z lk;exact⟨v,G2,r.ba _,_,rfl,e1,e2,e3,hv.ba e4,r,H',hK,rfl,rfl⟩
mutual
def CR{σ τ:Nat->Nat}{k:Nat}(h:∀i,i<k->σ i=τ i):∀x:AV,x.aN k=true->x.ba σ=x.ba τ
 | .ptr n off,hb=>by rw[AV.aN]at hb;rw[AV.ba,AV.ba,h n (by rw[UC,<-Uj,dT]at hb;omega)]
 | .own n xs,hb=>by rw[AV.aN]at hb;rw[AV.ba,AV.ba,h n (by rw[UC,<-Uj,dT]at hb;omega)]
 | .row n off len cap q,hb=>by rw[AV.aN]at hb;rw[AV.ba,AV.ba,h n (by rw[UC,<-Uj,dT]at hb;omega)]
 | .mp n,hb=>by rw[AV.aN]at hb;rw[AV.ba,AV.ba,h n (by rw[UC,<-Uj,dT]at hb;omega)]
 | .cD n,hb=>by rw[AV.aN]at hb;rw[AV.ba,AV.ba,h n (by rw[UC,<-Uj,dT]at hb;omega)]
 | .vec n o len L q,hb=>by rw[AV.aN]at hb;rw[AV.ba,AV.ba,h n (by rw[UC,<-Uj,dT]at hb;omega)]
 | .dU n i j L q,hb=>by rw[AV.aN]at hb;rw[AV.ba,AV.ba,h n (by rw[UC,<-Uj,dT]at hb;omega)]
 | .agg cs,hb=>by rw[AV.aN]at hb;rw[AV.ba,AV.ba,vS h cs hb]
 | .bw cs,hb=>by rw[AV.aN]at hb;rw[AV.ba,AV.ba,vS h cs hb]
 | .fn f cs,hb=>by rw[AV.aN]at hb;rw[AV.ba,AV.ba,vS h cs hb]
 | .d x,_=>by rw[AV.ba,AV.ba]
 | .bm xs i off,_=>by rw[AV.ba,AV.ba]
 | .full xs,_=>by rw[AV.ba,AV.ba]
 | .hid c,_=>by rw[AV.ba,AV.ba]
 | .dead,_=>by rw[AV.ba,AV.ba]
def vS{σ τ:Nat->Nat}{k:Nat}(h:∀i,i<k->σ i=τ i):∀l:U AV,AV.lN k l=true->AV.ij σ l=AV.ij τ l
 |[],_=>by rw[AV.ij,AV.ij]
 |x::l,hb=>by
  rw[AV.lN,Zo]at hb;rw[AV.ij,AV.ij,CR h x hb.1,vS h l hb.2]
end
def WS{σ τ:Nat->Nat}{k:Nat}(h:∀i,i<k->σ i=τ i)(B:ao)(d:B.aN k=true):B.ba σ=B.ba τ:=by
 cases B with
 |cells b=>rw[ao.ba,ao.ba,vS h b (by rw[ox];exact d)]
 |lp u p as v b=>rw[ao.ba,ao.ba,vS h b (by rw[ox];exact d)]
 |it z b=>rw[ao.ba,ao.ba,vS h b (by rw[ox];exact d)]
 |gu A b=>rw[ao.ba,ao.ba,vS h b (by rw[ox];exact d)]
 |vec e q b=>
  rw[ao.ba,ao.ba]
  congr 1
  refine Z5 λc g=>vS h c ?_;simp only[ao.aN,Zc]at d;rw[ox,Zc];exact d c g
 |_=>rfl
def XW:∀(l:U Nat)(b c i:Nat),i<l.length->rn l b i=rn l c i
 |[],b,c,i,h=>by simp at h
 |a::l,b,c,0,_=>by rw[rn,rn]
 |a::l,b,c,i+1,h=>by rw[rn,rn];exact XW l b c i (by simpa using h)
def sr:U Nat->Bool
 |[]=>true
 |a::l=> !l.any (·==a)&&sr l
def XL:∀{l:U Nat},sr l=true->l.Nodup
 |[],_=>List.nodup_nil
 |a::l,h=>by
  rw[sr,Zo,UC,<-Uj]at h;rw[List.nodup_cons];exact⟨λb=>h.1 (List.any_eq_true.2 ⟨a,b,by simp⟩),XL h.2⟩
def XK:∀(l:U Nat)(h Bs:U ao),l.map (λj=>h[j]?)=Bs.map some->iX l Bs h=h
 |[],h,Bs,e=>by
  cases Bs with
  |nil=>rw[iX,ZW]
  |cons=>simp at e
 |j::l,h,Bs,e=>by
  cases Bs with
  |nil=>simp at e
  |cons B Bs=>
   rw[ZY,ZY]at e;injection e with b d;have g:h.set j B=h:=by
     refine List.ext_getElem? λm=> ?_;by_cases c:j=m
     ·subst c;rw[ZB (Zj.1 b).1,b]
     ·rw[Z7 c]
   rw[iX,g];exact XK l h Bs d
section
variable {P:eG} {f:FuncId} {fD:U AV} {H:U ao} {l:U Nat} {h:U ao}
def XJ{l:U Nat}{h H:U ao}{σ:Nat->Nat}(d:l.map (λj=>h[j]?)=H.map λB=>some (B.ba σ)):l.length=H.length/\(∀j∈l,j<h.length)/\∀(i j:Nat),l[i]?=some j->h[j]?=(H[i]?).map (ao.ba σ):=by
 have g:l.length=H.length:=by simpa using congrArg List.length d
 have b:∀(i j:Nat),l[i]?=some j->∃B,H[i]?=some B/\h[j]?=some (B.ba σ):=λi j e=>by
  have k:i<H.length:=by rw[<-g];exact(Zj.1 e).1
  have:=congrArg (·[i]?) d;simp only[Zm,e,Zd k,ZG,Vg]at this;exact⟨_,Zd k,this⟩
 refine⟨g,λj p=> ?_,λi j e=> ?_⟩;{obtain⟨i,q⟩:=List.mem_iff_getElem?.1 p;obtain⟨B,_,c⟩:=b i j q;exact(Zj.1 c).1};{obtain⟨B,c,u⟩:=b i j e;rw[c,u];rfl}
def da.pR{r:AV}{H':U ao}(d:da P f fD H λb h1=>b=r/\h1=H')(e:sr l=true)(g:l.map (λj=>h[j]?)=H.map λB=>some (B.ba (rn l h.length)))(c:(fD.all (AV.aN H.length)&&H.all (ao.aN H.length))=true):
 da P f (fD.map (AV.ba (rn l h.length))) h λb h1=>b=r.ba (rn l h.length)/\h1=iX l (H'.map (ao.ba (rn l h.length))) h:=by
 rw[Zo]at c;obtain⟨h1,k,p⟩:=XJ g;exact(d.Zz (XL e) k p h1 c.1 c.2).mono λb h1 ⟨A,E,⟨q,u⟩,v,z⟩=>by subst q;subst u;exact⟨v,z⟩
def da.rq{r:AV}(u:da P f fD H λb h1=>b=r/\h1=H)(v:sr l=true)(k:l.map (λj=>h[j]?)=H.map λB=>some (B.ba (rn l 0)))(p:(fD.all (AV.aN H.length)&&H.all (ao.aN H.length)&&r.aN H.length)=true)(e:U ao):
 da P f (fD.map (AV.ba (rn l 0))) (h++e) λb h1=>b=r.ba (rn l 0)/\h1=h++e:=by
 rw[Zo,Zo]at p;obtain⟨⟨c,d⟩,z⟩:=p;obtain⟨h1,A,_⟩:=XJ k;have g:∀i,i<H.length->rn l (h++e).length i=rn l 0 i:=λi E=>XW l _ _ i (by rw[h1];exact E);have F:H.map (λB=>some (B.ba (rn l (h++e).length)))=H.map λB=>some (B.ba (rn l 0)):=by
   refine Z5 λB J=> ?_;rw[Zc]at d;rw[WS g B (d B J)]
 have q:l.map (λj=>(h++e)[j]?)=H.map λB=>some (B.ba (rn l (h++e).length)):=by
  rw[F,<-k];refine Z5 λj L=> ?_;rw[ZT (A j L)]
 have:=u.pR v q (by rw[c,d];rfl);have M:fD.map (AV.ba (rn l (h++e).length))=fD.map (AV.ba (rn l 0)):=by
  refine Z5 λx N=> ?_;rw[Zc]at c;exact CR g x (c x N)
 rw[M,CR g r z]at this;refine this.mono λb h1 ⟨R,S⟩=>⟨R,?_⟩;rw[S];refine XK l _ _ ?_;rw[q,List.map_map];rfl
end
def ao.vd:ao->Prop
 | .vec _ _ b=>(∀f,b.map (AV.ij f)=b)/\∀m,b.all (·.all (AV.aN m))=true
 |_=>True
def asl(f:Nat->Nat)(c:U D):AV.ij f (c.map AV.d)=c.map AV.d:=by
 induction c with
 |nil=>simp [AV.ij]
 |cons x c b=>simp only[ZY,AV.ij,AV.ba,b]
def Q1(xs:U (U D)):(∀f,(bf xs).map (AV.ij f)=bf xs)/\∀m,(bf xs).all (·.all (AV.aN m))=true:=by
 refine⟨λf=> ?_,λm=>by simp [bf,AV.aN]⟩;unfold bf;rw[List.map_map];exact Z5 λc _=>asl f c
def XH(k:Nat):(∀f,AV.ij f (List.replicate k .dead)=List.replicate k .dead)/\∀m,(List.replicate k AV.dead).all (AV.aN m)=true:=by
 refine⟨λf=> ?_,λm=>by simp [AV.aN]⟩
 induction k with
 |zero=>simp [AV.ij]
 |succ k b=>simp only[List.replicate_succ,AV.ij,AV.ba,b]
def VD:U ao->Prop
 |[]=>True
 |B::l=>B.vd/\VD l
def eV:VD []:=trivial
def lT{e k:Nat}{xs:U (U D)}{l:U ao}(h:VD l):VD (.vec e k (bf xs)::l):=⟨Q1 xs,h⟩
def vdP{e k q:Nat}{xs:U (U D)}{l:U ao}(h:VD l):VD (.vec e k (bf xs++[List.replicate q .dead])::l):=
 ⟨⟨λf=>by rw[ab,(Q1 xs).1 f,ZY,(XH q).1 f];rfl,λm=>by rw[List.all_append,(Q1 xs).2 m,Z4,(XH q).2 m];rfl⟩,h⟩
def VD.mem:∀{l:U ao},VD l->∀B∈l,B.vd
 |[],_,B,b=>by cases b
 |_::_,h,B,b=>by
  rcases Za.1 b with rfl|b
  ·exact h.1
  ·exact VD.mem h.2 B b
def ao.tO(f:Nat->Nat):ao->ao
 | .vec e k b=>.vec e k b
 |B=>B.ba f
def XG{f:Nat->Nat}{B:ao}(h:B.vd):B.tO f=B.ba f:=by
 cases B with
 |vec e k b=>simp only[ao.tO,ao.ba];rw[h.1 f]
 |_=>rfl
def ava{f:Nat->Nat}{l:U ao}(h:VD l):l.map (ao.tO f)=l.map (ao.ba f):=Z5 λB b=>XG (h.mem B b)
def ao.yo(m:Nat):ao->Bool
 | .vec .. =>true
 |B=>B.aN m
def atM{m:Nat}{B:ao}(h:B.vd)(b:B.yo m=true):B.aN m=true:=by
 cases B with
 |vec e k c=>exact h.2 m
 |_=>exact b
def aqo{m:Nat}{l:U ao}(h:VD l)(b:l.all (ao.yo m)=true):l.all (ao.aN m)=true:=by
 rw[Zc]at b ⊢;exact λB c=>atM (h.mem B c) (b B c)
def ajp{f:Nat->Nat}{l:U ao}(h:VD l):(l.map λB=>some (B.tO f))=l.map λB=>some (B.ba f):=Z5 λB b=>congrArg some (XG (h.mem B b))
inductive In
 |none
 |bit (x:AV)
 |eq (x:AV)
 |el (xs:List (List D)) (i:Int)
 |lt (z:Int) (n:Nat)
 |len (xs:List (List D))
 |sub (xs:List (List D)) (lo:Int) (hi:Option Int) (k:Nat)
 |app (xs ys:List (List D)) (len k dc:Nat)
 |nz (b:Int)
 |nn (b:Int)
 |str (b:ByteArray) (lo hi:Int)
 |cat (n:Nat)
 |pr (p:Prop)
 |sd (p:Sd)
 |jC (xs:List (List D))
 |PJ (c:List D) (z:Int) (n:Nat)
 |ch (b:ByteArray) (i:Int)
 |call (f:FuncId) (args:List AV)
 |kZ (f:FuncId) (args:List AV) (h:List ao)
 |GU (c:gd) (args:List AV)
 |pR (f:FuncId) (args:List AV) (h:List ao)
def QP(P:eG)(c:gd)(args:U AV)(r:AV):Prop:=∃g as,c.app args=some (g,as)/\gq P g as (·=r)
inductive ct
 |none
 |bit (b:Bool)
 |FE
 |eq (y:AV)
 |el (c:List D)
 |ok
 |nat (n:Nat)
 |list (ys:List (List D))
 |aca (ys:List (List D)) (n:Nat)
 |byte (c:UInt8)
 |bytes (s:ByteArray)
 |one (d:D)
 |va (a:VA)
 |ret (r:AV)
 |VJ (r:AV) (h:List ao)
 |RK (l:List Nat) (fD:List AV) (H:List ao) (r:AV) (H':List ao)
 |rq (l:List Nat) (fD:List AV) (H:List ao) (r:AV)
 |Hu (l:List Nat) (fD:List AV) (H:List ao) (r:AV) (H':List ao)
inductive OK(P:Program):In->ct->Prop
 |none {o:ct}:OK P .none o
 |bit {e b:Bool} (h:e=b):OK P (.bit (.d (.v (.bool e)))) (.bit b)
 |FE:OK P (.bit (.d (.v undef))) .FE
 |eq {x y:AV} (h:x=y):OK P (.eq x) (.eq y)
 |el {xs:List (List D)} {i:Int} {c:List D} (h0:0<=i) (h:xs[i.toNat]?=some c):OK P (.el xs i) (.el c)
 |lt {z:Int} {n:Nat} (h0:0<=z) (h:z<n):OK P (.lt z n) .ok
 |len {xs:List (List D)} {n:Nat} (h:xs.length=n):OK P (.len xs) (.nat n)
 |sub {xs ys:List (List D)} {lo hi:Int} {k:Nat} (h0:0<=lo) (h1:lo.toNat<=hi.toNat) (h2:0<=hi) (h3:hi.toNat<=xs.length) (hk:∀c∈xs,c.length=k) (h:(xs.take hi.toNat).drop lo.toNat=ys):OK P (.sub xs lo (some hi) k) (.list ys)
 |CC {xs ys:List (List D)} {lo:Int} {k:Nat} (h0:0<=lo) (h1:lo.toNat<=xs.length) (hk:∀c∈xs,c.length=k) (h:xs.drop lo.toNat=ys):OK P (.sub xs lo .none k) (.list ys)
 |app {xs ys zs:List (List D)} {len k dc n:Nat} (hl:len=xs.length) (hx:∀c∈xs,c.length=k) (hy:∀c∈ys,c.length=k) (hm:xs.length+ys.length<=maxLen) (hb:(xs.length+ys.length)*dc<=140737488355328) (hz:xs++ys=zs) (hn:xs.length+ys.length=n):OK P (.app xs ys len k dc) (.aca zs n)
 |nz {b:Int} (h:b≠0):OK P (.nz b) .ok
 |nn {b:Int} (h:0<=b):OK P (.nn b) .ok
 |str {b:ByteArray} {lo hi:Int} (h0:0<=lo) (h1:lo.toNat<=hi.toNat) (h2:0<=hi) (h3:hi.toNat<=b.size):OK P (.str b lo hi) .ok
 |ch {b:ByteArray} {i:Int} {c:UInt8} (h0:0<=i) (h:b[i.toNat]?=some c):OK P (.ch b i) (.byte c)
 |cat {n:Nat} (h:n<=maxLen):OK P (.cat n) .ok
 |pr {p:Prop} (a:VA) (h:p):OK P (.pr p) (.va a)
 |sd {p:Sd} {o:ct} (h:p.ok):OK P (.sd p) o
 |jC {xs:List (List D)} {s:ByteArray} (h:∃ns:List Int,xs=ns.map (λn=>[.v (.int .u8 n)])/\s=⟨(ns.map λn=>UInt8.ofNat n.toNat).toArray⟩):OK P (.jC xs) (.bytes s)
 |PJ {c:List D} {z:Int} {n:Nat} {d:D} (h0:0<=z) (h1:z<n) (h:c[z.toNat]?=some d):OK P (.PJ c z n) (.one d)
 |call {f:FuncId} {args:List AV} {r:AV} (h:gq P f args (·=r)):OK P (.call f args) (.ret r)
 |GU {c:gd} {args:List AV} {r:AV} (h:QP P c args r):OK P (.GU c args) (.ret r)
 |pR {f:FuncId} {nw fD:List AV} {h H H':List ao} {l:List Nat} {r:AV} (ha:nw=fD.map (AV.ba (rn l h.length))) (hd:sr l=true) (hb:l.map (λj=>h[j]?)=H.map λB=>some (B.ba (rn l h.length))) (hl:(fD.all (AV.aN H.length)&&H.all (ao.aN H.length))=true)
  (hc:da P f fD H λr1 h1=>r1=r/\h1=H'):OK P (.pR f nw h) (.RK l fD H r H')
 |Om {f:FuncId} {nw fD:List AV} {h H H':List ao} {l:List Nat} {r:AV} (s9:VD H) (hv:VD H') (ha:nw=fD.map (AV.ba (rn l h.length))) (hd:sr l=true) (hb:l.map (λj=>h[j]?)=H.map λB=>some (B.tO (rn l h.length))) (hl:(fD.all (AV.aN H.length)&&H.all (ao.yo H.length))=true)
  (hc:da P f fD H λr1 h1=>r1=r/\h1=H'):OK P (.pR f nw h) (.Hu l fD H r H')
 |rq {f:FuncId} {nw fD:List AV} {h H:List ao} {l:List Nat} {r:AV} (ha:nw=fD.map (AV.ba (rn l 0))) (hd:sr l=true) (hb:l.map (λj=>h[j]?)=H.map λB=>some (B.ba (rn l 0))) (hl:(fD.all (AV.aN H.length)&&H.all (ao.aN H.length)&&r.aN H.length)=true)
    (hc:da P f fD H λr1 h1=>r1=r/\h1=H):OK P (.pR f nw h) (.rq l fD H r)
 |kZ {f:FuncId} {args:List AV} {h h':List ao} {r:AV} (hc:da P f args h λr1 h1=>r1=r/\h1=h'):OK P (.kZ f args h) (.VJ r h')
def DN(P:eG)(t:TypeId)(cs:U AV)(off:Nat):O AV:=
 match nW P t,ZH P t with
 |some true,some k=>bif cF (off+k) cs.length then some (.agg ((cs.drop off).take k))else none
 |some false,some _=>cs[off]?
 |_,_=>none
def AW(h:U ao)(p:AV):O (U AV×Nat):=
 match p with
 | .ptr n b=>match h[n]? with
   |some (.cells e)=>some (e,b)
   |_=>none
 | .bm g i b=>match g[i]? with
   |some c=>some (c.map .d,b)
   |none=>none
 |_=>none
def Tk(x:AV)(i:O Int)(k:Nat)(a:ct):O (AV×In):=
 match x.gV,i,a with
 |some b,some z,.el c=>bif c.length==k then some (.bm [c] 0 0,.el b z)else none
 |_,_,_=>none
def U8(P:eG)(T:TypeId)(x i:AV)(a:ct):O (AV×In):=
 match fF P T with
 |some (_,k)=>
  match x with
  | .row n e g _ p=>match i.int? with
    |some z=>bif p==k then some (.ptr n (e+z.toNat*k),.lt z g)else none
    |none=>none
  |x=>Tk x i.int? k a
 |none=>match wY P T,x,i.int? with
  |some (n,_,k),.ptr b e,some z=>some (.ptr b (e+z.toNat*k),.lt z n)
  |some (n,_,k),.bm [c] 0 0,some z=>match a with
   | .one d=>bif k==1 then some (.bm [[d]] 0 0,.PJ c z n)else none
   |_=>none
  |_,_,_=>none
def Rm(P:eG)(T:TypeId)(x:AV)(a:ct):O (AV×In):=
 match x with
 | .d (.v (.string s))=>bif jc P T then some (.d (.v (.int .i64 s.size)),.none)else none
 | .row _ _ b _ _=>bif (fF P T).isSome then some (.d (.v (.int .i64 b)),.none)else none
 |x=>match x.gV,a with
  |some c,.nat n=>bif (fF P T).isSome then some (.d (.v (.int .i64 n)),.len c)else none
  |_,_=>none
def oN(l:O Int)(d:Nat):Nat:=match l with|some z=>z.toNat|none=>d
def EG(ρ:Operand->AV):O Operand->O (O Int)
 |none=>some none
 |some y=>match (ρ y).int? with
  |some z=>some (some z)
  |none=>none
def W4(P:eG)(T:TypeId)(ρ:Operand->AV)(x:AV)(lo hi g:O Operand)(a:ct):O (AV×In):=
 match g with
 |none=>match EG ρ lo,EG ρ hi with
  |some l,some h=>match x with
   | .d (.v (.string b))=>bif jc P T then some (.d (.v (.string (b.extract (oN l 0) (oN h b.size)))),.str b (l.getD 0) (h.getD b.size))else none
   | .ptr n c=>match wY P T,l,h with
     |some (m,_,k),none,none=>bif cF m 4096&& !cF m 0 then some (.row n c m m k,.none)else none
     |_,_,_=>none
   |x=>match x.gV,fF P T,a with
    |some e,some (_,k),.list p=>some (.d (.sl p),.sub e (l.getD 0) h k)
    |_,_,_=>none
  |_,_=>none
 |some m=>match lo,hi,ρ m with
  |none,some y,.d (.v (.int _ 0))=>match x.gV,fF P T,ρ y,a with
   |some e,some (_,k),.d (.v (.int _ 0)),.list _=>some (.full [],.sub e 0 (some 0) k)
   |_,_,_,_=>none
  |_,_,_=>none
def J6(h:U ao)(k:Nat)(x:AV):O (U (U D)):=
 match x with
 | .row n c b _ e=>match h[n]? with
   |some (.cells d)=>match pg ((d.drop c).take (b*k))with
    |some g=>bif e==k&&cF (c+b*k) d.length&&((d.drop c).take (b*k)).all AV.kW then some (qj k b g)else none
    |none=>none
   |_=>none
 |x=>x.gV
def TY(P:eG)(T:TypeId)(h:U ao)(x y:AV)(a:ct):O (AV×U ao×In):=
 match fF P T,a with
 |some (e,k),.aca c g=>match jY P e,uj P e with
  |some z,some p=>bif cF 1 k&&z.cells.toList.length==k then
   match J6 h k y with
   |some q=>match x with
    | .own n b=>match h[n]? with
      |some (.front A B u)=>bif A==e&&B==k then some (.own n c,h.set n (.front e k g),.app b q u k p)else none
      |_=>none
    | .d (.v (.slice none 0 0))=>some (.own h.length c,h++[.front e k g],.app [] q 0 k p)
    | .full b=>some (.own h.length c,h++[.front e k g],.app b q b.length k p)
    |_=>none
   |none=>none
   else none
  |_,_=>none
 |_,_=>none
def Xr(P:eG)(T:TypeId)(ps:U (Nat×AV)):O AV:=
 match Qh P T,jY P T with
 |some places,some z=>match rV places (z.cells.toList.map λu=>.d (.v u)) ps with
  |some b=>bif (ps.all λp=>p.2.kQ)&&z.cells.toList.all Value.oneCell' then some (.agg b)else none
  |none=>none
 |_,_=>none
def R6(P:eG)(T:TypeId)(len:Nat)(ps:U (Nat×AV)):O AV:=
 match fF P T with
 |some (e,k)=>match jY P e with
  |some z=>match rV (wA k 0 len) (uK len (z.cells.toList.map λu=>.d (.v u))) ps with
   |some b=>match pg b with
    |some c=>bif cF 1 k&&cF (len*k) 16777216&&z.cells.toList.length==k&&z.cells.toList.all Value.oneCell'&&(ps.all λp=>p.2.kQ)then some (.full (qj k len c))else none
    |none=>none
   |none=>none
  |none=>none
 |none=>none
def N1(P:eG)(T:TypeId)(op:BinOp)(x y:AV):O (AV×In):=
 match x,y with
 | .d (.v (.int k a)),.d (.v (.int c b))=>
   match Vf op k a b with
   |some v=>bif zG k c then some (.d (.v v),.nz b)else none
   |none=>match Wq op k a b with
    |some v=>some (.d (.v v),.nn b)
    |none=>match Tp op k a b with
     |some v=>bif zG k c then some (.d (.v v),.none)else none
     |none=>none
 | .d (.v (.string a)),.d (.v (.string b))=>match V4 op a b with
   |some v=>some (.d (.v v),.none)
   |none=>match op with
    | .add=>some (.d (.v (.string (a++b))),.cat (a.size+b.size))
    |_=>none
 | .d (.v (.bool a)),.d (.v (.bool b))=>match TO op a b with
   |some v=>bif Di P T then some (.d (.v v),.none)else none
   |none=>none
 | .agg e,.agg g=>match MF P T e g with
   |some b=>match yB op b with
    |some v=>some (.d (.v v),.none)
    |none=>none
   |none=>none
 |_,_=>none
def JR(P:eG)(c dst:TypeId)(x:AV)(a:ct):O (AV×In):=
 match x with
 | .d (.v (.int _ n))=>match tH P c,tH P dst with
   |some _,some k=>some (.d (.v (.int k (k.wrap n))),.none)
   |_,_=>none
 | .d (.v (.string b))=>bif jc P c&&jc P dst then some (.d (.v (.string b)),.none)else none
 |x=>match x.gV,fF P c,a with
  |some g,some (e,_),.bytes s=>bif Fo P e&&jc P dst then some (.d (.v (.string s)),.jC g)else none
  |_,_,_=>none
def Lp(P:eG)(T:TypeId)(x:AV)(f:Nat):O AV:=
 match uI P T f,x with
 |some (b,k,true),.agg c=>bif cF (b+k) c.length then some (.agg ((c.drop b).take k))else none
 |some (b,_,false),.agg c=>c[b]?
 |_,_=>none
def Kt(h:U ao):O AV->O (AV×U ao×In)
 |some x=>some (x,h,.none)
 |none=>none
def CT(h:U ao):O (AV×In)->O (AV×U ao×In)
 |some (x,i)=>some (x,h,i)
 |none=>none
mutual
def AV.nrm:AV->AV
 | .full xs=>.d (.sl xs)
 | .d (.v (.slice none 0 0))=>.d (.sl [])
 | .agg cs=>.agg (AV.AD cs)
 | .bw cs=>.bw (AV.AD cs)
 |x=>x
def AV.AD:U AV->U AV
 |[]=>[]
 |x::l=>x.nrm::AV.AD l
end
def AV.G6:AV->AV
 | .fn f b=>match AV.yO b with
   |some l=>.hid (.fn f l)
   |none=>.fn f b
 |x=>x
def AV.arg(x:AV):AV:=((x.bK 0).nrm).G6
def AV.AA(x:AV):AV:=(x.bK 0).nrm
def sdI:Sd->In
 | .no=>.none
 |p=>.sd p
def xR:O (AV×U ao×Sd)->O (AV×U ao×In)
 |some (x,h,p)=>some (x,h,sdI p)
 |none=>none
def wD(P:eG)(op:Op)(ρ:Operand->AV)(h:U ao)(a:ct):O (AV×U ao×In):=
 match op with
 | .move x| .assign x=>some (ρ x,h,.none)
 | .pick c x y=>match a with
   | .bit b=>some (bif b then ρ x else ρ y,h,.bit (ρ c))
   |_=>none
 | .alloc e=>match jY P e with
   |some z=>some (.ptr h.length 0,h++[ao.cells (z.cells.toList.map λu=>.d (.v u))],.none)
   |none=>none
 | .box _ x=>bif (ρ x).kQ then some (.ptr h.length 0,h++[ao.cells (ρ x).cells],.none)else none
 | .load t p=>match AW h (ρ p)with
   |some (F,B)=>match DN P t F B with
    |some x=>some (x,h,.none)
    |none=>none
   |none=>none
 | .store t p x=>match ρ p with
   | .ptr n B=>match h[n]? with
     |some (.cells F)=>match ZH P t with
      |some k=>bif k==(ρ x).cells.length&&(ρ x).kQ&&cF (B+(ρ x).cells.length) F.length then some (.d (.v undef),h.set n (.cells (jn F B (ρ x).cells)),.none)else none
      |none=>none
     |_=>none
   |_=>none
 | .nilCheck x=>match ρ x with
   | .ptr n B=>some (.ptr n B,h,.none)
   | .bm J i B=>some (.bm J i B,h,.none)
   | .fn f F=>some (.fn f F,h,.none)
   |_=>none
 | .fieldAddr S x f=>match uI P S f with
   |some (M,_,_)=>match ρ x with
    | .ptr n B=>some (.ptr n (B+M),h,.none)
    | .bm J i B=>some (.bm J i (B+M),h,.none)
    |_=>none
   |none=>none
 | .field T x f=>Kt h (Lp P T (ρ x) f)
 | .indexAddr T x i=>CT h (U8 P T (ρ x) (ρ i) a)
 | .index T x i=>match ρ x,(ρ i).int?,a with
   | .d (.v (.string b)),some z,.byte c=>bif jc P T then some (.d (.v (.int .u8 c.toNat)),h,.ch b z)else none
   |_,_,_=>none
 | .build T ps=>Kt h (Xr P T (ps.toList.map λp=>(p.1,ρ p.2)))
 | .buildSlice T L ps=>Kt h (R6 P T L (ps.toList.map λp=>(p.1,ρ p.2)))
 | .slice T x N R W=>CT h (W4 P T ρ (ρ x) N R W a)
 | .extract x i=>match ρ x with
   | .bw F=>match F[i]? with
     |some c=>some (c,h,.none)
     |none=>none
   |_=>none
 | .makeFunc (.func f) first E=>match TX f (first.toList.map ρ) (E.toList.map ρ)with
   |some x=>some (x,h,.none)
   |none=>none
 | .binOp op T x y _=>CT h (N1 P T op (ρ x) (ρ y))
 | .unOp op _ x=>match ρ x with
   | .d (.v u)=>match MB op u with
     |some v=>some (.d (.v v),h,.none)
     |none=>none
   |_=>none
 | .convert s t x=>CT h (JR P s t (ρ x) a)
 | .call c=>match c.callee with
   | .builtin .len=>match c.args.toList,c.argTypes.toList with
     |[x],[T]=>CT h (Rm P T (ρ x) a)
     |_,_=>none
   | .builtin .append=>match c.args.toList,c.argTypes.toList with
     |[x,y],[T,A]=>bif (fF P A).isSome then TY P T h (ρ x) (ρ y) a else none
     |_,_=>none
   | .builtin .max=>match Ey true (c.args.toList.map ρ)with
     |some (k,a)=>some (.d (.v (.int k a)),h,.none)
     |none=>none
   | .builtin .min=>match Ey false (c.args.toList.map ρ)with
     |some (k,a)=>some (.d (.v (.int k a)),h,.none)
     |none=>none
   | .value f=>match ρ f,a with
     | .fn g E,.ret r=>bif ((c.args.toList.map ρ++E).map AV.arg).all (AV.aN 0)&&r.aN 0 then some (r,h,.call g ((c.args.toList.map ρ++E).map AV.arg))else none
     | .fn g E,.VJ r h'=>some (r,h',.kZ g (c.args.toList.map ρ++E) h)
     | .fn g E,.RK l _ _ r H'=>some (r.ba (rn l h.length),iX l (H'.map (ao.ba (rn l h.length))) h,.pR g ((c.args.toList.map ρ++E).map AV.AA) h)
     | .fn g E,.Hu l _ _ r H'=>some (r.ba (rn l h.length),iX l (H'.map (ao.tO (rn l h.length))) h,.pR g ((c.args.toList.map ρ++E).map AV.AA) h)
     | .fn g E,.rq l _ _ r=>some (r.ba (rn l 0),h,.pR g ((c.args.toList.map ρ++E).map AV.AA) h)
     | .hid q,.ret r=>bif ((c.args.toList.map ρ).map AV.arg).all (AV.aN 0)&&r.aN 0 then some (r,h,.GU q ((c.args.toList.map ρ).map AV.arg))else none
     |_,_=>none
   |_=>none
 |op=>xR (sL P op ρ h)
def M5:∀l,AV.AD l=l.map AV.nrm
 |[]=>by simp [AV.AD]
 |x::l=>by simp [AV.AD,M5 l]
def aM.nrm{G:Gh}{w:Zy}{u:oZ}{x:AV}(h:aM G w u x):aM G w u x.nrm:=by
 have T:∀(e:Array oZ)(p:U AV),(∀(i:Nat)(u:oZ)(c:AV),e[i]?=some u->p[i]?=some c->aM G w u c.nrm)->∀(i:Nat)(u:oZ)(c:AV),e[i]?=some u->(AV.AD p)[i]?=some c->aM G w u c:=by
  intro e p B i u c J E;rw[M5,Zm]at E;cases q:p[i]? with
  |none=>rw[q]at E;cases E
  |some x=>rw[q]at E;cases E;exact B i u x J q
 induction h with
 |agg e p z _ B=>rw[AV.nrm];exact .agg e _ (by rw[M5,Zw];exact z) (T e p B)
 |bw e p z _ B=>rw[AV.nrm];exact .bw e _ (by rw[M5,Zw];exact z) (T e p B)
 |full F M A=>rw[AV.nrm];exact .d M
 | @d u x h=>
   by_cases q:x= .v (.slice none 0 0);{subst q;cases h with|v=>simp only[AV.nrm];exact .d LB}
   ·have:(AV.d x).nrm= .d x:=by
     unfold AV.nrm;split<;>simp_all
    rw[this];exact .d h
 |own n F h M N A=>simp only[AV.nrm];exact .own n F h M N A
 |ptr n g h=>simp only[AV.nrm];exact .ptr n g h
 |bm F i g b o u x q W J=>simp only[AV.nrm];exact .bm F i g b o u x q W J
 |row n g len cap k h z hm=>simp only[AV.nrm];exact .row n g len cap k h z hm
 |fn f e p z h=>simp only[AV.nrm];exact .fn f e p z h
 |mp n h=>simp only[AV.nrm];exact .mp n h
 |cD n h=>simp only[AV.nrm];exact .cD n h
 |vec n o len L k h R S A=>simp only[AV.nrm];exact .vec n o len L k h R S A
 |dU n i j L k h R S A=>simp only[AV.nrm];exact .dU n i j L k h R S A
 |hid h h1=>simp only[AV.nrm];exact .hid h h1
 |dead u=>simp only[AV.nrm];exact .dead u
def AV.Le.G6(x:AV):AV.Le x x.G6:=λG w u h=>by
 unfold AV.G6;split
 ·next f b=>
  split
  ·next l e=>
   have:=h.cap (.fn f l) (by simp only[AV.cap,e]);cases h with|fn=>exact .hid this rfl
  ·exact h
 ·exact h
def AV.Le.arg(x:AV):AV.Le x x.arg:=λ_ _ _ h=>AV.Le.G6 _ _ _ _ (h.bK 0).nrm
def da.args{P:eG}{f:FuncId}{as:U AV}{h:U ao}{K:AV->U ao->Prop}(e:da P f as h K)(bs:U AV)(g:as.length=bs.length)(b:∀(i:Nat)(c d:AV),bs[i]?=some c->as[i]?=some d->AV.Le c d):da P f bs h K:=
 ⟨e.1,λG w q v z A=>e.2 G w q v (z.trans g.symm) λi u d B k=>by
  have p:i<bs.length:=by rw[<-g];exact(Zj.1 k).1
  exact b i _ d (Zd p) k G w u (A i u _ B (Zd p))⟩
def da.Yq{P:eG}{f:FuncId}{as:U AV}{h:U ao}{K:AV->U ao->Prop}(b:da P f (as.map AV.arg) h K):da P f as h K:=
 b.args as (by rw[Zw]) λi c d b e=>by
  rw[Zm,b]at e;cases e;exact AV.Le.arg c
def AV.Le.AA(x:AV):AV.Le x x.AA:=λ_ _ _ h=>(h.bK 0).nrm
def da.Kz{P:eG}{f:FuncId}{as:U AV}{h:U ao}{K:AV->U ao->Prop}(b:da P f (as.map AV.AA) h K):da P f as h K:=
 b.args as (by rw[Zw]) λi c d b e=>by
  rw[Zm,b]at e;cases e;exact AV.Le.AA c
def XF(l:U gd):(l.map gd.av).all (AV.aN 0)=true:=by
 rw[Zc];intro x b;obtain⟨c,_,rfl⟩:=UZ.1 b;cases c<;>rfl
def QP.use{P:eG}{q:gd}{args:U AV}{r:AV}{h:U ao}{C:AV->U ao->Prop}(u:QP P q (args.map AV.arg) r)(z:(args.map AV.arg).all (AV.aN 0)=true)(A:r.aN 0=true)(B:C r h):∃g as,q.app args=some (g,as)/\da P g as h C:=by
 obtain⟨g,as,e,u⟩:=u;cases q with
 |d x=>simp [gd.app]at e
 |bm c F=>simp [gd.app]at e
 |fn v E=>
  simp only[gd.app,Vg,Prod.mk.injEq]at e;obtain⟨rfl,rfl⟩:=e;refine⟨v,_,rfl,da.args (u.use (h:=h) (C:=C) (by rw[List.all_append,z,XF];rfl) A B) _ gj λi c d k b=> ?_⟩;by_cases p:i<args.length;{rw[ZT p]at k;rw[ZT (by simpa using p),Zm,k]at b;cases b;exact AV.Le.arg c};{rw[ZK k7]at k;rw[ZK (by simpa using p),Zw,k]at b;cases b;exact AV.Le.refl c}
 |qd v E=>
  simp only[gd.app,Vg,Prod.mk.injEq]at e;obtain⟨rfl,rfl⟩:=e;refine⟨v,_,rfl,da.args (u.use (h:=h) (C:=C) (by rw[List.all_append,z,XF];rfl) A B) _ gj λi c d k b=> ?_⟩;by_cases p:i<(E.map gd.av).length;{rw[ZT p]at k b;rw[k]at b;cases b;exact AV.Le.refl c};{rw[ZK k7]at k b;rw[Zm,k]at b;cases b;exact AV.Le.arg c}
def eY{α:Type}{b:Bool}{x y:α}(h:(bif b then some x else none)=some y):b=true/\x=y:=by
 cases b with
 |true=>exact⟨rfl,Zl h⟩
 |false=>cases h
def lR{α:Type}{b:Bool}{x:O α}{y:α}(h:(bif b then x else none)=some y):b=true/\x=some y:=by
 cases b with
 |true=>exact⟨rfl,h⟩
 |false=>cases h
section
variable {P:eG} {ρ:Operand->AV} {h h':U ao} {a:ct} {i:In} {x:AV} {C:AV->U ao->Prop}
def OK.O0{x:AV}{b:Bool}(h:OK P (.bit x) (.bit b)):x= .d (.v (.bool b)):=by
 cases h with|bit h=>subst h;rfl
def UU{t:TypeId}{p:AV}{cs:U AV}{off:Nat}{K:AV->Prop}(h1:AW h p=some (cs,off))(b:DN P t cs off=some x)(g:K x):qE P t h p K:=by
 have d:(match nW P t,ZH P t with
     |some true,some k=>gN (cF (off+k) cs.length) (K (.agg ((cs.drop off).take k)))
     |some false,some _=>match cs[off]? with
      |some c=>K c
      |none=>False
     |_,_=>False):=by
  unfold DN at b;split at b
  ·next k q u=>
   obtain⟨v,rfl⟩:=eY b;exact cm.2 ⟨v,g⟩
  ·next k q u=>rw[b];exact g
  ·cases b
 unfold qE uE;unfold AW at h1;split at h1
 ·split at h1
  ·next z e=>cases h1;simp only[e];exact d
  ·cases h1
 ·split at h1
  ·next c e=>cases h1;simp only[e];exact d
  ·cases h1
 ·cases h1
def ao0{y:AV}{z:O Int}{k:Nat}(h1:Tk y z k a=some (x,i))(b:OK P i a):∃xs w c,y.gV=some xs/\z=some w/\0<=w/\xs[w.toNat]?=some c/\c.length=k/\x= .bm [c] 0 0:=by
 unfold Tk at h1;split at h1
 ·next xs w c d=>
  obtain⟨e,g⟩:=eY h1;cases g
  cases b with
  |el p q=>exact⟨_,_,_,d,rfl,p,q,by simpa using e,rfl⟩
 ·cases h1
def asT{T:TypeId}{y z:AV}{K:AV->Prop}(h1:U8 P T y z a=some (x,i))(v:OK P i a)(A:K x):uB P T y z K:=by
 unfold U8 at h1;unfold uB;cases J:fF P T with
 |some p=>
  obtain⟨e,k⟩:=p;simp only[J]at h1 ⊢;cases y with
  |row n B L M k'=>
   simp only at h1 ⊢;split at h1
   ·next w g=>
    obtain⟨N,E⟩:=eY h1;cases E
    cases v with|lt q u=>simp only[g];exact cm.2 ⟨N,q,u,A⟩
   ·cases h1
  |_=>
   obtain⟨xs,w,c,R,S,W,e4,e5,rfl⟩:=ao0 h1 v;simp only[R,S,e4,e5];exact⟨W,trivial,A⟩
 |none=>
  simp only[J]at h1 ⊢;split at h1
  ·next n e k b B w F g=>
   cases h1
   simp only[F,g];cases v with|lt q u=>exact⟨q,u,A⟩
  ·next n e k c w F g=>
   split at h1
   ·next d=>
    obtain⟨hb,E⟩:=eY h1;cases E;simp only[F,g];cases v with|PJ q u h=>exact cm.2 ⟨hb,q,u,by simp only[List.getElem?_cons_zero,ZQ,h];exact A⟩
   ·cases h1
  ·cases h1
def arM{T:TypeId}{y:AV}{K:Nat->Prop}{C:AV->Prop}(h1:Rm P T y a=some (x,i))(u:OK P i a)(p:C x)(q:∀n:Nat,C (.d (.v (.int .i64 n)))->K n):vn P T y K:=by
 unfold Rm at h1;unfold vn;split at h1;{obtain⟨g,k⟩:=eY h1;cases k;exact cm.2 ⟨g,q _ p⟩};{obtain⟨g,k⟩:=eY h1;cases k;exact cm.2 ⟨g,q _ p⟩}
 ·next z A=>
  split at h1
  ·next F n B=>
   obtain⟨g,k⟩:=eY h1;cases k;cases u with
   |len E=>
    subst E;split;{next s=>exact absurd rfl (z s)};{next a b c d e=>exact absurd rfl (A a b c d e)};{simp only[B];exact cm.2 ⟨g,q _ p⟩}
  ·cases h1
def ais{y:O Operand}{l:O Int}(h1:EG ρ y=some l):(y=none/\l=none)\/∃o z,y=some o/\l=some z/\(ρ o).int?=some z:=by
 unfold EG at h1;cases y with
 |none=>cases h1;exact .inl ⟨rfl,rfl⟩
 |some o=>
  simp only at h1;split at h1;{next z b=>cases h1;exact .inr ⟨o,z,rfl,rfl,b⟩};{cases h1}
def yw{y:O Operand}{l:O Int}{d:Nat}{K:Nat->Prop}(h1:EG ρ y=some l)(c:∀z,l=some z->0<=z)(b:K (oN l d)):lM ρ y d K:=by
 rcases ais h1 with⟨rfl,rfl⟩|⟨o,z,rfl,rfl,e⟩
 ·exact b
 ·simp only[lM,e];exact⟨c z rfl,b⟩
def amT{T:TypeId}{y:AV}{lo hi mx:O Operand}{K:AV->Prop}(h1:W4 P T ρ y lo hi mx a=some (x,i))(F:OK P i a)(g:K x):xA P T ρ y lo hi mx K:=by
 unfold W4 at h1;unfold xA;split at h1
 ·split at h1
  ·next l J L M=>
   split at h1
   ·next b=>
    obtain⟨p,c⟩:=eY h1;cases c;cases F with
    |str u v N R=>
     refine cm.2 ⟨p,yw M (λz e=>by subst e;exact N) ?_⟩;have e1:oN J b.size=(J.getD b.size).toNat:=by cases J<;>simp [oN]
     have A:oN l 0=(l.getD 0).toNat:=by cases l<;>simp [oN]
     rw[e1];refine⟨R,yw L (λz e=>by subst e;exact u) ?_⟩;rw[A];rw[e1,A]at g;exact⟨v,g⟩
   ·next n d=>
    split at h1
    ·next m e k B=>
     obtain⟨p,c⟩:=eY h1;cases c;simp only[B];generalize cF m 4096=q at p ⊢;rw[Zo]at p;refine cm.2 ⟨p.1,yw M (λz e=>by cases e) (cm.2 ⟨dT.2 (Zx _),yw L (λz e=>by cases e) (cm.2 ⟨?_,?_⟩)⟩)⟩;{rw[Zo];exact⟨dT.2 (Wl _),p.2⟩};{show K (.row n (d+0*k) (m-0) (m-0) k);rw[Nat.zero_mul,Nat.add_zero,Nat.sub_zero];exact g}
    ·cases h1
   ·next Am pC=>
    split at h1
    ·next S e k ys W B=>
     cases h1
     dsimp only;split;{next b=>exact absurd rfl (Am b)};{next n d=>exact absurd rfl (pC n d)}
     ·simp only[W,B];cases J with
      |none=>
       cases F with
       |CC u v E c=>
        refine⟨E,yw M (λz e=>by cases e) ⟨Zx _,yw L (λz e=>by subst e;exact u) ?_⟩⟩;have A:oN l 0=(l.getD 0).toNat:=by cases l<;>simp [oN]
        rw[A];refine⟨v,?_⟩;rw[show oN none S.length=S.length from rfl,List.take_length,c];exact g
      |some z=>
       cases F with
       |sub u v N R E c=>
        refine⟨E,yw M (λz e=>by cases e;exact N) ⟨R,yw L (λz e=>by subst e;exact u) ?_⟩⟩;have A:oN l 0=(l.getD 0).toNat:=by cases l<;>simp [oN]
        rw[A];refine⟨v,?_⟩;rw[show oN (some z) S.length=z.toNat from rfl,c];exact g
    ·cases h1
  ·cases h1
 ·split at h1
  ·next m _ _ y' _ hm=>
   split at h1
   ·next S e k _ _ ys W B hy=>
    cases h1
    cases F with
    |sub u v N R E c=>
     simp only[W,B];refine⟨E,?_⟩;simp only[lM,hm,hy,AV.int?];refine⟨Int.le_refl _,Wl _,Int.le_refl _,?_,by simpa using g⟩;first|rfl|trivial
   ·cases h1
  ·cases h1
def UD{k:Nat}{y:AV}{ys:U (U D)}{K:U (U D)->Prop}(h1:J6 h k y=some ys)(q:∀c∈ys,c.length=k)(p:K ys):xE h k y K:=by
 unfold J6 at h1;unfold xE;split at h1
 ·split at h1
  ·next B e=>
   split at h1
   ·next E u=>
    obtain⟨v,rfl⟩:=eY h1;simp only[e,u];exact cm.2 ⟨v,p⟩
   ·cases h1
  ·cases h1
 ·next z=>
  split;{next n b d g A=>exact absurd rfl (z n b d g A)};{simp only[h1];exact⟨q,p⟩}
def arv{T:TypeId}{y z:AV}(h1:TY P T h y z a=some (x,h',i))(v:OK P i a)(q:C x h'):wT P T h y z C:=by
 unfold TY at h1;unfold wT;split at h1
 ·next e k W n' E=>
  simp only[E];split at h1
  ·next zv dc F J=>
   simp only[F,J];obtain⟨L,h1⟩:=lR h1;refine cm.2 ⟨L,?_⟩;split at h1
   ·next ys A=>
    split at h1
    ·next n xs=>
     split at h1
     ·next e' k' M N=>
      obtain⟨R,S⟩:=eY h1;cases S;cases v with
      |app B u d b c g p=>
       subst g;subst p;refine UD A d ?_;simp only[N];exact cm.2 ⟨R,B,u,b,c,q⟩
     ·cases h1
    ·cases h1
     cases v with
     |app B u d b c g p=>
      subst g;subst p;refine UD A d ?_;simp only[W5,Zg,ZQ]at q b c ⊢;exact⟨b,c,q⟩
    ·cases h1
     cases v with
     |app B u d b c g p=>
      subst g;subst p;exact UD A d ⟨u,b,c,q⟩
    ·cases h1
   ·cases h1
  ·cases h1
 ·cases h1
def akj{T:TypeId}{ps:U (Nat×AV)}{K:AV->Prop}(h1:Xr P T ps=some x)(b:K x):AI P T ps K:=by
 unfold Xr at h1;unfold AI;split at h1
 ·next k z c d=>
  simp only[c,d];split at h1;{next p e=>obtain⟨g,rfl⟩:=eY h1;simp only[e];exact cm.2 ⟨g,b⟩};{cases h1}
 ·cases h1
def akT{T:TypeId}{len:Nat}{ps:U (Nat×AV)}{K:AV->Prop}(h1:R6 P T len ps=some x)(b:K x):za P T len ps K:=by
 unfold R6 at h1;unfold za;split at h1
 ·next e k c=>
  simp only[c];split at h1
  ·next z d=>
   simp only[d];split at h1
   ·next u g=>
    simp only[g];split at h1;{next v p=>obtain⟨q,rfl⟩:=eY h1;simp only[p];exact cm.2 ⟨q,b⟩};{cases h1}
   ·cases h1
  ·cases h1
 ·cases h1
def X9{T:TypeId}{op:BinOp}{y z:AV}{K:AV->Prop}(h1:N1 P T op y z=some (x,i))(p:OK P i a)(c:K x):zZ P T op y z K:=by
 unfold N1 at h1;unfold zZ;split at h1
 ·split at h1
  ·next v e=>
   obtain⟨d,g⟩:=eY h1;cases g;cases p with|nz q=>simp only[e];exact cm.2 ⟨d,q,c⟩
  ·next e=>
   simp only[e];split at h1
   ·next v k=>
    cases h1
    cases p with|nn q=>simp only[k];exact⟨q,c⟩
   ·next k=>
    simp only[k];split at h1;{next v u=>obtain⟨d,g⟩:=eY h1;cases g;simp only[u];exact cm.2 ⟨d,c⟩};{cases h1}
 ·split at h1
  ·next v e=>cases h1;simp only[e];exact c
  ·next e=>
   simp only[e];split at h1;{cases h1;cases p with|cat h=>exact⟨h,c⟩};{cases h1}
 ·split at h1
  ·next v e=>obtain⟨d,g⟩:=eY h1;cases g;simp only[e];exact cm.2 ⟨d,c⟩
  ·cases h1
 ·split at h1
  ·next b e=>
   simp only[e];split at h1;{next v k=>cases h1;simp only[k];exact c};{cases h1}
  ·cases h1
 ·cases h1
def arq{s t:TypeId}{y:AV}{K:AV->Prop}(h1:JR P s t y a=some (x,i))(q:OK P i a)(b:K x):yI P s t y K:=by
 unfold JR at h1;unfold yI;split at h1
 ·split at h1
  ·next c d=>cases h1;simp only[c,d];exact b
  ·cases h1
 ·obtain⟨g,p⟩:=eY h1;cases p;exact cm.2 ⟨g,b⟩
 ·next u v=>
  split at h1
  ·next J e k s' c d=>
   obtain⟨g,p⟩:=eY h1;cases p;cases q with
   |jC h=>
    obtain⟨z,A,B⟩:=h;subst B;split;{next E n=>exact absurd rfl (u E n)};{next F=>exact absurd rfl (v F)};{simp only[c,d];exact cm.2 ⟨g,z,A,b⟩}
  ·cases h1
def X8{T:TypeId}{y:AV}{f:Nat}{K:AV->Prop}(h1:Lp P T y f=some x)(b:K x):Ax P T y f K:=by
 unfold Lp at h1;unfold Ax;split at h1;{next e=>obtain⟨c,rfl⟩:=eY h1;simp only[e];exact cm.2 ⟨c,b⟩};{next e=>simp only[e,h1];exact b};{cases h1}
def QC{y:O AV}(h1:Kt h y=some (x,h',i)):y=some x/\h'=h:=by
 cases y with
 |none=>cases h1
 |some y=>cases h1;exact⟨rfl,rfl⟩
def EP{y:O (AV×In)}(h1:CT h y=some (x,h',i)):y=some (x,i)/\h'=h:=by
 cases y with
 |none=>cases h1
 |some y=>cases h1;exact⟨rfl,rfl⟩
def CP{o:Oper}(h1:wD P o.op ρ h a=some (x,h',i))(E:OK P i a)(d:C x h'):dg P o ρ h C:=by
 obtain⟨dst,op,type,pos,after,guard⟩:=o;simp only at h1;unfold wD at h1;unfold dg;split at h1;{cases h1;exact d};{cases h1;exact d}
 ·next c y z=>
  split at h1
  ·next b=>
   cases h1
   simp only[OK.O0 E];cases b<;>simp_all
  ·cases h1
 ·split at h1
  ·next z e=>cases h1;simp only[e];exact d
  ·cases h1
 ·obtain⟨v,F⟩:=eY h1;cases F;exact cm.2 ⟨v,d⟩
 ·split at h1
  ·next W R e=>
   split at h1;{next y u=>cases h1;exact UU e u d};{cases h1}
  ·cases h1
 ·split at h1
  ·next n R e=>
   split at h1
   ·next W u=>
    split at h1;{next k e3=>obtain⟨v,F⟩:=eY h1;cases F;simp only[e,Ae,u,e3];exact cm.2 ⟨v,d⟩};{cases h1}
   ·cases h1
  ·cases h1
 ·split at h1
  ·next e=>cases h1;simp only[e];exact d
  ·next e=>cases h1;simp only[e];exact d
  ·next e=>cases h1;simp only[e];exact d
  ·cases h1
 ·split at h1
  ·next e=>
   simp only[e];split at h1;{next u=>cases h1;simp only[u];exact d};{next u=>cases h1;simp only[u];exact d};{cases h1}
  ·cases h1
 ·obtain⟨e,rfl⟩:=QC h1;exact X8 e d
 ·obtain⟨e,rfl⟩:=EP h1;exact asT e E d
 ·split at h1
  ·next b z c A u=>
   obtain⟨v,F⟩:=eY h1;cases F;cases E with
   |ch h0 B=>simp only[A,u];refine cm.2 ⟨v,h0,?_⟩;simp only[B];exact d
  ·cases h1
 ·obtain⟨e,rfl⟩:=QC h1;exact akj e d
 ·obtain⟨e,rfl⟩:=QC h1;exact akT e d
 ·obtain⟨e,rfl⟩:=EP h1;exact amT e E d
 ·split at h1
  ·next e=>
   split at h1;{next u=>cases h1;simp only[e,u];exact d};{cases h1}
  ·cases h1
 ·split at h1
  ·next e=>cases h1;simp only[e];exact d
  ·cases h1
 ·obtain⟨e,rfl⟩:=EP h1;exact X9 e E d
 ·unfold zR;split at h1
  ·next e=>
   split at h1;{next u=>cases h1;simp only[e,u];exact d};{cases h1}
  ·cases h1
 ·obtain⟨e,rfl⟩:=EP h1;exact arq e E d
 ·next c=>
  split at h1
  ·next B=>
   simp only[B];split at h1;{next A u=>obtain⟨e,rfl⟩:=EP h1;simp only[A,u];exact arM (C:=λx=>C x _) e E d (λn hn=>hn)};{cases h1}
  ·next B=>
   simp only[B];split at h1;{next A u=>obtain⟨v,h1⟩:=lR h1;simp only[A,u];exact cm.2 ⟨v,arv h1 E d⟩};{cases h1}
  ·next B=>
   simp only[B];split at h1;{next A=>cases h1;simp only[A];exact d};{cases h1}
  ·next B=>
   simp only[B];split at h1;{next A=>cases h1;simp only[A];exact d};{cases h1}
  ·next f B=>
   simp only[B];split at h1
   ·next g N r e=>
    obtain⟨v,F⟩:=eY h1;cases F;simp only[Zo]at v;simp only[e];cases E with|call kZ=>exact(kZ.use v.1 v.2 d).Yq
   ·next g N r h2 e=>
    cases h1
    simp only[e];cases E with|kZ kZ=>exact kZ.mono λS h1 ⟨A,u⟩=>by subst A;subst u;exact d
   ·next g N l fD H r H' e=>
    cases h1
    simp only[e];cases E with|pR L M v J B=>exact(L▸(B.pR M v J).mono λS h1 ⟨A,u⟩=>by subst A;subst u;exact d:da P g _ _ _).Kz
   ·next g N l fD H r H' e=>
    cases h1
    simp only[e];cases E with|Om T hv L M v J B=>exact(L▸(B.pR M (by rw[v,ajp T]) (by rw[Zo]at J ⊢;exact⟨J.1,aqo T J.2⟩)).mono λS h1 ⟨A,u⟩=>by subst A;subst u;rw[<-ava hv];exact d:da P g _ _ _).Kz
   ·next g N l fD H r e=>
    cases h1
    simp only[e];cases E with|rq L M v J B=>exact(L▸(by have:=B.rq M v J [];rw[ZW]at this;exact this.mono λS h1 ⟨A,u⟩=>by subst A;subst u;exact d):da P g _ _ _).Kz
   ·next q r e=>
    obtain⟨v,F⟩:=eY h1;cases F;simp only[Zo]at v;simp only[e];cases E with|GU hq=>exact hq.use v.1 v.2 d
   ·cases h1
  ·cases h1
 ·next op _=>
  unfold xR at h1;split at h1
  ·next y h2 p e=>
   cases h1
   simp only[e];refine⟨?_,d⟩;cases p with
   |no=>trivial
   |lt n=>cases E with|sd h=>exact h
  ·cases h1
end
def jN:U (Nat×ct)->Nat->ct
 |[],_=>.none
 |(k,x)::l,i=>bif k==i then x else jN l i
def wc(i:In)(a:ct)(r:O (St×U (In×ct))):O (St×U (In×ct)):=
 match i with
 | .none=>r
 |i=>match r with
  |some (s,l)=>some (s,(i,a)::l)
  |none=>none
def Cl:ct->Bool
 | .VJ .. | .RK .. | .Hu .. =>true
 |_=>false
def BP(o:Oper):ct->Bool
 | .Hu [] .. =>cM o==6
 |_=>false
def Fc(P:eG)(dr b:Bool)(op:Op)(ρ:Operand->AV)(h:U ao)(a:ct):O (AV×U ao×In):=
 match a with
 | .va c=>bif dr&& !b then none else match jB P op ρ h c with
   |some (x,h',p)=>some (x,h',.pr p)
   |none=>none
 |a=>wD P op ρ h a
def pG(P:eG)(dr:Bool)(o:Oper)(j:Nat)(as:U (Nat×ct))(s:St):O (St×U (In×ct)):=
 bif dr&&Cl (jN as (3*j+1))&& !BP o (jN as (3*j+1))then none else
 match Fc P dr (kV o) o.op (ev s) s.h (jN as (3*j+1))with
 |some (x,h',i)=>match jN as (3*j+2)with
  | .eq y=>wc i (jN as (3*j+1)) (some ((s.wh h').put o.dst y,[(.eq x,.eq y)]))
  |_=>wc i (jN as (3*j+1)) (some ((s.wh h').put o.dst x,[]))
 |none=>none
def G9(o:Oper)(s:St):St:=s.put o.dst (.d (.v undef))
def s6(l:U (In×ct)):O (St×U (In×ct))->O (St×U (In×ct))
 |some (s,m)=>some (s,l++m)
 |none=>none
def pz(P:eG)(ops:Array Oper)(dr:Bool)(o:Oper)(j:Nat)(as:U (Nat×ct))(s:St):O (St×U (In×ct)):=
 match o.guard with
 |none=>pG P dr o j as s
 |some (g,c)=>match jN as (3*j)with
  | .bit b=>s6 [(.bit (w5 ops g s.t),.bit b)] (bif b==c then pG P dr o j as s else some (G9 o s,[]))
  | .FE=>s6 [(.bit (w5 ops g s.t),.FE)] (some (G9 o s,[]))
  |_=>none
def qw(P:eG)(ops:Array Oper)(dr:Bool):U Oper->Nat->U (Nat×ct)->St->O (St×U (In×ct))
 |[],_,_,s=>some (s,[])
 |o::rest,j,as,s=>match pz P ops dr o j as s with
  |some (s1,l)=>s6 l (qw P ops dr rest (j+1) as s1)
  |none=>none
def hX(P:eG)(l:U (In×ct)):Prop:=∀p∈l,OK P p.1 p.2
section
variable {P:eG} {ops:Array Oper} {dr:Bool} {o:Oper} {j:Nat} {as:U (Nat×ct)} {s s1:St} {l:U (In×ct)} {K:St->Prop}
def Kx{i:In}{a:ct}{r:O (St×U (In×ct))}(h:wc i a r=some (s1,l))(b:hX P l):∃m,r=some (s1,m)/\hX P m/\OK P i a:=by
 unfold wc at h;split at h;{exact⟨l,h,b,.none⟩}
 ·split at h
  ·next d m=>
   cases h
   exact⟨m,rfl,λp c=>b p (Zk _ c),b (i,a) Zt⟩
  ·cases h
def BO{r:O (St×U (In×ct))}{m:U (In×ct)}(h:s6 m r=some (s1,l))(c:hX P l):∃n,r=some (s1,n)/\hX P n/\hX P m:=by
 unfold s6 at h;split at h
 ·next d n=>
  cases h
  exact⟨n,rfl,λp b=>c p (aa _ b),λp b=>c p (aq _ b)⟩
 ·cases h
def Ov(P:eG)(dr:Bool)(o:Oper)(K:St->Prop)(s:St):Prop:=bif dr then Y5 P o K s else qW P o K s
def apv{x:AV}{h':U ao}{i:In}{a:ct}(h1:wD P o.op (ev s) s.h a=some (x,h',i))(d:OK P i a)(p:Cl a=false)(k:K ((s.wh h').put o.dst x)):Y5 P o K s:=by
 refine .inl ?_;unfold D9;split
 ·next c B=>
  split
  ·next f u=>
   rw[B]at h1;unfold wD at h1;simp only[u]at h1;split at h1
   ·next g E r e=>
    obtain⟨b,v⟩:=eY h1;cases v;simp only[Zo]at b;simp only[e];cases d with
    |call F=>exact⟨_,k,λe=>(F.use b.1 b.2 ⟨rfl,rfl⟩).Yq⟩
   ·cases p
   ·cases p
   ·cases p
   ·next g E l fD H r e=>
    cases h1
    simp only[e];cases d with|rq J L b M u=>exact⟨_,k,λe=>(J▸u.rq L b M e:da P g _ _ _).Kz⟩
   ·next q r e=>
    obtain⟨b,v⟩:=eY h1;cases v;simp only[Zo]at b;simp only[e];cases d with
    |GU N=>
     have:=λh=>N.use (h:=h) (C:=λR h'=>R=x/\h'=h) b.1 b.2 ⟨rfl,rfl⟩;obtain⟨g,S,z,_⟩:=this [];refine⟨g,S,z,x,k,λe=> ?_⟩;obtain⟨W,cw,A,T⟩:=this (s.h++e);rw[z]at A;cases A
     exact T
   ·cases h1
  ·exact CP (C:=λx h'=>K ((s.wh h').put o.dst x)) h1 d k
 ·exact CP (C:=λx h'=>K ((s.wh h').put o.dst x)) h1 d k
def avg{o:Oper}{ρ:Operand->AV}{h h':U ao}{fD:U AV}{H H':U ao}{r x:AV}{i:In}(d:cM o=6)(b:wD P o.op ρ h (.Hu [] fD H r H')=some (x,h',i)):h'=h++H'.map (ao.tO (rn [] h.length)):=by
 unfold cM at d;split at d
 all_goals first|(cases d;done)|skip
 next c e=>
  split at d
  all_goals first|(cases d;done)|skip
  next f g=>
   rw[e]at b;unfold wD at b;simp only[g]at b;generalize ρ f=v at b;cases v<;>first|(cases b;rfl)|cases b
def Xg(h:pG P dr o j as s=some (s1,l))(E:hX P l)(F:K s1):Ov P dr o K s:=by
 unfold pG at h;cases q:dr&&Cl (jN as (3*j+1))&& !BP o (jN as (3*j+1))with
 |true=>rw[q]at h;cases h
 |false=>
  rw[q]at h;simp only[Tf]at h;split at h
  ·next x h' i b=>
   have k:OK P i (jN as (3*j+1))->K ((s.wh h').put o.dst x)->Ov P dr o K s:=λc d=>by
    unfold Ov;cases dr with
    |true=>
     unfold Fc at b;split at b
     ·next u e=>
      cases v:kV o with
      |false=>rw[v]at b;cases b
      |true=>
       rw[v]at b;simp only[VX,Bool.and_false,Tf]at b;split at b
       ·next M N p z=>
        cases b
        rw[e]at c;cases c with|pr _ A=>exact .inr (.inr (.inl ⟨.inl ⟨v,rfl⟩,u,x,h',p,z,A,d⟩))
       ·cases b
     ·by_cases g:BP o (jN as (3*j+1))=true
      ·refine .inr (.inr (.inr ?_));generalize jN as (3*j+1)=a at g c b;unfold BP at g;split at g
       ·next fD H r H'=>
        have J:cM o=6:=by simpa using g
        have this:h'=s.h++H'.map (ao.tO (rn [] s.h.length)):=avg J b;refine⟨J,x,H'.map (ao.tO (rn [] s.h.length)),?_,λC L=> ?_⟩;{rw[<-this];exact d};{rw[<-this]at L;exact CP b c L}
       ·cases g
      ·exact apv b c (by simpa [g]using q) d
    |false=>
     unfold Fc at b;split at b
     ·next u e=>
      simp only[Bool.false_and,Tf]at b;split at b
      ·next M N p z=>
       cases b
       rw[e]at c;cases c with|pr _ A=>exact .inl ⟨u,x,h',p,z,A,d⟩
      ·cases b
     ·exact .inr (.inr (.inl (CP (C:=λx h'=>K ((s.wh h').put o.dst x)) b c d)))
   split at h
   ·next y R=>
    obtain⟨m,e,d,B⟩:=Kx h E;cases e
    have:=d (.eq x,.eq y) Zt;cases this with|eq e=>subst e;exact k B F
   ·obtain⟨m,e,d,B⟩:=Kx h E;cases e
    exact k B F
  ·cases h
def S6(h:pz P ops dr o j as s=some (s1,l))(u:hX P l)(k:K s1):jO ops o s (Ov P dr o K s) (K (s.put o.dst (.d (.v undef)))):=by
 unfold pz at h;split at h;{next p=>unfold jO;rw[p];exact Xg h u k}
 ·next g c p=>
  obtain⟨dst,op,ty,pos,after,guard⟩:=o;simp only at p;subst p;split at h
  ·next b F=>
   obtain⟨n,e,E,A⟩:=BO h u;have q:=OK.O0 (A (_,_) Zt);rw[La,q];refine⟨λB=> ?_,λB=> ?_⟩;{subst B;simp only[BEq.rfl,Tj]at e;exact Xg e E k}
   ·subst B;have:((!c)==c)=false:=by cases c<;>rfl
    rw[this]at e;simp only[Tf]at e;cases e
    exact k
  ·next F=>
   obtain⟨n,e,E,A⟩:=BO h u;cases e
   have q:=A (_,_) Zt;have J:w5 ops g s.t= .d (.v undef):=by
    generalize w5 ops g s.t=z at q;cases q;rfl
   rw[La,J];exact k
  ·cases h
def zn:∀(ol:U Oper)(j:Nat)(s:St)(l:U (In×ct)),qw P ops dr ol j as s=some (s1,l)->hX P l->K s1->(bif dr then Fv P ops ol K s else vT P ops ol K s)
 |[],_,s,l,h,_,b=>by cases h;cases dr<;>exact b
 |o::rest,j,s,l,h,k,b=>by
  unfold qw at h;split at h
  ·next p m c=>
   obtain⟨n,e,q,d⟩:=BO h k;have g:=zn rest (j+1) p n e q b;cases dr with
   |true=>exact S6 (K:=Fv P ops rest K) c d g
   |false=>exact S6 (K:=vT P ops rest K) c d g
  ·cases h
def RI(s:St)(d:O Nat)(x:AV):∃b,(s.put d x).t=b++s.t:=by
 cases d with
 |none=>exact⟨[],rfl⟩
 |some k=>
  by_cases c:k<s.n;{exact⟨[(k,x)],by rw[uc c];rfl⟩};{exact⟨[],by rw[Gj c];rfl⟩}
def Qu(h:pz P ops dr o j as s=some (s1,l)):(∃b,s1.t=b++s.t)/\s1.n=s.n:=by
 have k:∀{i a r l},wc i a r=some (s1,l)->∃m,r=some (s1,m):=fun{i a r l} h=>by
  unfold wc at h;split at h;{exact⟨_,h⟩}
  ·split at h
   ·cases h;exact⟨_,rfl⟩
   ·cases h
 have c:∀{m r l},s6 m r=some (s1,l)->∃m,r=some (s1,m):=fun{m r l} h=>by
  unfold s6 at h;split at h;{cases h;exact⟨_,rfl⟩};{cases h}
 have d:∀l,pG P dr o j as s=some (s1,l)->(∃b,s1.t=b++s.t)/\s1.n=s.n:=λl h=>by
  unfold pG at h;cases g:dr&&Cl (jN as (3*j+1))&& !BP o (jN as (3*j+1))with
  |true=>rw[g]at h;cases h
  |false=>
   rw[g]at h;simp only[Tf]at h;split at h;{split at h<;>(obtain⟨m,e⟩:=k h;cases e;exact⟨RI _ _ _,by rw[tA];rfl⟩)};{cases h}
 unfold pz at h;split at h;{exact d _ h}
 ·split at h
  ·obtain⟨m,e⟩:=c h;revert e;generalize ((_:Bool)==_)=q;intro e;cases q with
   |true=>exact d _ e
   |false=>cases e;exact⟨RI _ _ _,by unfold G9;rw[tA]⟩
  ·obtain⟨m,e⟩:=c h;cases e;exact⟨RI _ _ _,by unfold G9;rw[tA]⟩
  ·cases h
def Rg:∀(ol:U Oper)(j:Nat)(s:St)(l:U (In×ct)),qw P ops dr ol j as s=some (s1,l)->(∃b,s1.t=b++s.t)/\s1.n=s.n
 |[],_,s,l,h=>by cases h;exact⟨⟨[],rfl⟩,rfl⟩
 |o::rest,j,s,l,h=>by
  unfold qw at h;split at h
  ·next c m d=>
   unfold s6 at h;split at h
   ·next z n e=>
    cases h
    obtain⟨⟨g,k⟩,p⟩:=Qu d;obtain⟨⟨q,u⟩,v⟩:=Rg rest (j+1) c n e;exact⟨⟨q++g,by rw[u,k,ZU]⟩,v.trans p⟩
   ·cases h
  ·cases h
end
def X5:AV->Bool
 | .dead=>true
 |_=>false
def tg(P:eG)(dr:Bool)(l:U Oper)(as:U (Nat×ct))(keep:U Nat)(s:St):O (U (Nat×AV)×U ao×U (In×ct)):=
 match qw P l.toArray dr l 0 as s with
 |some (s1,ps)=>bif (s1.t.take (s1.t.length-s.t.length)).all (λp=>keep.any (·==p.1)||X5 (bE s.t p.1))then some (keep.map λk=>(k,bE s1.t k),s1.h,ps)else none
 |none=>none
def EV:∀(a b:U (Nat×AV))(i:Nat),(i∈a.map (·.1)/\bE (a++b) i=bE a i)\/(i ∉ a.map (·.1)/\bE (a++b) i=bE b i)
 |[],b,i=>.inr ⟨by simp,rfl⟩
 |(k,x)::a,b,i=>by
  by_cases e:i=k;{subst e;exact .inl ⟨by simp,by simp [mN]⟩}
  ·rcases EV a b i with⟨c,d⟩|⟨c,d⟩
   ·exact .inl ⟨by simp at c ⊢;exact .inr c,by rw[List.cons_append,mN,af e,d,mN,af e]⟩
   ·exact .inr ⟨by simp at c ⊢;exact⟨e,c⟩,by rw[List.cons_append,mN,af e,d]⟩
section
variable {P:eG} {dr:Bool} {as:U (Nat×ct)} {s s1 s':St} {ps:U (In×ct)} {keep:U Nat} {ol:U Oper} {Δ:U (Nat×AV)} {h':U ao}
def MS(h:tg P dr ol as keep s=some (Δ,h',ps)):∃s1,qw P ol.toArray dr ol 0 as s=some (s1,ps)/\s1.n=s.n/\s1.h=h'/\∀i,bE (Δ++s.t) i=bE s1.t i\/bE (Δ++s.t) i= .dead:=by
 unfold tg at h;split at h
 ·next s1 E g=>
  obtain⟨q,F⟩:=eY h;cases F
  obtain⟨⟨c,u⟩,J⟩:=Rg _ _ _ _ g;refine⟨s1,g,J,rfl,λi=> ?_⟩;have v:∀(f:Nat->AV),(keep.map λk=>(k,f k)).map (·.1)=keep:=λf=>by rw[List.map_map];exact List.map_id _
  rcases EV (keep.map λk=>(k,bE s1.t k)) s.t i with⟨b,d⟩|⟨b,d⟩
  ·rw[v]at b;rw[d,rT (λk=>bE s1.t k),ae b];exact .inl rfl
  ·rw[v]at b;rw[d];rw[u,Zi,Nat.add_sub_cancel,List.take_left']at q
   ·rw[u];rcases EV c s.t i with⟨A,B⟩|⟨A,B⟩
    ·right
     obtain⟨p,L,rfl⟩:=UZ.1 A;have:=Zc.1 q p L;rw[bh]at this;rcases this with this|this
     ·exfalso;obtain⟨k,M,e⟩:=List.any_eq_true.1 this;rw[TC]at e;exact b (e▸M)
     ·generalize bE s.t p.1=z at this;cases z<;>first|rfl|cases this
    ·exact .inl B.symm
   ·rfl
 ·cases h
def dk.less{G:Gh}{w:Zy}{a:Act}(b:dk G w a s1)(c:s'.n=s1.n)(d:s'.h=s1.h)(g:∀i,bE s'.t i=bE s1.t i\/bE s'.t i= .dead):dk G w a s':=
 ⟨b.size.trans c.symm,λi=>by
  rcases g i with e|e
  ·rw[e];exact b.tmp i
  ·rw[e];exact .dead _,by rw[d];exact b.inv,b.df⟩
end
structure Ob(P:Program) where
 i:In
 o:ct
 ok:OK P i o
def bT{P:eG}{e:Bool}(h:e=true):Ob P:=⟨_,_,.bit (b:=true) h⟩
def bF{P:eG}{e:Bool}(h:e=false):Ob P:=⟨_,_,.bit (b:=false) h⟩
def uN{P:eG}:Ob P:=⟨_,_,.FE⟩
def cL{P:eG}{f:FuncId}{args:U AV}{r:AV}(h:gq P f args (·=r)):Ob P:=⟨_,_,.call h⟩
def j9{P:eG}(l:U (Nat×Ob P)):U (Nat×ct):=l.map λb=>(b.1,b.2.o)
def kr{P:eG}(l:U (Nat×Ob P)):U (In×ct):=l.map λb=>(b.2.i,b.2.o)
def rX{P:eG}(l:U (Nat×Ob P)):hX P (kr l):=λp c=>by
 obtain⟨b,_,rfl⟩:=UZ.1 c;exact b.2.ok
section
variable {P:eG} {r:O Nat} {N0 id:Nat} {ol:U Oper} {y:Code} {s:St} {Q Q':Exit->St->Prop} {aB:U (Nat×Ob P)} {Δ:U (Nat×AV)} {h':U ao}
def Nc{c:Code}{s':St}(b:s'.n=s.n)(d:s'.h=s.h)(e:∀i,bE s'.t i=bE s.t i\/bE s'.t i= .dead)(h:bM P r N0 c Q s'):bM P r N0 c Q s:=
 ⟨λG w a n g k=>h.run G w a n (g.less b d e) k⟩
def Yh(aB:U (Nat×Ob P))(Δ:U (Nat×AV))(h':U ao)(h:tg P false ol (j9 aB) (Δ.map (·.1)) s=some (Δ,h',kr aB))(k:bM P r N0 y Q' ⟨s.n,Δ++s.t,h'⟩):bM P r N0 (.region id ol.toArray false) (jG (λs=>bM P r N0 y Q' s) Q) s:=by
 obtain⟨s1,b,c,d,e⟩:=MS h;refine fq ?_;exact zn (dr:=false) ol 0 s _ b (rX aB) (Nc (s:=s1) (s':=⟨s.n,Δ++s.t,h'⟩) c.symm d.symm e k)
def aok(b:P.follows .mixedOrders=true)(c:tZ ol.toArray=true)(aB:U (Nat×Ob P))(Δ:U (Nat×AV))(h':U ao)(h:tg P true ol (j9 aB) (Δ.map (·.1)) s=some (Δ,h',kr aB))(k:bM P r N0 y Q' ⟨s.n,Δ++s.t,h'⟩):bM P r N0 (.region id ol.toArray true) (jG (λs=>bM P r N0 y Q' s) Q) s:=by
 obtain⟨s1,d,e,g,p⟩:=MS h;refine OZ b c ?_;exact zn (dr:=true) ol 0 s _ d (rX aB) (Nc (s:=s1) (s':=⟨s.n,Δ++s.t,h'⟩) e.symm g.symm p k)
def zU(P:eG)(dr:Bool)(l:U Oper)(as:U (Nat×ct))(s:St):O (U (Nat×AV)×U ao×U (In×ct)):=
 match qw P l.toArray dr l 0 as s with
 |some (s1,ps)=>some (s1.t,s1.h,ps)
 |none=>none
def TT{dr:Bool}{as:U (Nat×ct)}{t:U (Nat×AV)}{ps:U (In×ct)}(h:zU P dr ol as s=some (t,h',ps)):qw P ol.toArray dr ol 0 as s=some (⟨s.n,t,h'⟩,ps):=by
 unfold zU at h;split at h
 ·next s1 c b=>
  cases h
  obtain⟨_,d⟩:=Rg _ _ _ _ b;rw[b,<-d]
 ·cases h
def amH(aB:U (Nat×Ob P))(Δ:U (Nat×AV))(h':U ao)(h:zU P false ol (j9 aB) s=some (Δ++s.t,h',kr aB))(k:Q .normal ⟨s.n,Δ++s.t,h'⟩):bM P r N0 (.region id ol.toArray false) Q s:=
 fq (zn (dr:=false) ol 0 s _ (TT h) (rX aB) k)
def auy(b:P.follows .mixedOrders=true)(c:tZ ol.toArray=true)(aB:U (Nat×Ob P))(Δ:U (Nat×AV))(h':U ao)(h:zU P true ol (j9 aB) s=some (Δ++s.t,h',kr aB))(k:Q .normal ⟨s.n,Δ++s.t,h'⟩):bM P r N0 (.region id ol.toArray true) Q s:=
 OZ b c (zn (dr:=true) ol 0 s _ (TT h) (rX aB) k)
end
def AV.fin(m:Nat)(x:AV):AV:=(x.bK m).nrm
def ao.sy:ao->ao
 | .cells b=>.cells (b.map AV.nrm)
 | .lp c p as bd b=>.lp c p as bd (b.map AV.nrm)
 | .it d b=>.it d (b.map AV.nrm)
 | .gu T b=>.gu T (b.map AV.nrm)
 | .vec e k b=>.vec e k (b.map (·.map AV.nrm))
 |B=>B
def k8(s:St)(live:U Nat)(m:Nat):O St:=bif cF m s.h.length&&(live.all λk=>((bE s.t k).bK m).aN m)&&(((s.h.take m).map (ao.bK m)).all (ao.aN m))then some ⟨s.n,live.map λk=>(k,(bE s.t k).fin m),((s.h.take m).map (ao.bK m)).map ao.sy⟩else none
def VZ{G:Gh}{w:Zy}{h:U ao}(hi:cp G w h):cp G w (h.map ao.sy):=by
 have fQ:∀(n:Nat)(B:ao),(h.map ao.sy)[n]?=some B->∃B',h[n]?=some B'/\B=B'.sy:=λn B v=>by
  rw[Zm]at v;cases q:h[n]? with
  |none=>rw[q]at v;cases v
  |some B'=>rw[q]at v;cases v;exact⟨B',rfl,rfl⟩
 have fg:∀n b,cu (h.map ao.sy) G n=some b->cu h G n=some b:=λn b hb=>by
  obtain⟨B,v,hb⟩:=nv hb;obtain⟨B',h1,rfl⟩:=fQ n B v;rw[eN h1,<-hb];cases B'<;>rfl
 refine⟨by rw[Zw];exact hi.len,hi.z,hi.S,λn B v=> ?_,λi j b h1 h2=>hi.inj i j b (fg i b h1) (fg j b h2),hi.gl⟩;obtain⟨B',h1,rfl⟩:=fQ n B v;have E:=hi.dN n B' h1;cases B' with
 |gone=>trivial
 |front e k len=>exact E
 |jC e b=>exact E
 |map kv=>exact E
 |l7 kv=>exact E
 |vec e k F=>
  obtain⟨J,L,M,N⟩:=E;refine⟨by rw[Zw];exact J,by rw[Zw];exact L,λc d=> ?_,?_⟩;{obtain⟨x,q,rfl⟩:=UZ.1 d;rw[Zw];exact M x q}
  ·rcases N with⟨d1,d2,A,d3⟩|⟨g,cap,cur,d1,d2,d3,d4,d5,d6,d7,d8,d9⟩
   ·exact .inl ⟨d1,by rw[d2];rfl,A,d3⟩
   ·refine .inr ⟨g,cap,cur,d1,by rw[Zw];exact d2,d3,d4,by rw[Zw];exact d5,d6,d7,d8,λi j c x u d q R=> ?_⟩;rw[Zm]at d;cases hy:F[i]? with
    |none=>rw[hy]at d;cases d
    |some y=>
     rw[hy]at d;cases d
     rw[Zm]at q;cases hw:y[j]? with
     |none=>rw[hw]at q;cases q
     |some z=>rw[hw]at q;cases q;exact(d9 i j y z u hy hw R).nrm
 |cells F=>
  obtain⟨J,L,W,T,M,N,c5⟩:=E;refine⟨J,L,W,T,M,by rw[Zw];exact N,λi u c R d=> ?_⟩;rw[Zm]at d;cases q:F[i]? with
  |none=>rw[q]at d;cases d
  |some x=>rw[q]at d;cases d;exact(c5 i u x R q).nrm
 |lp ls p as bd F=>
  obtain⟨J,L,fn,W,T,M,N,c5⟩:=E;refine⟨J,L,fn,W,T,M,by rw[Zw];exact N,λi u c R d=> ?_⟩;rw[Zm]at d;cases q:F[i]? with
  |none=>rw[q]at d;cases d
  |some x=>rw[q]at d;cases d;exact(c5 i u x R q).nrm
 |it sn F=>
  obtain⟨J,L,fn,W,T,M,N,c5⟩:=E;refine⟨J,L,fn,W,T,M,by rw[Zw];exact N,λi u c R d=> ?_⟩;rw[Zm]at d;cases q:F[i]? with
  |none=>rw[q]at d;cases d
  |some x=>rw[q]at d;cases d;exact(c5 i u x R q).nrm
 |gu T0 F=>
  obtain⟨J,L,fn,W,T,M,N,c5⟩:=E;refine⟨J,L,fn,W,T,M,by rw[Zw];exact N,λi u c R d=> ?_⟩;rw[Zm]at d;cases q:F[i]? with
  |none=>rw[q]at d;cases d
  |some x=>rw[q]at d;cases d;exact(c5 i u x R q).nrm
section
variable {P:eG} {r:O Nat} {n N0:Nat} {G:Gh} {w:Zy} {a:Act} {s s':St} {Q Q':Exit->St->Prop} {live:U Nat} {m:Nat}
def arh(h:k8 s live m=some s'):s.BD live m/\s'.n=s.n/\s'.t=(live.map λk=>(k,(bE s.t k).fin m))/\s'.h=((s.h.take m).map (ao.bK m)).map ao.sy:=by
 unfold k8 at h;obtain⟨b,rfl⟩:=eY h;rw[Zo,Zo]at b;exact⟨⟨dT.1 b.1.1,b.1.2,b.2⟩,rfl,rfl,rfl⟩
def dk.k8(b:dk G w a s)(h:k8 s live m=some s'):dk (G.cut m) w a s':=by
 obtain⟨e,g,p,q⟩:=arh h;have d:=b.mask e;refine⟨b.size.trans g.symm,λi=> ?_,by rw[q];exact VZ d.inv,b.df⟩;have:=d.tmp i
 change aM _ _ _ (bE (live.map λk=>(k,(bE s.t k).bK m)) i)at this
 rw[rT (λk=>(bE s.t k).bK m)]at this;rw[p,rT (λk=>(bE s.t k).fin m)];split at this;{rename_i c;rw[ae c];exact this.nrm};{rename_i c;rw[af c];exact .dead _}
def Pf{c:Code}{ι:Type}(live:U Nat)(m:Nat)(d:ι->St)(b:ι->Prop)(μ:ι->Nat)(k:ι)(q:N0<=m)(B:Go.Proofs.YtjploedinjiflaaGreatDoor.k8 s live m=some (d k))(E:b k)
 (round:∀i,b i->bM P r N0 c (jG (λs'=>∃i',Go.Proofs.YtjploedinjiflaaGreatDoor.k8 s' live m=some (d i')/\b i'/\μ i'<μ i) Q) (d i)):bM P r N0 (.loop c) Q s:=by
 constructor
 intro G w a n F _;refine Xy (λ(i:ι) p g=>∃G',b i/\cf N0 G w G' g/\N0<=G'.N/\dk G' g p (d i)) μ k ⟨G.cut m,E,rP _ _ _ _,q,F.k8 B⟩ ?_;rintro i p g ⟨G',J,u,L,M⟩;refine wpIn_mono ((round i J).run G' g p n M L) λe a1 w1 R=> ?_;obtain⟨G1,s1,v,S,z,A⟩:=R;cases e with
 |normal=>
  obtain⟨i',T,W,h3⟩:=A;exact⟨i',⟨G1.cut m,W,(u.trans v).trans (rP _ _ _ _),q,z.k8 T⟩,h3⟩
 |_=>exact⟨G1,s1,u.trans v,S,z,A⟩
def fR{c:Code}(live:U Nat)(m:Nat)(b:N0<=m)(d:Go.Proofs.YtjploedinjiflaaGreatDoor.k8 s live m=some s')(h:bM P r N0 c Q s'):bM P r N0 c Q s:=by
 constructor
 intro G w a n e _;exact wpIn_mono (h.run (G.cut m) w a n (e.k8 d) b) λ_ _ _ g=>g.trans (rP N0 G w m)
def EU{c y:Code}{ι:Type}(live:U Nat)(m:Nat)(d:ι->St)(b:ι->Prop)(g:N0<=m)(k:bM P r N0 c (jG (λs'=>∃i,Go.Proofs.YtjploedinjiflaaGreatDoor.k8 s' live m=some (d i)/\b i) Q) s)(p:∀i,b i->bM P r N0 y Q' (d i)):bM P r N0 c (jG (λs=>bM P r N0 y Q' s) Q) s:=by
 refine k.mono λe s' h=> ?_;cases e with
 |normal=>obtain⟨i,q,u⟩:=h;exact fR live m g q (p i u)
 |_=>exact h
def vr(P:eG)(s:St):U ResultVar->O (U AV)
 |[]=>some []
 | .tmp t::l=>match vr P s l with
   |some b=>some (bE s.t t::b)
   |none=>none
 | .cell p t::l=>match AW s.h (bE s.t p)with
   |some (d,c)=>match DN P t d c,vr P s l with
    |some x,some b=>some (x::b)
    |_,_=>none
   |none=>none
def zl(P:eG)(b:U ResultVar)(s:St):O AV:=
 match vr P s b with
 |some l=>bif ((ly l).bK 0).aN 0 then some ((ly l).fin 0)else none
 |none=>none
def mq(P:eG)(fn:Func)(R:AV):Exit->St->Prop
 | .normal,s=>zl P fn.results.toList s=some R
 | .ret,s=>zl P fn.results.toList s=some R
 |_,_=>False
def JN:∀(l:U ResultVar)(xs:U AV)(C:U AV->Prop),vr P s l=some xs->C xs->oS P s l C
 |[],xs,C,h,b=>by cases h;exact b
 | .tmp t::l,xs,C,h,b=>by
   unfold vr at h;split at h;{next c e=>cases h;exact JN l c _ e b};{cases h}
 | .cell p t::l,xs,C,h,b=>by
   unfold vr at h;split at h
   ·next q d e=>
    split at h;{next x c g k=>cases h;exact UU e g (JN l c _ k b)};{cases h}
   ·cases h
def X4{fn:Func}{R:AV}(h:zl P fn.results.toList s=some R):tC P fn 0 (λr h'=>h'=[]/\r.nrm=R) s:=by
 unfold zl at h;split at h
 ·next l e=>
  obtain⟨b,rfl⟩:=eY h;exact JN _ l _ e ⟨Wl _,b,by simp,by simp,rfl⟩
 ·cases h
def fX{fn:Func}{R:AV}(h:zl P fn.results.toList s=some R):mq P fn R .ret s:=h
def qZ{f:FuncId}{fn:Func}{c:Code}{args:U AV}{R:AV}(d:P.funcs[f]?=some fn)(g:fn.body=some c)(k:(fn.name== "runtime.NumGoroutine")=false)
 (p:bM P none 0 c (mq P fn R) {n:=args.length+(fn.ntmps-args.length),t:=nh 0 args,h:=[]}):gq P f args (·=R):=by
 have h:=we (P:=P) (f:=f) (args:=args) (h:=[]) (K:=λr h'=>h'=[]/\r.nrm=R) 0 d g k (Zx _) (p.mono λe s b=>by
  cases e with
  |normal=>exact X4 b
  |ret=>exact X4 b
  |_=>exact b.elim)
 refine⟨h.1,λG w q u z A=>(h.2 G w q u z A).mono λe N B=> ?_⟩;obtain⟨v,E,x,h',rfl,F,J,L,M,rfl,rfl⟩:=B;exact⟨v,E,x.nrm,[],rfl,F,J,L,M.nrm,rfl,rfl⟩
end
def aqw{P:eG}{r:O Nat}{N0 id:Nat}{ol:U Oper}{y:Code}{s:St}{Q Q':Exit->St->Prop}(Δ:U (Nat×AV))(h':U ao)(h:∃aB:U (Nat×Ob P),tg P false ol (j9 aB) (Δ.map (·.1)) s=some (Δ,h',kr aB))(k:bM P r N0 y Q' ⟨s.n,Δ++s.t,h'⟩):bM P r N0 (.region id ol.toArray false) (jG (λs=>bM P r N0 y Q' s) Q) s:=
 let ⟨aB,h⟩:=h;Yh aB Δ h' h k
def cS{α:Type}{c:Bool}{a b:α}(h:c=true):cond c a b=a:=by rw[h];rfl
def eu{α:Type}{c:Bool}{a b:α}(h:c=false):cond c a b=b:=by rw[h];rfl
def bJ{α β:Type}{x:O α}{f:α->O β}{b:β}(h:Option.bind x f=some b):∃a,x=some a/\f a=some b:=by
 cases x with
 |none=>cases h
 |some a=>exact⟨a,rfl,h⟩
def eo(b:Bool):b=true\/b=false:=by cases b<;>simp
def dG{b:Bool}(h:b=true):(!b)=false:=by rw[h];rfl
def eF{b:Bool}(h:b=false):(!b)=true:=by rw[h];rfl
def iw{α:Type}{c:Bool}{x:O α}{r:α}(h:(bif c then x else none)=some r):c=true:=by
 cases c with
 |true=>rfl
 |false=>cases h
section
variable {P:eG} {r:O Nat} {N0 id n:Nat} {ol:U Oper} {y:Code} {t:U (Nat×AV)} {h:U ao} {Q Q':Exit->St->Prop}
def rg(aB:U (Nat×Ob P))(Δ:U (Nat×AV))(h':U ao)(e:tg P false ol (j9 aB) (Δ.map (·.1)) ⟨n,t,h⟩=some (Δ,h',kr aB))(k:bM P r N0 y Q' ⟨n,Δ++t,h'⟩):bM P r N0 (.region id ol.toArray false) (jG (λs=>bM P r N0 y Q' s) Q) ⟨n,t,h⟩:=Yh aB Δ h' e k
def CM(aB:U (Nat×Ob P))(Δ:U (Nat×AV))(h':U ao)(k:bM P r N0 y Q' ⟨n,Δ++t,h'⟩)(e:tg P false ol (j9 aB) (Δ.map (·.1)) ⟨n,t,h⟩=some (Δ,h',kr aB):=by kernel_rfl):bM P r N0 (.region id ol.toArray false) (jG (λs=>bM P r N0 y Q' s) Q) ⟨n,t,h⟩:=rg aB Δ h' e k
def rd(b:P.follows .mixedOrders=true)(c:tZ ol.toArray=true)(aB:U (Nat×Ob P))(Δ:U (Nat×AV))(h':U ao)(e:tg P true ol (j9 aB) (Δ.map (·.1)) ⟨n,t,h⟩=some (Δ,h',kr aB))(k:bM P r N0 y Q' ⟨n,Δ++t,h'⟩):bM P r N0 (.region id ol.toArray true) (jG (λs=>bM P r N0 y Q' s) Q) ⟨n,t,h⟩:=aok b c aB Δ h' e k
def aaz(aB:U (Nat×Ob P))(Δ:U (Nat×AV))(h':U ao)(e:zU P false ol (j9 aB) ⟨n,t,h⟩=some (Δ++t,h',kr aB))(k:Q .normal ⟨n,Δ++t,h'⟩):bM P r N0 (.region id ol.toArray false) Q ⟨n,t,h⟩:=amH aB Δ h' e k
def BI(aB:U (Nat×Ob P))(Δ:U (Nat×AV))(h':U ao)(k:Q .normal ⟨n,Δ++t,h'⟩)(e:zU P false ol (j9 aB) ⟨n,t,h⟩=some (Δ++t,h',kr aB):=by kernel_rfl):bM P r N0 (.region id ol.toArray false) Q ⟨n,t,h⟩:=aaz aB Δ h' e k
def SD(b:P.follows .mixedOrders=true)(c:tZ ol.toArray=true)(aB:U (Nat×Ob P))(Δ:U (Nat×AV))(h':U ao)(e:zU P true ol (j9 aB) ⟨n,t,h⟩=some (Δ++t,h',kr aB))(k:Q .normal ⟨n,Δ++t,h'⟩):bM P r N0 (.region id ol.toArray true) Q ⟨n,t,h⟩:=auy b c aB Δ h' e k
def yS(Δ:U (Nat×AV))(h':U ao)(e:∃aB:U (Nat×Ob P),tg P false ol (j9 aB) (Δ.map (·.1)) ⟨n,t,h⟩=some (Δ,h',kr aB))(k:bM P r N0 y Q' ⟨n,Δ++t,h'⟩):bM P r N0 (.region id ol.toArray false) (jG (λs=>bM P r N0 y Q' s) Q) ⟨n,t,h⟩:=aqw Δ h' e k
end
def bs(l:U UInt8):so:=⟨l.toArray⟩
def yx(x:D):Prop:=∃(S:Nat->Nat->Prop)(w:Zy)(u:oZ),dR S w u x
def KK{xs:U (U D)}(h:yx (.sl xs)):xs.length<=maxLen:=by
 obtain⟨S,w,u,h⟩:=h;obtain⟨A,d,o,e,g,k,_,_,b,c,_⟩:=h.ui;exact Ze b c
def asn{xs:U (U D)}{i j:Nat}{c:U D}{d:D}(h:yx (.sl xs))(b:xs[i]?=some c)(e:c[j]?=some d):yx d:=by
 obtain⟨S,w,u,h⟩:=h;obtain⟨A,k,o,p,q,v,_,_,z,B,E,F,g⟩:=h.ui;exact⟨S,w,_,g i j c d b e⟩
section
variable {P:eG} {r:O Nat} {n N0:Nat} {s:St} {Q:Exit->St->Prop}
def rY{c:Code}(k:Nat)(xs:U (U D))(d:(bE s.t k).gV=some xs)(h:yx (.sl xs)->bM P r N0 c Q s):bM P r N0 c Q s:=by
 constructor
 intro G w a n b e;exact(h ⟨_,_,_,(b.tmp k).list d⟩).run G w a n b e
def aoR{c:Code}(b i:Nat)(xs:U (U D))(d:((s.h[b]?).bind λB=>match B with| .cells cs=>(cs[i]?).bind AV.gV|_=>none)=some xs)(h:yx (.sl xs)->bM P r N0 c Q s):bM P r N0 c Q s:=by
 constructor
 intro G w a n k p;cases g:s.h[b]? with
 |none=>rw[g]at d;cases d
 |some B=>
  rw[g]at d;cases B with
  |cells cs=>
   simp only[re]at d;obtain⟨_,_,vs,T,_,q,u⟩:=k.inv.dN b _ g;cases e:cs[i]? with
   |none=>rw[e]at d;cases d
   |some x=>
    rw[e]at d;have v:i<vs.size:=by rw[q];exact(Zj.1 e).1
    exact(h ⟨_,_,_,(u i _ x (ZI v) e).list d⟩).run G w a n k p
  |_=>cases d
end
end Go.Proofs.YtjploedinjiflaaGreatDoor
