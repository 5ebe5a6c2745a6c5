/-
  Part 8 of the proof: AbsWs, AbsDl, AbsTm, Cmp, RndD.
-/
import Derived.Test.YtdchibpnjpnkoaaGreatDoorPp7
import Derived.WalkKit
import Derived.Lib.Bytealg
namespace Go.Proofs.YtdchibpnjpnkoaaGreatDoor
open Go.RowKit
set_option linter.unusedSimpArgs false
set_option linter.unusedVariables false
structure DL{α:Type}(f:List α->List (List D))(k:Nat):Prop where
 len:∀l,(f l).length=l.length
 all:∀l,∀c∈f l,c.length=k
 app:∀a b,f a++f b=f (a++b)
section
variable {P:asq} {α:Type} {f:asn α->asn (asn D)} {k cE:Nat}
theorem MY{n:Nat}(hb:0<cE)(h:Nat.ble (n*cE) 140737488355328=true):n<=maxLen/\n*cE<=140737488355328:=by
 have h1:=arG h;have h2:n*1<=n*cE:=Nat.mul_le_mul_left n hb;refine⟨?_,h1⟩;unfold maxLen;omega
def oA(F:DL f k)(A B:asn α)(h:Nat.ble ((A.length+B.length)*cE) 140737488355328=true)(hb:0<cE:=by decide):Ob P:=
 ⟨_,_, .app (xs:=f A) (ys:=f B) (zs:=f (A++B)) (len:=A.length) (n:=(A++B).length) (F.len A).symm (F.all A) (F.all B) (by rw[F.len,F.len];exact(MY hb h).1) (by rw[F.len,F.len];exact(MY hb h).2) (F.app A B) (by rw[F.len,F.len,arz])⟩
def oZ(F:DL f k)(B:asn α)(h:Nat.ble ((0+B.length)*cE) 140737488355328=true)(hb:0<cE:=by decide):Ob P:=
 ⟨_,_, .app (xs:=[]) (ys:=f B) (zs:=f B) (len:=0) (n:=B.length) rfl (λ_ hc=>absurd hc ase) (F.all B) (by rw[F.len];exact(MY hb h).1) (by rw[F.len];exact(MY hb h).2) rfl (by rw[F.len];exact arS _)⟩
end
section
variable {P:asq} {f:FuncId} {er:asn AV} {H H':asn ao} {r:AV}
def oQ(ni:asn AV)(h:asn ao)(l:asn Nat)(hc:cG P f er H λr1 h1=>r1=r/\h1=H)(ha:ni=er.map (AV.aN (rn l 0)):=by kernel_rfl)(hd:pH l=true:=by kernel_rfl)(hb:l.map (λj=>h[j]?)=H.map (λB=>some (B.aN (rn l 0))):=by kernel_rfl)(hl:(er.all (AV.aQ H.length)&&H.all (ao.aQ H.length)&&r.aQ H.length)=true:=by kernel_rfl):Ob P:=⟨_,_, .rq ha hd hb hl hc⟩
def oR(ni:asn AV)(h:asn ao)(l:asn Nat)(hc:cG P f er H λr1 h1=>r1=r/\h1=H')(ha:ni=er.map (AV.aN (rn l h.length)):=by kernel_rfl)(hd:pH l=true:=by kernel_rfl)(hb:l.map (λj=>h[j]?)=H.map (λB=>some (B.aN (rn l h.length))):=by kernel_rfl)(hl:(er.all (AV.aQ H.length)&&H.all (ao.aQ H.length))=true:=by kernel_rfl):Ob P:=⟨_,_, .nN ha hd hb hl hc⟩
def oX(ph:VD H)(hv:VD H')(ni:asn AV)(h:asn ao)(l:asn Nat)(hc:cG P f er H λr1 h1=>r1=r/\h1=H')(ha:ni=er.map (AV.aN (rn l h.length)):=by kernel_rfl)(hd:pH l=true:=by kernel_rfl)(hb:l.map (λj=>h[j]?)=H.map (λB=>some (B.q6 (rn l h.length))):=by kernel_rfl)(hl:(er.all (AV.aQ H.length)&&H.all (ao.uC H.length))=true:=by kernel_rfl):Ob P:=⟨_,_, .aa5 ph hv ha hd hb hl hc⟩
end
section
variable {P:asq} {r:asp Nat} {N0:Nat} {Q:Exit->St->Prop} {w0:WO}
theorem yV{α:Type}{f:asn α->asn (asn D)}{z:Nat}(F:DL f z)(k:Nat)(l:asn α)(h:l.length<=maxLen->GW P r N0 Q w0)(hx:(bw (wS w0).t k).fe=some (f l):=by kernel_rfl):GW P r N0 Q w0:=
 aq5 k (f l) hx λe=>h (sP (F.len l) e)
theorem aiJ{α:Type}{f:asn α->asn (asn D)}{z:Nat}(F:DL f z)(b i:Nat)(l:asn α)(h:l.length<=maxLen->GW P r N0 Q w0)(hx:(((wS w0).h[b]?).bind λB=>match B with| .cells cs=>(cs[i]?).bind AV.fe|_=>none)=some (f l):=by kernel_rfl):GW P r N0 Q w0:=
 Mx b i (f l) hx λe=>h (sP (F.len l) e)
structure rb{α ι R:Type}(k:Nat)(live:List Nat)(m:Nat)(L:List α)(st:Nat->ι->St)(G:List α->Nat->ι->Option R)(rr:R)(n:Nat)(x:α)(l:List α)(i:ι)(f:St->Prop):Prop where
 h:LW k live m (λz:Nat×List α×ι=>st z.1 z.2.2) (λz=>L.drop z.1=z.2.1/\G z.2.1 z.1 z.2.2=some rr) (λz=>z.2.1.length) (n,x::l,i) f
structure vi{ι R:Type}(k:Nat)(live:List Nat)(m:Nat)(st:ι->St)(G:Nat->ι->Option R)(rr:R)(d:Nat)(f:St->Prop):Prop where
 h:∀i,LW k live m (λz:Nat×ι=>st z.2) (λz=>G z.1 z.2=some rr) (λz=>z.1) (d+1,i) f
theorem Ph(hm:P.follows .mixedOrders=true){α ι R:Type}{rr:R}(k:Nat)(aB:asn (asn (Nat×Ob P)))(live:asn Nat)(m:Nat)(L:asn α)(st:Nat->ι->St)(G:asn α->Nat->ι->asp R)(i0:ι)(hI:G L 0 i0=some rr)
 (nil:∀n i,L.drop n=[]->G [] n i=some rr->∀f:St->Prop,GW P r N0 Q (gr k f (st n i) (wk P w0 aB)))
 (cons:∀n x l i,L.drop n=x::l->G (x::l) n i=some rr->∀f:St->Prop,rb k live m L st G rr n x l i f->GW P r N0 Q (gr k f (st n i) (wk P w0 aB)))
 (hN:N0<=m) (e:mX live m (wk P w0 aB)=some (st 0 i0,dt aB)):GW P r N0 Q w0:=by
 refine Jw hm k aB live m (λz:Nat×asn α×ι=>st z.1 z.2.2) (λz=>L.drop z.1=z.2.1/\G z.2.1 z.1 z.2.2=some rr) (λz=>z.2.1.length) (0,L,i0) ⟨rfl,hI⟩ (λz hz f hf=> ?_) hN e;obtain⟨n,l,i⟩:=z;obtain⟨h1,h2⟩:=hz;cases l with
 |nil=>exact nil n i h1 h2 f
 |cons x l=>exact cons n x l i h1 h2 f ⟨hf⟩
theorem aoT(hm:P.follows .mixedOrders=true){α ι R:Type}{rr:R}{live:asn Nat}{m k:Nat}{L:asn α}{st:Nat->ι->St}{G:asn α->Nat->ι->asp R}{n:Nat}{x:α}{l:asn α}{i:ι}{f:St->Prop}(hf:rb k live m L st G rr n x l i f)(j:ι)(aB:asn (asn (Nat×Ob P)))(hd:L.drop n=x::l)(hI:G l (n+1) j=some rr)(e1:jm k (wK w0)=[f])(e:qq k live m (wk P w0 aB)=some (st (n+1) j,dt aB)):GW P r N0 Q w0:=
 An hm hf.h (n+1,l,j) aB ⟨l6 hd,hI⟩ (asl _) e1 e
theorem abJ(hm:P.follows .mixedOrders=true){ι R:Type}{rr:R}(k:Nat)(aB:asn (asn (Nat×Ob P)))(live:asn Nat)(m:Nat)(st:ι->St)(G:Nat->ι->asp R)(d:Nat)(i0:ι)(hI:G d i0=some rr)(h0:∀i,G 0 i=none)
 (succ:∀d i,G (d+1) i=some rr->∀f:St->Prop,vi k live m st G rr d f->GW P r N0 Q (gr k f (st i) (wk P w0 aB)))
 (hN:N0<=m) (e:mX live m (wk P w0 aB)=some (st i0,dt aB)):GW P r N0 Q w0:=by
 refine Jw hm k aB live m (λz:Nat×ι=>st z.2) (λz=>G z.1 z.2=some rr) (λz=>z.1) (d,i0) hI (λz hz f hf=> ?_) hN e;obtain⟨d,i⟩:=z;cases d with
 |zero=>exact absurd ((h0 i).symm.trans hz) (by simp)
 |succ d=>exact succ d i hz f ⟨λj=>⟨λs' i' h1 h2 h3=>hf.h s' i' h1 h2 h3⟩⟩
theorem amd(hm:P.follows .mixedOrders=true){ι R:Type}{rr:R}{live:asn Nat}{m k:Nat}{st:ι->St}{G:Nat->ι->asp R}{d:Nat}{f:St->Prop}(hf:vi k live m st G rr d f)(j:ι)(aB:asn (asn (Nat×Ob P)))(hI:G d j=some rr)(e1:jm k (wK w0)=[f])(e:qq k live m (wk P w0 aB)=some (st j,dt aB)):GW P r N0 Q w0:=
 An hm (hf.h j) (d,j) aB hI (asl _) e1 e
theorem OX{P:asq}{f:FuncId}{fn:Func}{args:asn AV}{R:AV}(hf:P.funcs[f]?=some fn)(hw:GW P none 0 (kI P fn R) (CF fn args []))(hb:fn.body.isSome=true:=by kernel_rfl)(hn:(fn.name== "runtime.NumGoroutine")=false:=by kernel_rfl):gD P f args (·=R):=amM hf hb hn hw
theorem Is{P:asq}{f:FuncId}{fn:Func}{args:asn AV}{h H:asn ao}{R:AV}(m:Nat)(hf:P.funcs[f]?=some fn)(hw:GW P none h.length (u6 P fn m R H) (CF fn args h))(hb:fn.body.isSome=true:=by kernel_rfl)(hn:(fn.name== "runtime.NumGoroutine")=false:=by kernel_rfl)(hm:h.length<=m:=by exact arG rfl):cG P f args h λr1 h1=>r1=R/\h1=H:=alu m hf hb hn hm hw
variable {α A B C D' R:Type} {rr:R}
theorem wl0(hm:P.follows .mixedOrders=true)(k:Nat)(aB:asn (asn (Nat×Ob P)))(live:asn Nat)(m:Nat)(L:asn α)(st:Nat->St)(G:asn α->Nat->asp R)(hI:G L 0=some rr)
 (nil:∀n,L.drop n=[]->G [] n=some rr->∀f:St->Prop,GW P r N0 Q (gr k f (st n) (wk P w0 aB)))
 (cons:∀n x l,L.drop n=x::l->G (x::l) n=some rr->∀f:St->Prop,rb k live m L (λn(_:Unit)=>st n) (λl n _=>G l n) rr n x l () f->GW P r N0 Q (gr k f (st n) (wk P w0 aB)))
 (hN:N0<=m:=by exact arG rfl) (e:mX live m (wk P w0 aB)=some (st 0,dt aB):=by kernel_rfl):GW P r N0 Q w0:=
 Ph hm k aB live m L (λn(_:Unit)=>st n) (λl n _=>G l n) () hI (λn _=>nil n) (λn x l _=>cons n x l) hN e
theorem T0(hm:P.follows .mixedOrders=true)(k:Nat)(aB:asn (asn (Nat×Ob P)))(live:asn Nat)(m:Nat)(L:asn α)(st:Nat->A->St)(G:asn α->Nat->A->asp R)(a0:A)(hI:G L 0 a0=some rr)
 (nil:∀n a,L.drop n=[]->G [] n a=some rr->∀f:St->Prop,GW P r N0 Q (gr k f (st n a) (wk P w0 aB)))
 (cons:∀n x l a,L.drop n=x::l->G (x::l) n a=some rr->∀f:St->Prop,rb k live m L st G rr n x l a f->GW P r N0 Q (gr k f (st n a) (wk P w0 aB)))
 (hN:N0<=m:=by exact arG rfl) (e:mX live m (wk P w0 aB)=some (st 0 a0,dt aB):=by kernel_rfl):GW P r N0 Q w0:=
 Ph hm k aB live m L st G a0 hI nil cons hN e
theorem wl2(hm:P.follows .mixedOrders=true)(k:Nat)(aB:asn (asn (Nat×Ob P)))(live:asn Nat)(m:Nat)(L:asn α)(st:Nat->A->B->St)(G:asn α->Nat->A->B->asp R)(a0:A)(b0:B)(hI:G L 0 a0 b0=some rr)
 (nil:∀n a b,L.drop n=[]->G [] n a b=some rr->∀f:St->Prop,GW P r N0 Q (gr k f (st n a b) (wk P w0 aB)))
 (cons:∀n x l a b,L.drop n=x::l->G (x::l) n a b=some rr->∀f:St->Prop,rb k live m L (λn(i:A×B)=>st n i.1 i.2) (λl n i=>G l n i.1 i.2) rr n x l (a,b) f->GW P r N0 Q (gr k f (st n a b) (wk P w0 aB)))
 (hN:N0<=m:=by exact arG rfl) (e:mX live m (wk P w0 aB)=some (st 0 a0 b0,dt aB):=by kernel_rfl):GW P r N0 Q w0:=
 Ph hm k aB live m L (λn(i:A×B)=>st n i.1 i.2) (λl n i=>G l n i.1 i.2) (a0,b0) hI (λn i=>nil n i.1 i.2) (λn x l i=>cons n x l i.1 i.2) hN e
theorem wb(hm:P.follows .mixedOrders=true){ι:Type}{live:asn Nat}{m k:Nat}{L:asn α}{st:Nat->ι->St}{G:asn α->Nat->ι->asp R}{n:Nat}{x:α}{l:asn α}{i:ι}{f:St->Prop}(hf:rb k live m L st G rr n x l i f)(j:ι)(aB:asn (asn (Nat×Ob P)))(hd:L.drop n=x::l)(hI:G l (n+1) j=some rr)(e1:jm k (wK w0)=[f]:=by kernel_rfl)(e:qq k live m (wk P w0 aB)=some (st (n+1) j,dt aB):=by kernel_rfl):GW P r N0 Q w0:=aoT hm hf j aB hd hI e1 e
theorem wf1(hm:P.follows .mixedOrders=true)(k:Nat)(aB:asn (asn (Nat×Ob P)))(live:asn Nat)(m:Nat)(st:A->St)(G:Nat->A->asp R)(d:Nat)(a0:A)(hI:G d a0=some rr)
 (succ:∀d a,G (d+1) a=some rr->∀f:St->Prop,vi k live m st G rr d f->GW P r N0 Q (gr k f (st a) (wk P w0 aB))) (h0:∀a,G 0 a=none:=by intros;rfl)
 (hN:N0<=m:=by exact arG rfl) (e:mX live m (wk P w0 aB)=some (st a0,dt aB):=by kernel_rfl):GW P r N0 Q w0:=
 abJ hm k aB live m st G d a0 hI h0 succ hN e
theorem wf2(hm:P.follows .mixedOrders=true)(k:Nat)(aB:asn (asn (Nat×Ob P)))(live:asn Nat)(m:Nat)(st:A->B->St)(G:Nat->A->B->asp R)(d:Nat)(a0:A)(b0:B)(hI:G d a0 b0=some rr)
 (succ:∀d a b,G (d+1) a b=some rr->∀f:St->Prop,vi k live m (λ(i:A×B)=>st i.1 i.2) (λd i=>G d i.1 i.2) rr d f->GW P r N0 Q (gr k f (st a b) (wk P w0 aB))) (h0:∀a b,G 0 a b=none:=by intros;rfl)
 (hN:N0<=m:=by exact arG rfl) (e:mX live m (wk P w0 aB)=some (st a0 b0,dt aB):=by kernel_rfl):GW P r N0 Q w0:=
 abJ hm k aB live m (λ(i:A×B)=>st i.1 i.2) (λd i=>G d i.1 i.2) d (a0,b0) hI (λi=>h0 i.1 i.2) (λd i=>succ d i.1 i.2) hN e
theorem wbf(hm:P.follows .mixedOrders=true){ι:Type}{live:asn Nat}{m k:Nat}{st:ι->St}{G:Nat->ι->asp R}{d:Nat}{f:St->Prop}(hf:vi k live m st G rr d f)(j:ι)(aB:asn (asn (Nat×Ob P)))(hI:G d j=some rr)(e1:jm k (wK w0)=[f]:=by kernel_rfl)(e:qq k live m (wk P w0 aB)=some (st j,dt aB):=by kernel_rfl):GW P r N0 Q w0:=amd hm hf j aB hI e1 e
def CG(g:Nat)(t:asp Nat):asn Oper->Nat->asn Nat
 |[],_=>[]
 |o::l,j=>match o.guard with
  |some (g',_)=>bif g'==g then(3*j)::CG g t l (j+1)else CG g t l (j+1)
  |none=>match o.op,t with
   | .pick (.tmp c) _ _,some t'=>bif c==t' then(3*j+1)::CG g t l (j+1)else CG g t l (j+1)
   |_,_=>CG g t l (j+1)
def apw(l:asn Oper)(g:Nat):asp Nat:=match l[g]? with
 |some o=>o.dst
 |none=>none
def wi:WO->asn Oper
 |some (.at (.region _ ops _) _ _,_)=>ops.toList
 |_=>[]
noncomputable def wy(ops:asn Oper)(sp si:asn (Nat×Ob P)):asn (Nat×Ob P):=so (sp.foldr (λx t=>os (CG x.1 (apw ops x.1) ops 0) x.2 t) si)
theorem JR(hm:P.follows .mixedOrders=true)(Δ:asn (Nat×AV))(h':asn ao)(e:∃sp si:asn (Nat×Ob P),Nf P (Δ.map (·.1)) (iO (wy (wi (wk P w0 [])) sp si)) (wk P w0 [])=some (Δ,h',iE (wy (wi (wk P w0 [])) sp si)))(k:GW P r N0 Q (ri Δ h' (wk P w0 [])))(e0:pN (wk P w0 [])=some []:=by kernel_rfl):GW P r N0 Q w0:=
 aon hm Δ h' (let ⟨_,_,h⟩:=e;⟨_,h⟩) k e0
theorem aiq(m:Nat)(hm:P.follows .mixedOrders=true)(Δ:asn (Nat×AV))(h':asn ao)(e:∃sp si:asn (Nat×Ob P),Mi P (Δ.map (·.1)) (iO (wy (wi (wk P w0 [])) sp si)) (wk P w0 [])=some (List.replicate m (Δ,h',iE (wy (wi (wk P w0 [])) sp si))))(k:GW P r N0 Q (ri Δ h' (wk P w0 [])))(e0:pN (wk P w0 [])=some []:=by kernel_rfl):GW P r N0 Q w0:=
 np m hm Δ h' (let ⟨_,_,h⟩:=e;⟨_,h⟩) k e0
theorem Xm(hm:P.follows .mixedOrders=true)(rr:R)(k:Nat)(aB:asn (asn (Nat×Ob P)))(live:asn Nat)(m:Nat)(st:St)(G:asp R)
 (br:∀f:St->Prop,sx k live m (λ(_:Unit)=>st) (λ_=>G=some rr) f->GW P r N0 Q (qa k f (wk P w0 aB)))
 (rest:G=some rr->GW P r N0 Q (pw st (wk P w0 aB))) (hN:N0<=m:=by exact arG rfl) (e:n3 (wk P w0 aB)=some (dt aB):=by kernel_rfl):GW P r N0 Q w0:=
 LV hm k aB live m (λ(_:Unit)=>st) (λ_=>G=some rr) br (λ_=>rest) hN e
theorem wj1(hm:P.follows .mixedOrders=true)(rr:R)(k:Nat)(aB:asn (asn (Nat×Ob P)))(live:asn Nat)(m:Nat)(st:A->St)(G:A->asp R)
 (br:∀f:St->Prop,sx k live m st (λa=>G a=some rr) f->GW P r N0 Q (qa k f (wk P w0 aB)))
 (rest:∀a,G a=some rr->GW P r N0 Q (pw (st a) (wk P w0 aB))) (hN:N0<=m:=by exact arG rfl) (e:n3 (wk P w0 aB)=some (dt aB):=by kernel_rfl):GW P r N0 Q w0:=
 LV hm k aB live m st (λa=>G a=some rr) br rest hN e
theorem wj2(hm:P.follows .mixedOrders=true)(rr:R)(k:Nat)(aB:asn (asn (Nat×Ob P)))(live:asn Nat)(m:Nat)(st:A->B->St)(G:A->B->asp R)
 (br:∀f:St->Prop,sx k live m (λ(i:A×B)=>st i.1 i.2) (λi=>G i.1 i.2=some rr) f->GW P r N0 Q (qa k f (wk P w0 aB)))
 (rest:∀a b,G a b=some rr->GW P r N0 Q (pw (st a b) (wk P w0 aB))) (hN:N0<=m:=by exact arG rfl) (e:n3 (wk P w0 aB)=some (dt aB):=by kernel_rfl):GW P r N0 Q w0:=
 LV hm k aB live m (λ(i:A×B)=>st i.1 i.2) (λi=>G i.1 i.2=some rr) br (λi=>rest i.1 i.2) hN e
theorem abe{α:Type}{f:α->asn D}{E:asn α}{h:asn ao}{k cE:Nat}{y:AV}(hk:∀c∈E.map f,c.length=k)(hy:y.fe=some (E.map f))(hm:E.length<=maxLen)(hb:E.length*cE<=140737488355328):
 ([]:asn (asn D))=[]/\zS h k y (bn (E.map f))/\bn (E.map f)=bn (E.map f)/\E.length=(bn (E.map f)).length/\E.length=(bn (E.map f)).length/\E.length<=maxLen/\E.length*cE<=140737488355328:=
 have hl:E.length=(bn (E.map f)).length:=by rw[EN,arD]
 ⟨rfl, .inl ⟨_,hy,hk,rfl⟩,rfl,hl,hl,hm,hb⟩
def tr(i j n:Nat):Nat:=bif n==i then j else bif n==j then i else n
theorem Xd(i j n:Nat):tr i j (tr i j n)=n:=by
 unfold tr;cases h1:n==i with
 |true=>
  rw[beq_iff_eq]at h1;subst h1;simp only[cond_true];cases h2:j==n with
  |true=>rw[beq_iff_eq]at h2;subst h2;rfl
  |false=>rw[ash];rfl
 |false=>
  simp only[cond_false];cases h2:n==j with
  |true=>rw[beq_iff_eq]at h2;subst h2;simp only[cond_true];rw[ash];rfl
  |false=>simp only[cond_false];rw[h1,h2];rfl
theorem ZV{i j n k:Nat}(hi:i<k)(hj:j<k)(hn:n<k):tr i j n<k:=by
 unfold tr;cases n==i with
 |true=>exact hj
 |false=>cases n==j with
  |true=>exact hi
  |false=>exact hn
def Ug(i j:Nat)(h:asn ao):asn ao:=match h[i]?,h[j]? with
 |some a,some b=>((h.set i b).set j a).map (ao.aN (tr i j))
 |_,_=>h
def Tl(i j:Nat)(s:St):St:=⟨s.n,s.t.map (λp=>(p.1,p.2.aN (tr i j))),Ug i j s.h⟩
theorem Wl(f:AV->AV)(hf:f .dead= .dead):∀(t:asn (Nat×AV))(i:Nat),bw (t.map λp=>(p.1,f p.2)) i=f (bw t i)
 |[],i=>by rw[List.map_nil];show AV.dead=f .dead;rw[hf]
 |(k,x)::t,i=>by
  rw[arX,kY,kY,Wl f hf t i];by_cases h:i=k
  ·rw[if_pos h,if_pos h]
  ·rw[if_neg h,if_neg h]
theorem ajT{i j:Nat}{s:St}(hi:i<s.h.length)(hj:j<s.h.length)(X6:N0<=i)(hNj:N0<=j):iA N0 s (Tl i j s):=by
 have ei:s.h[i]?=some s.h[i]:=arC hi;have ej:s.h[j]?=some s.h[j]:=arC hj;have eh:(Tl i j s).h=((s.h.set i s.h[j]).set j s.h[i]).map (ao.aN (tr i j)):=by
  show Ug i j s.h=_;unfold Ug;rw[ei,ej]
 refine iA.aN (tr i j) (tr i j) rfl (by rw[eh];simp) (λn hn=>ZV hi hj hn) (λn hn=>ZV hi hj hn) (λn _=>Xd i j n) (λn _=>Xd i j n) (λn hn=> ?_) (λn _=> .inl ?_) λn hn=> ?_
 ·unfold tr;rw[show(n==i)=false from beq_eq_false_iff_ne.2 (by omega),show(n==j)=false from beq_eq_false_iff_ne.2 (by omega)];rfl
 ·exact Wl (λx=>x.aN (tr i j)) rfl s.t n
 ·rw[eh,arF];refine congrArg (Option.map _) ?_;unfold tr;cases h1:n==i with
  |true=>
   rw[beq_iff_eq]at h1;subst h1;simp only[cond_true];rw[ar1 (by rw[List.length_set];exact hj),ei]
  |false=>
   simp only[cond_false];have pV:=beq_eq_false_iff_ne.1 h1;cases h2:n==j with
   |true=>
    rw[beq_iff_eq]at h2;subst h2;simp only[cond_true];rw[ar6 (by omega),ar1 hi,ej]
   |false=>
    have OS:=beq_eq_false_iff_ne.1 h2;simp only[cond_false];rw[ar6 (by omega),ar6 (by omega)]
theorem ajE{c:Code}{s s':St}(h:iA N0 s s')(k:bJ P r N0 c Q s'):bJ P r N0 c Q s:=⟨λG w a n hs hN=>by
 obtain⟨G1,hE,gd,eQ⟩:=h G w a hN hs;exact wpIn_mono (k.run G1 w a n eQ gd) λ_ _ _ hn=>hn.trans hE⟩
theorem ad7(i j:Nat)(k:GW P r N0 Q (C6 (Tl i j) w0))(hi:Nat.blt i (wS w0).h.length=true:=by kernel_rfl)(hj:Nat.blt j (wS w0).h.length=true:=by kernel_rfl)(X6:N0<=i:=by exact arG rfl)(hNj:N0<=j:=by exact arG rfl):GW P r N0 Q w0:=by
 constructor
 have k:=k.run;unfold yB at k ⊢;unfold C6 at k;split
 ·next c K s l=>
  exact ajE (ajT (arG hi) (arG hj) X6 hNj) k
 ·trivial
end
theorem kM:DL cb 1:=⟨λ_=>gC,λ_=>CA,λ_ _=>an8⟩
theorem Xv:DL ng 1:=⟨λ_=>Ea,λ_=>afZ,λ_ _=>anp⟩
theorem mV:DL cz 2:=⟨λ_=>dL,λ_=>Cr,λ_ _=>am6⟩
theorem Vq:DL nE 5:=⟨λ_=>anz,λ_=>ae9,λ_ _=>alV⟩
theorem alS:DL rQ 2:=⟨λ_=>VZ,λ_=>ai0,λ_ _=>aeH⟩
theorem EE:DL fa 3:=⟨λ_=>mE,λ_=>alC,λ_ _=>akR⟩
theorem od:DL dk 2:=⟨λ_=>dR,λ_=>Wk,λ_ _=>age⟩
theorem m9:DL eV 3:=⟨λ_=>fE,λ_=>ajz,λ_ _=>ahE⟩
theorem abI:DL oP 1:=⟨λ_=>P5,λ_=>amk,λ_ _=>amH⟩
theorem xW:DL fY 7:=⟨λ_=>kN,λ_=>ae4,λ_ _=>aoq⟩
theorem nf:DL cU 4:=⟨λ_=>eD,λ_=>Vc,λ_ _=>ad9⟩
theorem lR:DL dn 13:=⟨λ_=>dZ,λ_=>Jc,λ_ _=>aeA⟩
theorem vM:DL fO 22:=⟨λ_=>ji,λ_=>I3,λ_ _=>ajJ⟩
abbrev KF(f:FuncId)(args:asn AV)(R:AV):Prop:=gD Tryz.prog f args (·=R)
abbrev KH(f:FuncId)(args:asn AV)(h:asn ao)(R:AV)(H:asn ao):Prop:=cG Tryz.prog f args h λr1 h1=>r1=R/\h1=H
def KO{α:Type}(f:FuncId)(args:asn AV)(en:α->AV)(o:asp α):Prop:=∀r:α,o=some r->KF f args (en r)
def KP{α:Type}(f:FuncId)(args:asn AV)(h:asn ao)(en:α->AV)(eh:α->asn ao)(o:asp α):Prop:=∀r:α,o=some r->KH f args h (en r) (eh r)
def cK{α:Type}{f:FuncId}{args:asn AV}{en:α->AV}{o:asp α}{r:α}(k:KO f args en o)(h:o=some r):Ob Tryz.prog:=cL (k r h)
def IE{α:Type}(o:asp α)(G:α->Prop):Prop:=∀v,o=some v->G v
section
variable {α β:Type} {x:asp α} {G:α->Prop}
theorem aq{x:asp β}{f:β->asp α}(k:∀a,x=some a->IE (f a) G):IE (Option.bind x f) G:=λv h=>
 have ⟨a,h1,h2⟩:=dC h
 k a h1 v h2
theorem cO{c:Bool}(k:c=true->IE x G):IE (bif c then x else none) G:=λv h=>
 have ⟨h1,h2⟩:=l5 h
 k h1 v h2
theorem au{c:Bool}{a b:asp α}(t:c=true->IE a G)(f:c=false->IE b G):IE (bif c then a else b) G:=λv h=>bc h (λi j=>t i v j) λi j=>f i v j
theorem gE{α β γ:Type}{Φ:α->β->γ->Prop}{x:γ}(a:α)(b:β)(k:Φ a b x:=by kernel_rfl):IE (some x) λy=>∃a b,Φ a b y:=λv h=>sj h▸⟨a,b,k⟩
theorem bz{α β γ:Type}{Φ:α->asn β->γ->Prop}{o:asp γ}(x:β)(k:IE o λy=>∃a b,Φ a (x::b) y):IE o λy=>∃a b,Φ a b y:=λv h=>
 have ⟨a,b,c⟩:=k v h
 ⟨a,x::b,c⟩
theorem aY{α β γ:Type}{Φ:asn α->β->γ->Prop}{o:asp γ}(x:α)(k:IE o λy=>∃a b,Φ (x::a) b y):IE o λy=>∃a b,Φ a b y:=λv h=>
 have ⟨a,b,c⟩:=k v h
 ⟨x::a,b,c⟩
end
section
variable {α β:Type} {o:asp α} {x y:α} {r:asp Nat} {N0:Nat} {Q:α->Exit->St->Prop} {w0:WO}
theorem gA(aB:asn (asn (Nat×Ob Tryz.prog)))(k:IE o λq=>q=y->GW Tryz.prog r N0 (Q q) (wk Tryz.prog w0 aB))(e:pN (wk Tryz.prog w0 aB)=some (dt aB):=by kernel_rfl):IE o λq=>q=y->GW Tryz.prog r N0 (Q q) w0:=λv h q=>kx cn aB (k v h q) e
theorem gR{en:α->AV}{fn:Func}(aB:asn (asn (Nat×Ob Tryz.prog)))(e:sJ Tryz.prog fn.results.toList (wk Tryz.prog w0 aB)=some (en x,dt aB):=by kernel_rfl):IE (some x) λq=>q=y->GW Tryz.prog r N0 (kI Tryz.prog fn (en q)) w0:=λv h _=>sj h▸wr cn aB e
theorem gH{en:α->AV}{eh:α->asn ao}{fn:Func}{m:Nat}(aB:asn (asn (Nat×Ob Tryz.prog)))(e:NB Tryz.prog fn.results.toList m (wk Tryz.prog w0 aB)=some ((en x,eh x),dt aB):=by kernel_rfl):IE (some x) λq=>q=y->GW Tryz.prog r N0 (u6 Tryz.prog fn m (en q) (eh q)) w0:=λv h _=>sj h▸u9 cn aB e
theorem gG{x:asp β}{f:β->asp α}(Δ:β->asn (Nat×AV))(h':β->asn ao)(e:IE x λv=>∃sp si:asn (Nat×Ob Tryz.prog),Nf Tryz.prog ((Δ v).map (·.1)) (iO (wy (wi (wk Tryz.prog w0 [])) sp si)) (wk Tryz.prog w0 [])=some (Δ v,h' v,iE (wy (wi (wk Tryz.prog w0 [])) sp si)))(k:∀v,IE (f v) λq=>q=y->GW Tryz.prog r N0 (Q q) (ri (Δ v) (h' v) (wk Tryz.prog w0 [])))(e0:pN (wk Tryz.prog w0 [])=some []:=by kernel_rfl):IE (Option.bind x f) λq=>q=y->GW Tryz.prog r N0 (Q q) w0:=λv h q=>
 have ⟨a,h1,h2⟩:=dC h
 JR cn (Δ a) (h' a) (e a h1) (k a v h2 q) e0
theorem gU(m:Nat){x:asp β}{f:β->asp α}(Δ:β->asn (Nat×AV))(h':β->asn ao)(e:IE x λv=>∃sp si:asn (Nat×Ob Tryz.prog),Mi Tryz.prog ((Δ v).map (·.1)) (iO (wy (wi (wk Tryz.prog w0 [])) sp si)) (wk Tryz.prog w0 [])=some (List.replicate m (Δ v,h' v,iE (wy (wi (wk Tryz.prog w0 [])) sp si))))(k:∀v,IE (f v) λq=>q=y->GW Tryz.prog r N0 (Q q) (ri (Δ v) (h' v) (wk Tryz.prog w0 [])))(e0:pN (wk Tryz.prog w0 [])=some []:=by kernel_rfl):IE (Option.bind x f) λq=>q=y->GW Tryz.prog r N0 (Q q) w0:=λv h q=>
 have ⟨a,h1,h2⟩:=dC h
 aiq m cn (Δ a) (h' a) (e a h1) (k a v h2 q) e0
theorem aP{c:Bool}{b:asp α}{en:α->AV}{fn:Func}(f:c=false->IE b λq=>q=y->GW Tryz.prog r N0 (kI Tryz.prog fn (en q)) w0)(e:∀h:c=true,sJ Tryz.prog fn.results.toList (wk Tryz.prog w0 [[(0,bT h)],[]])=some (en x,dt (P:=Tryz.prog) [[(0,bT h)],[]]):=by intro h;kernel_rfl):IE (bif c then some x else b) λq=>q=y->GW Tryz.prog r N0 (kI Tryz.prog fn (en q)) w0:=au (λh=>gR [[(0,bT h)],[]] (e h)) (f)
theorem m0{c:Bool}{b:asp α}{en:α->AV}{fn:Func}(f:c=false->IE b λq=>q=y->GW Tryz.prog r N0 (kI Tryz.prog fn (en q)) w0)(e:∀h:c=true,sJ Tryz.prog fn.results.toList (wk Tryz.prog w0 [[(0,bF (bV h))],[]])=some (en x,dt (P:=Tryz.prog) [[(0,bF (bV h))],[]]):=by intro h;kernel_rfl):IE (bif c then some x else b) λq=>q=y->GW Tryz.prog r N0 (kI Tryz.prog fn (en q)) w0:=au (λh=>gR [[(0,bF (bV h))],[]] (e h)) (f)
theorem fp{c:Bool}{b:asp α}{en:α->AV}{fn:Func}(f:c=true->IE b λq=>q=y->GW Tryz.prog r N0 (kI Tryz.prog fn (en q)) w0)(e:∀h:c=false,sJ Tryz.prog fn.results.toList (wk Tryz.prog w0 [[(0,bF h)],[]])=some (en x,dt (P:=Tryz.prog) [[(0,bF h)],[]]):=by intro h;kernel_rfl):IE (bif c then b else some x) λq=>q=y->GW Tryz.prog r N0 (kI Tryz.prog fn (en q)) w0:=au (f) (λh=>gR [[(0,bF h)],[]] (e h))
theorem eg{c:Bool}{b:asp α}{en:α->AV}{fn:Func}(f:c=true->IE b λq=>q=y->GW Tryz.prog r N0 (kI Tryz.prog fn (en q)) w0)(e:∀h:c=false,sJ Tryz.prog fn.results.toList (wk Tryz.prog w0 [[(0,bT (cx h))],[]])=some (en x,dt (P:=Tryz.prog) [[(0,bT (cx h))],[]]):=by intro h;kernel_rfl):IE (bif c then b else some x) λq=>q=y->GW Tryz.prog r N0 (kI Tryz.prog fn (en q)) w0:=au (f) (λh=>gR [[(0,bT (cx h))],[]] (e h))
theorem dM{c:Bool}{b:asp α}{en:α->AV}{fn:Func}(f:∀h:c=false,IE b λq=>q=y->GW Tryz.prog r N0 (kI Tryz.prog fn (en q)) (wk Tryz.prog w0 [[(0,bF h)],[]]))(e:∀h:c=true,sJ Tryz.prog fn.results.toList (wk Tryz.prog w0 [[(0,bT h)],[]])=some (en x,dt (P:=Tryz.prog) [[(0,bT h)],[]]):=by intro h;kernel_rfl)(e2:∀h:c=false,pN (wk Tryz.prog w0 [[(0,bF h)],[]])=some (dt (P:=Tryz.prog) [[(0,bF h)],[]]):=by intro h;kernel_rfl):IE (bif c then some x else b) λq=>q=y->GW Tryz.prog r N0 (kI Tryz.prog fn (en q)) w0:=au (λh=>gR [[(0,bT h)],[]] (e h)) (λh=>gA [[(0,bF h)],[]] (f h) (e2 h))
def t0{c:Bool}(h:c=true):Nat×Ob Tryz.prog:=(0,bT h)
def f0{c:Bool}(h:c=false):Nat×Ob Tryz.prog:=(0,bF h)
theorem li{w1:WO}(f:∀q,GW Tryz.prog r N0 (Q q) w1->GW Tryz.prog r N0 (Q q) w0)(k:IE o λq=>q=y->GW Tryz.prog r N0 (Q q) w1):IE o λq=>q=y->GW Tryz.prog r N0 (Q q) w0:=λv h q=>f v (k v h q)
theorem Sg{w1:WO}{p:Prop}(f:∀q,(p->GW Tryz.prog r N0 (Q q) w1)->GW Tryz.prog r N0 (Q q) w0)(k:p->IE o λq=>q=y->GW Tryz.prog r N0 (Q q) w1):IE o λq=>q=y->GW Tryz.prog r N0 (Q q) w0:=λv h q=>f v λa=>k a v h q
theorem gT{β:Type}{f:asn β->asn (asn D)}{z:Nat}(F:DL f z)(k:Nat)(l:asn β)(h:l.length<=maxLen->IE o λq=>q=y->GW Tryz.prog r N0 (Q q) w0)(hx:(bw (wS w0).t k).fe=some (f l):=by kernel_rfl):IE o λq=>q=y->GW Tryz.prog r N0 (Q q) w0:=λv h2 q=>yV F k l (λa=>h a v h2 q) hx
theorem gB{β:Type}{f:asn β->asn (asn D)}{z:Nat}(F:DL f z)(b i:Nat)(l:asn β)(h:l.length<=maxLen->IE o λq=>q=y->GW Tryz.prog r N0 (Q q) w0)(hx:(((wS w0).h[b]?).bind λB=>match B with| .cells cs=>(cs[i]?).bind AV.fe|_=>none)=some (f l):=by kernel_rfl):IE o λq=>q=y->GW Tryz.prog r N0 (Q q) w0:=λv h2 q=>aiJ F b i l (λa=>h a v h2 q) hx
theorem fw{f:FuncId}{fn:Func}{args:asn AV}{en:α->AV}(hf:Tryz.prog.funcs[f]?=some fn)(hw:∀{y},IE o λq=>q=y->GW Tryz.prog none 0 (kI Tryz.prog fn (en q)) (CF fn args []))(hb:fn.body.isSome=true:=by kernel_rfl)(hn:(fn.name== "runtime.NumGoroutine")=false:=by kernel_rfl):KO f args en o:=λr h=>OX hf (hw r h rfl) hb hn
theorem fh{f:FuncId}{fn:Func}{args:asn AV}{h:asn ao}{en:α->AV}{eh:α->asn ao}(m:Nat)(hf:Tryz.prog.funcs[f]?=some fn)(hw:∀{y},IE o λq=>q=y->GW Tryz.prog none h.length (u6 Tryz.prog fn m (en q) (eh q)) (CF fn args h))(hb:fn.body.isSome=true:=by kernel_rfl)(hn:(fn.name== "runtime.NumGoroutine")=false:=by kernel_rfl)(hm:h.length<=m:=by exact arG rfl):KP f args h en eh o:=λr q=>Is m hf (hw r q rfl) hb hn hm
end
section
variable {α A B C D' R:Type} {rr:R} {r:asp Nat} {N0:Nat} {Q:R->Exit->St->Prop} {w0:WO}
theorem dO(k:Nat)(aB:asn (asn (Nat×Ob Tryz.prog)))(live:asn Nat)(m:Nat){L:asn α}(st:Nat->St){G:asn α->Nat->asp R}
 (nil:∀n,L.drop n=[]->∀f:St->Prop,IE (G [] n) λq=>q=rr->GW Tryz.prog r N0 (Q q) (gr k f (st n) (wk Tryz.prog w0 aB)))
 (cons:∀n x l,L.drop n=x::l->∀f:St->Prop,rb k live m L (λn(_:Unit)=>st n) (λl n _=>G l n) rr n x l () f->IE (G (x::l) n) λq=>q=rr->GW Tryz.prog r N0 (Q q) (gr k f (st n) (wk Tryz.prog w0 aB)))
 (hN:N0<=m:=by exact arG rfl) (e:mX live m (wk Tryz.prog w0 aB)=some (st 0,dt aB):=by kernel_rfl):IE (G L 0) λq=>q=rr->GW Tryz.prog r N0 (Q q) w0:=λv h q=>
 wl0 cn k aB live m L st G (q▸h) (λn a2 b2 f=>q▸nil n a2 f rr b2 rfl) (λn x l a2 b2 f c2=>q▸cons n x l a2 f c2 rr b2 rfl) hN e
theorem iy(k:Nat)(aB:asn (asn (Nat×Ob Tryz.prog)))(live:asn Nat)(m:Nat){L:asn α}(st:Nat->A->St){G:asn α->Nat->A->asp R}{a0:A}
 (nil:∀n a,L.drop n=[]->∀f:St->Prop,IE (G [] n a) λq=>q=rr->GW Tryz.prog r N0 (Q q) (gr k f (st n a) (wk Tryz.prog w0 aB)))
 (cons:∀n x l a,L.drop n=x::l->∀f:St->Prop,rb k live m L st G rr n x l a f->IE (G (x::l) n a) λq=>q=rr->GW Tryz.prog r N0 (Q q) (gr k f (st n a) (wk Tryz.prog w0 aB)))
 (hN:N0<=m:=by exact arG rfl) (e:mX live m (wk Tryz.prog w0 aB)=some (st 0 a0,dt aB):=by kernel_rfl):IE (G L 0 a0) λq=>q=rr->GW Tryz.prog r N0 (Q q) w0:=λv h q=>
 T0 cn k aB live m L st G a0 (q▸h) (λn a1 a2 b2 f=>q▸nil n a1 a2 f rr b2 rfl) (λn x l a1 a2 b2 f c2=>q▸cons n x l a1 a2 f c2 rr b2 rfl) hN e
theorem Mq(k:Nat)(aB:asn (asn (Nat×Ob Tryz.prog)))(live:asn Nat)(m:Nat){L:asn α}(st:Nat->A->B->St){G:asn α->Nat->A->B->asp R}{a0:A}{b0:B}
 (nil:∀n a b,L.drop n=[]->∀f:St->Prop,IE (G [] n a b) λq=>q=rr->GW Tryz.prog r N0 (Q q) (gr k f (st n a b) (wk Tryz.prog w0 aB)))
 (cons:∀n x l a b,L.drop n=x::l->∀f:St->Prop,rb k live m L (λn(i:A×B)=>st n i.1 i.2) (λl n i=>G l n i.1 i.2) rr n x l (a,b) f->IE (G (x::l) n a b) λq=>q=rr->GW Tryz.prog r N0 (Q q) (gr k f (st n a b) (wk Tryz.prog w0 aB)))
 (hN:N0<=m:=by exact arG rfl) (e:mX live m (wk Tryz.prog w0 aB)=some (st 0 a0 b0,dt aB):=by kernel_rfl):IE (G L 0 a0 b0) λq=>q=rr->GW Tryz.prog r N0 (Q q) w0:=λv h q=>
 wl2 cn k aB live m L st G a0 b0 (q▸h) (λn a1 b1 a2 b2 f=>q▸nil n a1 b1 a2 f rr b2 rfl) (λn x l a1 b1 a2 b2 f c2=>q▸cons n x l a1 b1 a2 f c2 rr b2 rfl) hN e
theorem gb{ι:Type}{live:asn Nat}{m k:Nat}{L:asn α}{st:Nat->ι->St}{G:asn α->Nat->ι->asp R}{n:Nat}{x:α}{l:asn α}{i:ι}{f:St->Prop}(hf:rb k live m L st G rr n x l i f)(j:ι)(aB:asn (asn (Nat×Ob Tryz.prog)))(hd:L.drop n=x::l)(e1:jm k (wK w0)=[f]:=by kernel_rfl)(e:qq k live m (wk Tryz.prog w0 aB)=some (st (n+1) j,dt aB):=by kernel_rfl):IE (G l (n+1) j) λq=>q=rr->GW Tryz.prog r N0 (Q q) w0:=λv h q=>wb cn hf j aB hd (q▸h) e1 e
theorem M4(k:Nat)(aB:asn (asn (Nat×Ob Tryz.prog)))(live:asn Nat)(m:Nat)(st:A->St)(G:Nat->A->asp R){d:Nat}{a0:A}
 (succ:∀d a,∀f:St->Prop,vi k live m st G rr d f->IE (G (d+1) a) λq=>q=rr->GW Tryz.prog r N0 (Q q) (gr k f (st a) (wk Tryz.prog w0 aB))) (h0:∀a,G 0 a=none:=by intros;rfl)
 (hN:N0<=m:=by exact arG rfl) (e:mX live m (wk Tryz.prog w0 aB)=some (st a0,dt aB):=by kernel_rfl):IE (G d a0) λq=>q=rr->GW Tryz.prog r N0 (Q q) w0:=λv h q=>wf1 cn k aB live m st G d a0 (q▸h) (λd a1 b2 f c2=>q▸succ d a1 f c2 rr b2 rfl) h0 hN e
theorem So(k:Nat)(aB:asn (asn (Nat×Ob Tryz.prog)))(live:asn Nat)(m:Nat)(st:A->B->St)(G:Nat->A->B->asp R){d:Nat}{a0:A}{b0:B}
 (succ:∀d a b,∀f:St->Prop,vi k live m (λ(i:A×B)=>st i.1 i.2) (λd i=>G d i.1 i.2) rr d f->IE (G (d+1) a b) λq=>q=rr->GW Tryz.prog r N0 (Q q) (gr k f (st a b) (wk Tryz.prog w0 aB))) (h0:∀a b,G 0 a b=none:=by intros;rfl)
 (hN:N0<=m:=by exact arG rfl) (e:mX live m (wk Tryz.prog w0 aB)=some (st a0 b0,dt aB):=by kernel_rfl):IE (G d a0 b0) λq=>q=rr->GW Tryz.prog r N0 (Q q) w0:=λv h q=>wf2 cn k aB live m st G d a0 b0 (q▸h) (λd a1 b1 b2 f c2=>q▸succ d a1 b1 f c2 rr b2 rfl) h0 hN e
theorem zc{ι:Type}{live:asn Nat}{m k:Nat}{st:ι->St}{G:Nat->ι->asp R}{d:Nat}{f:St->Prop}(hf:vi k live m st G rr d f)(j:ι)(aB:asn (asn (Nat×Ob Tryz.prog)))(e1:jm k (wK w0)=[f]:=by kernel_rfl)(e:qq k live m (wk Tryz.prog w0 aB)=some (st j,dt aB):=by kernel_rfl):IE (G d j) λq=>q=rr->GW Tryz.prog r N0 (Q q) w0:=λv h q=>wbf cn hf j aB (q▸h) e1 e
theorem gj0{o:asp R}(k:Nat)(aB:asn (asn (Nat×Ob Tryz.prog)))(live:asn Nat)(m:Nat)(st:St)(G:asp R)
 (br:∀f:St->Prop,sx k live m (λ(_:Unit)=>st) (λ_=>G=some rr) f->IE o λq=>q=rr->GW Tryz.prog r N0 (Q q) (qa k f (wk Tryz.prog w0 aB)))
 (rest:IE G λq=>q=rr->GW Tryz.prog r N0 (Q q) (pw st (wk Tryz.prog w0 aB))) (hN:N0<=m:=by exact arG rfl) (e:n3 (wk Tryz.prog w0 aB)=some (dt aB):=by kernel_rfl):IE o λq=>q=rr->GW Tryz.prog r N0 (Q q) w0:=λv h q=>Xm cn rr k aB live m st G (λf a=>br f a v h q) (λb2=>q▸rest rr b2 rfl) hN e
theorem ir{o:asp R}(k:Nat)(aB:asn (asn (Nat×Ob Tryz.prog)))(live:asn Nat)(m:Nat)(st:A->St)(G:A->asp R)
 (br:∀f:St->Prop,sx k live m st (λa=>G a=some rr) f->IE o λq=>q=rr->GW Tryz.prog r N0 (Q q) (qa k f (wk Tryz.prog w0 aB)))
 (rest:∀a,IE (G a) λq=>q=rr->GW Tryz.prog r N0 (Q q) (pw (st a) (wk Tryz.prog w0 aB))) (hN:N0<=m:=by exact arG rfl) (e:n3 (wk Tryz.prog w0 aB)=some (dt aB):=by kernel_rfl):IE o λq=>q=rr->GW Tryz.prog r N0 (Q q) w0:=λv h q=>wj1 cn rr k aB live m st G (λf a=>br f a v h q) (λa1 b2=>q▸rest a1 rr b2 rfl) hN e
theorem nF{o:asp R}(k:Nat)(aB:asn (asn (Nat×Ob Tryz.prog)))(live:asn Nat)(m:Nat)(st:A->B->St)(G:A->B->asp R)
 (br:∀f:St->Prop,sx k live m (λ(i:A×B)=>st i.1 i.2) (λi=>G i.1 i.2=some rr) f->IE o λq=>q=rr->GW Tryz.prog r N0 (Q q) (qa k f (wk Tryz.prog w0 aB)))
 (rest:∀a b,IE (G a b) λq=>q=rr->GW Tryz.prog r N0 (Q q) (pw (st a b) (wk Tryz.prog w0 aB))) (hN:N0<=m:=by exact arG rfl) (e:n3 (wk Tryz.prog w0 aB)=some (dt aB):=by kernel_rfl):IE o λq=>q=rr->GW Tryz.prog r N0 (Q q) w0:=λv h q=>wj2 cn rr k aB live m st G (λf a=>br f a v h q) (λa1 b1 b2=>q▸rest a1 b1 rr b2 rfl) hN e
theorem gm{ι:Type}{live:asn Nat}{m k:Nat}{st:ι->St}{G:ι->asp R}{f:St->Prop}(hf:sx k live m st (λi=>G i=some rr) f)(i:ι)(aB:asn (asn (Nat×Ob Tryz.prog)))(e1:jm k (wK w0)=[f]:=by kernel_rfl)(e:qq k live m (wk Tryz.prog w0 aB)=some (st i,dt aB):=by kernel_rfl):IE (G i) λq=>q=rr->GW Tryz.prog r N0 (Q q) w0:=λv h q=>NX cn hf i aB (q▸h) e1 e
structure BX{α ι R:Type}(k:Nat)(live:List Nat)(m:Nat)(ks:List Nat)(kn:List (Nat×Nat))(L:List α)(st:Nat->ι->St)(G:List α->Nat->ι->Option R)(rr:R)(n:Nat)(x:α)(l:List α)(i:ι)(f:St->Prop):Prop where
 h:I4 k live m ks kn (λz:Nat×List α×ι=>st z.1 z.2.2) (λz=>L.drop z.1=z.2.1/\G z.2.1 z.1 z.2.2=some rr) (λz=>z.2.1.length) (n,x::l,i) f
structure KV{ι R:Type}(k:Nat)(live:List Nat)(m:Nat)(ks:List Nat)(kn:List (Nat×Nat))(st:ι->St)(G:Nat->ι->Option R)(rr:R)(d:Nat)(f:St->Prop):Prop where
 h:∀i,I4 k live m ks kn (λz:Nat×ι=>st z.2) (λz=>G z.1 z.2=some rr) (λz=>z.1) (d+1,i) f
theorem NH(k:Nat)(aB:asn (asn (Nat×Ob Tryz.prog)))(live:asn Nat)(m:Nat)(ks:asn Nat)(kn:asn (Nat×Nat)){L:asn α}(st:Nat->A->St){G:asn α->Nat->A->asp R}{a0:A}
 (nil:∀n a,L.drop n=[]->∀f:St->Prop,IE (G [] n a) λq=>q=rr->GW Tryz.prog r N0 (Q q) (gr k f (st n a) (wk Tryz.prog w0 aB)))
 (cons:∀n x l a,L.drop n=x::l->∀f:St->Prop,BX k live m ks kn L st G rr n x l a f->IE (G (x::l) n a) λq=>q=rr->GW Tryz.prog r N0 (Q q) (gr k f (st n a) (wk Tryz.prog w0 aB)))
 (hN:N0<=m:=by exact arG rfl) (dS:asn (VE m):=[]) (e0:ov m (wk Tryz.prog w0 aB)=dS.map VE.x:=by kernel_rfl) (e:wv live m ks kn (wk Tryz.prog w0 aB)=some (st 0 a0,dt aB):=by kernel_rfl):IE (G L 0 a0) λq=>q=rr->GW Tryz.prog r N0 (Q q) w0:=λv h q=>
 yi cn k aB live m ks kn (λz:Nat×asn α×A=>st z.1 z.2.2) (λz=>L.drop z.1=z.2.1/\G z.2.1 z.1 z.2.2=some rr) (λz=>z.2.1.length) (0,L,a0) ⟨rfl,q▸h⟩ (λz hz f hf=>by
  obtain⟨n,l,i⟩:=z;obtain⟨h1,h2⟩:=hz;rw[q];cases l with
  |nil=>exact nil n i h1 f rr h2 rfl
  |cons x l=>exact cons n x l i h1 f ⟨hf⟩ rr h2 rfl) hN dS e0 e
theorem Y7(k:Nat)(aB:asn (asn (Nat×Ob Tryz.prog)))(live:asn Nat)(m:Nat)(ks:asn Nat)(kn:asn (Nat×Nat)){L:asn α}(st:Nat->St){G:asn α->Nat->asp R}
 (nil:∀n,L.drop n=[]->∀f:St->Prop,IE (G [] n) λq=>q=rr->GW Tryz.prog r N0 (Q q) (gr k f (st n) (wk Tryz.prog w0 aB)))
 (cons:∀n x l,L.drop n=x::l->∀f:St->Prop,BX k live m ks kn L (λn(_:Unit)=>st n) (λl n _=>G l n) rr n x l () f->IE (G (x::l) n) λq=>q=rr->GW Tryz.prog r N0 (Q q) (gr k f (st n) (wk Tryz.prog w0 aB)))
 (hN:N0<=m:=by exact arG rfl) (dS:asn (VE m):=[]) (e0:ov m (wk Tryz.prog w0 aB)=dS.map VE.x:=by kernel_rfl) (e:wv live m ks kn (wk Tryz.prog w0 aB)=some (st 0,dt aB):=by kernel_rfl):IE (G L 0) λq=>q=rr->GW Tryz.prog r N0 (Q q) w0:=
 NH k aB live m ks kn (λn(_:Unit)=>st n) (G:=(λl n _=>G l n)) (a0:=()) (λn i=>nil n) (λn x l i=>cons n x l) hN dS e0 e
theorem gx2(k:Nat)(aB:asn (asn (Nat×Ob Tryz.prog)))(live:asn Nat)(m:Nat)(ks:asn Nat)(kn:asn (Nat×Nat)){L:asn α}(st:Nat->A->B->St){G:asn α->Nat->A->B->asp R}{a0:A}{b0:B}
 (nil:∀n a b,L.drop n=[]->∀f:St->Prop,IE (G [] n a b) λq=>q=rr->GW Tryz.prog r N0 (Q q) (gr k f (st n a b) (wk Tryz.prog w0 aB)))
 (cons:∀n x l a b,L.drop n=x::l->∀f:St->Prop,BX k live m ks kn L (λn(i:A×B)=>st n i.1 i.2) (λl n i=>G l n i.1 i.2) rr n x l (a,b) f->IE (G (x::l) n a b) λq=>q=rr->GW Tryz.prog r N0 (Q q) (gr k f (st n a b) (wk Tryz.prog w0 aB)))
 (hN:N0<=m:=by exact arG rfl) (dS:asn (VE m):=[]) (e0:ov m (wk Tryz.prog w0 aB)=dS.map VE.x:=by kernel_rfl) (e:wv live m ks kn (wk Tryz.prog w0 aB)=some (st 0 a0 b0,dt aB):=by kernel_rfl):IE (G L 0 a0 b0) λq=>q=rr->GW Tryz.prog r N0 (Q q) w0:=
 NH k aB live m ks kn (λn(i:A×B)=>st n i.1 i.2) (G:=(λl n i=>G l n i.1 i.2)) (a0:=(a0,b0)) (λn i=>nil n i.1 i.2) (λn x l i=>cons n x l i.1 i.2) hN dS e0 e
theorem y8{ι:Type}{live:asn Nat}{m k:Nat}{ks:asn Nat}{kn:asn (Nat×Nat)}{L:asn α}{st:Nat->ι->St}{G:asn α->Nat->ι->asp R}{n:Nat}{x:α}{l:asn α}{i:ι}{f:St->Prop}(hf:BX k live m ks kn L st G rr n x l i f)(j:ι)(aB:asn (asn (Nat×Ob Tryz.prog)))(hd:L.drop n=x::l)(e1:jm k (wK w0)=[f]:=by kernel_rfl)(dS:asn (VE m):=[])(e0:ov m (wk Tryz.prog w0 aB)=dS.map VE.x:=by kernel_rfl)(e:zd k live m ks kn (wk Tryz.prog w0 aB)=some (st (n+1) j,dt aB):=by kernel_rfl):IE (G l (n+1) j) λq=>q=rr->GW Tryz.prog r N0 (Q q) w0:=λv h q=>
 C1 cn hf.h (n+1,l,j) aB ⟨l6 hd,q▸h⟩ (asl _) e1 dS e0 e
theorem ahe(k:Nat)(aB:asn (asn (Nat×Ob Tryz.prog)))(live:asn Nat)(m:Nat)(ks:asn Nat)(kn:asn (Nat×Nat))(st:A->B->St)(G:Nat->A->B->asp R){d:Nat}{a0:A}{b0:B}
 (succ:∀d a b,∀f:St->Prop,KV k live m ks kn (λ(i:A×B)=>st i.1 i.2) (λd i=>G d i.1 i.2) rr d f->IE (G (d+1) a b) λq=>q=rr->GW Tryz.prog r N0 (Q q) (gr k f (st a b) (wk Tryz.prog w0 aB))) (h0:∀a b,G 0 a b=none:=by intros;rfl)
 (hN:N0<=m:=by exact arG rfl) (dS:asn (VE m):=[]) (e0:ov m (wk Tryz.prog w0 aB)=dS.map VE.x:=by kernel_rfl) (e:wv live m ks kn (wk Tryz.prog w0 aB)=some (st a0 b0,dt aB):=by kernel_rfl):IE (G d a0 b0) λq=>q=rr->GW Tryz.prog r N0 (Q q) w0:=λv h q=>
 yi cn k aB live m ks kn (λz:Nat×(A×B)=>((λ(i:A×B)=>st i.1 i.2)) z.2) (λz=>((λd i=>G d i.1 i.2)) z.1 z.2=some rr) (λz=>z.1) (d,(a0,b0)) (q▸h) (λz hz f hf=>by
  obtain⟨d,i⟩:=z;rw[q];cases d with
  |zero=>exact absurd ((h0 i.1 i.2).symm.trans hz) (by simp)
  |succ d=>exact succ d i.1 i.2 f ⟨λj=>⟨λs' i' z0 z1 z2 z3=>hf.h s' i' z0 z1 z2 z3⟩⟩ rr hz rfl) hN dS e0 e
theorem aqf(k:Nat)(aB:asn (asn (Nat×Ob Tryz.prog)))(live:asn Nat)(m:Nat)(ks:asn Nat)(kn:asn (Nat×Nat))(st:A->B->C->St)(G:Nat->A->B->C->asp R){d:Nat}{a0:A}{b0:B}{c0:C}
 (succ:∀d a b c,∀f:St->Prop,KV k live m ks kn (λ(i:A×B×C)=>st i.1 i.2.1 i.2.2) (λd i=>G d i.1 i.2.1 i.2.2) rr d f->IE (G (d+1) a b c) λq=>q=rr->GW Tryz.prog r N0 (Q q) (gr k f (st a b c) (wk Tryz.prog w0 aB))) (h0:∀a b c,G 0 a b c=none:=by intros;rfl)
 (hN:N0<=m:=by exact arG rfl) (dS:asn (VE m):=[]) (e0:ov m (wk Tryz.prog w0 aB)=dS.map VE.x:=by kernel_rfl) (e:wv live m ks kn (wk Tryz.prog w0 aB)=some (st a0 b0 c0,dt aB):=by kernel_rfl):IE (G d a0 b0 c0) λq=>q=rr->GW Tryz.prog r N0 (Q q) w0:=λv h q=>
 yi cn k aB live m ks kn (λz:Nat×(A×B×C)=>((λ(i:A×B×C)=>st i.1 i.2.1 i.2.2)) z.2) (λz=>((λd i=>G d i.1 i.2.1 i.2.2)) z.1 z.2=some rr) (λz=>z.1) (d,(a0,b0,c0)) (q▸h) (λz hz f hf=>by
  obtain⟨d,i⟩:=z;rw[q];cases d with
  |zero=>exact absurd ((h0 i.1 i.2.1 i.2.2).symm.trans hz) (by simp)
  |succ d=>exact succ d i.1 i.2.1 i.2.2 f ⟨λj=>⟨λs' i' z0 z1 z2 z3=>hf.h s' i' z0 z1 z2 z3⟩⟩ rr hz rfl) hN dS e0 e
theorem aeE(k:Nat)(aB:asn (asn (Nat×Ob Tryz.prog)))(live:asn Nat)(m:Nat)(ks:asn Nat)(kn:asn (Nat×Nat))(st:A->B->C->D'->St)(G:Nat->A->B->C->D'->asp R){d:Nat}{a0:A}{b0:B}{c0:C}{d10:D'}
 (succ:∀d a b c d1,∀f:St->Prop,KV k live m ks kn (λ(i:A×B×C×D')=>st i.1 i.2.1 i.2.2.1 i.2.2.2) (λd i=>G d i.1 i.2.1 i.2.2.1 i.2.2.2) rr d f->IE (G (d+1) a b c d1) λq=>q=rr->GW Tryz.prog r N0 (Q q) (gr k f (st a b c d1) (wk Tryz.prog w0 aB))) (h0:∀a b c d1,G 0 a b c d1=none:=by intros;rfl)
 (hN:N0<=m:=by exact arG rfl) (dS:asn (VE m):=[]) (e0:ov m (wk Tryz.prog w0 aB)=dS.map VE.x:=by kernel_rfl) (e:wv live m ks kn (wk Tryz.prog w0 aB)=some (st a0 b0 c0 d10,dt aB):=by kernel_rfl):IE (G d a0 b0 c0 d10) λq=>q=rr->GW Tryz.prog r N0 (Q q) w0:=λv h q=>
 yi cn k aB live m ks kn (λz:Nat×(A×B×C×D')=>((λ(i:A×B×C×D')=>st i.1 i.2.1 i.2.2.1 i.2.2.2)) z.2) (λz=>((λd i=>G d i.1 i.2.1 i.2.2.1 i.2.2.2)) z.1 z.2=some rr) (λz=>z.1) (d,(a0,b0,c0,d10)) (q▸h) (λz hz f hf=>by
  obtain⟨d,i⟩:=z;rw[q];cases d with
  |zero=>exact absurd ((h0 i.1 i.2.1 i.2.2.1 i.2.2.2).symm.trans hz) (by simp)
  |succ d=>exact succ d i.1 i.2.1 i.2.2.1 i.2.2.2 f ⟨λj=>⟨λs' i' z0 z1 z2 z3=>hf.h s' i' z0 z1 z2 z3⟩⟩ rr hz rfl) hN dS e0 e
theorem RJ{ι:Type}{live:asn Nat}{m k:Nat}{ks:asn Nat}{kn:asn (Nat×Nat)}{st:ι->St}{G:Nat->ι->asp R}{d:Nat}{f:St->Prop}(hf:KV k live m ks kn st G rr d f)(j:ι)(aB:asn (asn (Nat×Ob Tryz.prog)))(e1:jm k (wK w0)=[f]:=by kernel_rfl)(dS:asn (VE m):=[])(e0:ov m (wk Tryz.prog w0 aB)=dS.map VE.x:=by kernel_rfl)(e:zd k live m ks kn (wk Tryz.prog w0 aB)=some (st j,dt aB):=by kernel_rfl):IE (G d j) λq=>q=rr->GW Tryz.prog r N0 (Q q) w0:=λv h q=>
 C1 cn (hf.h j) (d,j) aB (q▸h) (asl _) e1 dS e0 e
theorem OB{o:asp R}(k:Nat)(aB:asn (asn (Nat×Ob Tryz.prog)))(live:asn Nat)(m:Nat)(ks:asn Nat)(kn:asn (Nat×Nat))(st:A->St)(G:A->asp R)
 (br:∀f:St->Prop,Bn k live m ks kn st (λi=>G i=some rr) f->IE o λq=>q=rr->GW Tryz.prog r N0 (Q q) (qa k f (wk Tryz.prog w0 aB)))
 (rest:∀a,IE (G a) λq=>q=rr->GW Tryz.prog r N0 (Q q) (pw (st a) (wk Tryz.prog w0 aB))) (hN:N0<=m:=by exact arG rfl) (e:n3 (wk Tryz.prog w0 aB)=some (dt aB):=by kernel_rfl):IE o λq=>q=rr->GW Tryz.prog r N0 (Q q) w0:=λv h q=>
 R2 cn k aB live m ks kn st (λi=>G i=some rr) (λf a=>br f a v h q) (λi hi=>q▸rest i rr hi rfl) hN e
theorem ah7{o:asp R}(k:Nat)(aB:asn (asn (Nat×Ob Tryz.prog)))(live:asn Nat)(m:Nat)(ks:asn Nat)(kn:asn (Nat×Nat))(st:A->B->St)(G:A->B->asp R)
 (br:∀f:St->Prop,Bn k live m ks kn (λ(i:A×B)=>st i.1 i.2) (λi=>G i.1 i.2=some rr) f->IE o λq=>q=rr->GW Tryz.prog r N0 (Q q) (qa k f (wk Tryz.prog w0 aB)))
 (rest:∀a b,IE (G a b) λq=>q=rr->GW Tryz.prog r N0 (Q q) (pw (st a b) (wk Tryz.prog w0 aB))) (hN:N0<=m:=by exact arG rfl) (e:n3 (wk Tryz.prog w0 aB)=some (dt aB):=by kernel_rfl):IE o λq=>q=rr->GW Tryz.prog r N0 (Q q) w0:=λv h q=>
 R2 cn k aB live m ks kn (λ(i:A×B)=>st i.1 i.2) (λi=>G i.1 i.2=some rr) (λf a=>br f a v h q) (λi hi=>q▸rest i.1 i.2 rr hi rfl) hN e
theorem af5{o:asp R}(k:Nat)(aB:asn (asn (Nat×Ob Tryz.prog)))(live:asn Nat)(m:Nat)(ks:asn Nat)(kn:asn (Nat×Nat))(st:A->B->C->St)(G:A->B->C->asp R)
 (br:∀f:St->Prop,Bn k live m ks kn (λ(i:A×B×C)=>st i.1 i.2.1 i.2.2) (λi=>G i.1 i.2.1 i.2.2=some rr) f->IE o λq=>q=rr->GW Tryz.prog r N0 (Q q) (qa k f (wk Tryz.prog w0 aB)))
 (rest:∀a b c,IE (G a b c) λq=>q=rr->GW Tryz.prog r N0 (Q q) (pw (st a b c) (wk Tryz.prog w0 aB))) (hN:N0<=m:=by exact arG rfl) (e:n3 (wk Tryz.prog w0 aB)=some (dt aB):=by kernel_rfl):IE o λq=>q=rr->GW Tryz.prog r N0 (Q q) w0:=λv h q=>
 R2 cn k aB live m ks kn (λ(i:A×B×C)=>st i.1 i.2.1 i.2.2) (λi=>G i.1 i.2.1 i.2.2=some rr) (λf a=>br f a v h q) (λi hi=>q▸rest i.1 i.2.1 i.2.2 rr hi rfl) hN e
theorem nG{ι:Type}{live:asn Nat}{m k:Nat}{ks:asn Nat}{kn:asn (Nat×Nat)}{st:ι->St}{G:ι->asp R}{f:St->Prop}(hf:Bn k live m ks kn st (λi=>G i=some rr) f)(i:ι)(aB:asn (asn (Nat×Ob Tryz.prog)))(e1:jm k (wK w0)=[f]:=by kernel_rfl)(dS:asn (VE m):=[])(e0:ov m (wk Tryz.prog w0 aB)=dS.map VE.x:=by kernel_rfl)(e:zd k live m ks kn (wk Tryz.prog w0 aB)=some (st i,dt aB):=by kernel_rfl):IE (G i) λq=>q=rr->GW Tryz.prog r N0 (Q q) w0:=λv h q=>
 aiB cn hf i aB (q▸h) dS e0 e1 e
end
set_option maxRecDepth 100000
def NU(a b:aso):Int:=Lib.compareBytes (bL a) (bL b)
theorem aee(a b:aso)(w:ass):Calls Tryz.prog 292 #[.string a, .string b] w λe w'=>e= .returned (.int .i64 (NU a b))/\w'=w:=by
 go_enter Tryz.func292,Tryz.ntmps292
 go_wp2
 rw[run_callFunc_extern Tryz.func311 (by kernel_rfl) (by kernel_rfl) (by kernel_rfl) (e:=Extern.BytealgCompare.compare) (by kernel_rfl),Lib.run_compareString];simp only[Result.andThen];rw[Oper.upon_value]
 go_wp2
 go_ret
 exact⟨rfl,rfl⟩
theorem ara(a b:aso)(w:ass):Calls Tryz.prog 249 #[.string a, .string b] w λe w'=>e= .returned (.int .i64 (NU a b))/\w'=w:=by
 go_enter Tryz.func249,Tryz.ntmps249
 go_wp2_with (go_at_call 292;refine(aee _ _ _).mono ?_;rintro e w' ⟨rfl,rfl⟩)
 go_ret
 exact⟨rfl,rfl⟩
theorem aj5(a b:aso):gD Tryz.prog 249 [bq a,bq b] (·=aw (NU a b)):=by
 refine⟨by kernel_rfl,λG w vs hi hl hr=> ?_⟩;have h0:∃u v,vs= #[u,v]:=⟨vs[0]'(by rw[hl];exact arG rfl),vs[1]'(by rw[hl];exact arG rfl),Array.ext hl λi h1 h2=>by
  match i,h2 with
  |0,_=>rfl
  |1,_=>rfl⟩
 obtain⟨u,v,rfl⟩:=h0;have e0:=(hr 0 u _ rfl rfl).val;have e1:=(hr 1 v _ rfl rfl).val;subst e0;subst e1;refine(ara a b w).mono λe w' hp=> ?_;obtain⟨rfl,rfl⟩:=hp;exact⟨_,G,_,_,rfl,b7.refl _ _ _,arJ _,hi, .d (.v _),rfl,rfl⟩
def hX(a b:Int)(neg:Bool)(how:Int):Bool:=
 let q:=IntKind.u64.wrap (a.tdiv b);let r:=a.tmod b
 (r==0||how==3)||((how==1&& !neg)||(how==2&&neg))||(how==4&&(decide (IntKind.u64.wrap (2*r)<b)||(IntKind.u64.wrap (2*r)==b&&q.tmod 2==0)))
def tG(a b:Int)(neg:Bool)(how:Int):Int:=bif hX a b neg how then IntKind.u64.wrap (a.tdiv b)else IntKind.u64.wrap (IntKind.u64.wrap (a.tdiv b)+1)
end Go.Proofs.YtdchibpnjpnkoaaGreatDoor
