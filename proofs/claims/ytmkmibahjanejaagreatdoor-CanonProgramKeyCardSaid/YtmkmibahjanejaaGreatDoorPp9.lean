/-
  Part 9 of the proof: AbsWs, AbsDl, AbsTm, CpD, SortM, Bld, Fmt, PK1.
-/
import Derived.Test.YtmkmibahjanejaaGreatDoorPp8
import Derived.Test.YtmkmibahjanejaaGreatDoorProg
import Derived.WalkKit
import Derived.Shelf.SlSortCmp.NoneTotal
import Derived.Lib.Builder
import Derived.Lib.UnsafeStr
import Derived.Deep.AppendSrc
import Derived.Shelf.Strconv.Itoa1
import Derived.Shelf.Strconv.Itoa2
import Derived.Lib.ItoaMem
import Derived.Lib.AppendIntMem
import Derived.BigCall
import Derived.BigGuard
namespace Go.Proofs.YtmkmibahjanejaaGreatDoor
open Go.RowKit
set_option linter.unusedSimpArgs false
set_option linter.unusedVariables false
structure DL{α:Type}(f:List α->List (List D))(k:Nat):Prop where
 len:∀l,(f l).length=l.length
 all:∀l,∀c∈f l,c.length=k
 app:∀a b,f a++f b=f (a++b)
section
variable {P:aqA} {α:Type} {f:aqx α->aqx (aqx D)} {k da:Nat}
theorem Ma{n:Nat}(hb:0<da)(h:Nat.ble (n*da) 140737488355328=true):n<=maxLen/\n*da<=140737488355328:=by
 have h1:=apR h;have h2:n*1<=n*da:=Nat.mul_le_mul_left n hb;refine⟨?_,h1⟩;unfold maxLen;omega
def oA(F:DL f k)(A B:aqx α)(h:Nat.ble ((A.length+B.length)*da) 140737488355328=true)(hb:0<da:=by decide):Ob P:=
 ⟨_,_, .app (xs:=f A) (ys:=f B) (zs:=f (A++B)) (len:=A.length) (n:=(A++B).length) (F.len A).symm (F.all A) (F.all B) (by rw[F.len,F.len];exact(Ma hb h).1) (by rw[F.len,F.len];exact(Ma hb h).2) (F.app A B) (by rw[F.len,F.len,apK])⟩
def oZ(F:DL f k)(B:aqx α)(h:Nat.ble ((0+B.length)*da) 140737488355328=true)(hb:0<da:=by decide):Ob P:=
 ⟨_,_, .app (xs:=[]) (ys:=f B) (zs:=f B) (len:=0) (n:=B.length) rfl (λ_ hc=>absurd hc aqp) (F.all B) (by rw[F.len];exact(Ma hb h).1) (by rw[F.len];exact(Ma hb h).2) rfl (by rw[F.len];exact ap3 _)⟩
end
section
variable {P:aqA} {f:FuncId} {fa:aqx AV} {H H':aqx an} {r:AV}
def oQ(nI:aqx AV)(h:aqx an)(l:aqx Nat)(hc:cF P f fa H λr1 h1=>r1=r/\h1=H)(ha:nI=fa.map (AV.aL (rn l 0)):=by kernel_rfl)(hd:qZ l=true:=by kernel_rfl)(hb:l.map (λj=>h[j]?)=H.map (λB=>some (B.aL (rn l 0))):=by kernel_rfl)(hl:(fa.all (AV.aQ H.length)&&H.all (an.aQ H.length)&&r.aQ H.length)=true:=by kernel_rfl):Ob P:=⟨_,_, .rq ha hd hb hl hc⟩
def oR(nI:aqx AV)(h:aqx an)(l:aqx Nat)(hc:cF P f fa H λr1 h1=>r1=r/\h1=H')(ha:nI=fa.map (AV.aL (rn l h.length)):=by kernel_rfl)(hd:qZ l=true:=by kernel_rfl)(hb:l.map (λj=>h[j]?)=H.map (λB=>some (B.aL (rn l h.length))):=by kernel_rfl)(hl:(fa.all (AV.aQ H.length)&&H.all (an.aQ H.length))=true:=by kernel_rfl):Ob P:=⟨_,_, .oe ha hd hb hl hc⟩
end
section
variable {P:aqA} {r:aqz Nat} {N0:Nat} {Q:Exit->St->Prop} {w0:WO}
theorem Fq{α:Type}{f:aqx α->aqx (aqx D)}{z:Nat}(F:DL f z)(k:Nat)(l:aqx α)(h:l.length<=maxLen->GW P r N0 Q w0)(hx:(bC (wS w0).t k).fM=some (f l):=by kernel_rfl):GW P r N0 Q w0:=
 aoK k (f l) hx λe=>h (Be (F.len l) e)
theorem ahb{α:Type}{f:aqx α->aqx (aqx D)}{z:Nat}(F:DL f z)(b i:Nat)(l:aqx α)(h:l.length<=maxLen->GW P r N0 Q w0)(hx:(((wS w0).h[b]?).bind λB=>match B with| .cells cs=>(cs[i]?).bind AV.fM|_=>none)=some (f l):=by kernel_rfl):GW P r N0 Q w0:=
 Lu b i (f l) hx λe=>h (Be (F.len l) e)
structure qE{α ι R:Type}(k:Nat)(live:List Nat)(m:Nat)(L:List α)(st:Nat->ι->St)(G:List α->Nat->ι->Option R)(rr:R)(n:Nat)(x:α)(l:List α)(i:ι)(f:St->Prop):Prop where
 h:I1 k live m (λz:Nat×List α×ι=>st z.1 z.2.2) (λz=>L.drop z.1=z.2.1/\G z.2.1 z.1 z.2.2=some rr) (λz=>z.2.1.length) (n,x::l,i) f
structure vL{ι R:Type}(k:Nat)(live:List Nat)(m:Nat)(st:ι->St)(G:Nat->ι->Option R)(rr:R)(d:Nat)(f:St->Prop):Prop where
 h:∀i,I1 k live m (λz:Nat×ι=>st z.2) (λz=>G z.1 z.2=some rr) (λz=>z.1) (d+1,i) f
theorem Sw(hm:P.follows .mixedOrders=true){α ι R:Type}{rr:R}(k:Nat)(ax:aqx (aqx (Nat×Ob P)))(live:aqx Nat)(m:Nat)(L:aqx α)(st:Nat->ι->St)(G:aqx α->Nat->ι->aqz R)(i0:ι)(hI:G L 0 i0=some rr)
 (nil:∀n i,L.drop n=[]->G [] n i=some rr->∀f:St->Prop,GW P r N0 Q (inLoop k f (st n i) (wk P w0 ax)))
 (cons:∀n x l i,L.drop n=x::l->G (x::l) n i=some rr->∀f:St->Prop,qE k live m L st G rr n x l i f->GW P r N0 Q (inLoop k f (st n i) (wk P w0 ax)))
 (hN:N0<=m) (e:mL live m (wk P w0 ax)=some (st 0 i0,dE ax)):GW P r N0 Q w0:=by
 refine S2 hm k ax live m (λz:Nat×aqx α×ι=>st z.1 z.2.2) (λz=>L.drop z.1=z.2.1/\G z.2.1 z.1 z.2.2=some rr) (λz=>z.2.1.length) (0,L,i0) ⟨rfl,hI⟩ (λz hz f hf=> ?_) hN e;obtain⟨n,l,i⟩:=z;obtain⟨h1,h2⟩:=hz;cases l with
 |nil=>exact nil n i h1 h2 f
 |cons x l=>exact cons n x l i h1 h2 f ⟨hf⟩
theorem acU(hm:P.follows .mixedOrders=true){α ι R:Type}{rr:R}{live:aqx Nat}{m k:Nat}{L:aqx α}{st:Nat->ι->St}{G:aqx α->Nat->ι->aqz R}{n:Nat}{x:α}{l:aqx α}{i:ι}{f:St->Prop}(hf:qE k live m L st G rr n x l i f)(j:ι)(ax:aqx (aqx (Nat×Ob P)))(hd:L.drop n=x::l)(hI:G l (n+1) j=some rr)(e1:jP k (wK w0)=[f])(e:p5 k live m (wk P w0 ax)=some (st (n+1) j,dE ax)):GW P r N0 Q w0:=
 OO hm hf.h (n+1,l,j) ax ⟨tW hd,hI⟩ (aqv _) e1 e
theorem Ui(hm:P.follows .mixedOrders=true){ι R:Type}{rr:R}(k:Nat)(ax:aqx (aqx (Nat×Ob P)))(live:aqx Nat)(m:Nat)(st:ι->St)(G:Nat->ι->aqz R)(d:Nat)(i0:ι)(hI:G d i0=some rr)(h0:∀i,G 0 i=none)
 (succ:∀d i,G (d+1) i=some rr->∀f:St->Prop,vL k live m st G rr d f->GW P r N0 Q (inLoop k f (st i) (wk P w0 ax)))
 (hN:N0<=m) (e:mL live m (wk P w0 ax)=some (st i0,dE ax)):GW P r N0 Q w0:=by
 refine S2 hm k ax live m (λz:Nat×ι=>st z.2) (λz=>G z.1 z.2=some rr) (λz=>z.1) (d,i0) hI (λz hz f hf=> ?_) hN e;obtain⟨d,i⟩:=z;cases d with
 |zero=>exact absurd ((h0 i).symm.trans hz) (by simp)
 |succ d=>exact succ d i hz f ⟨λj=>⟨λs' i' h1 h2 h3=>hf.h s' i' h1 h2 h3⟩⟩
theorem aiQ(hm:P.follows .mixedOrders=true){ι R:Type}{rr:R}{live:aqx Nat}{m k:Nat}{st:ι->St}{G:Nat->ι->aqz R}{d:Nat}{f:St->Prop}(hf:vL k live m st G rr d f)(j:ι)(ax:aqx (aqx (Nat×Ob P)))(hI:G d j=some rr)(e1:jP k (wK w0)=[f])(e:p5 k live m (wk P w0 ax)=some (st j,dE ax)):GW P r N0 Q w0:=
 OO hm (hf.h j) (d,j) ax hI (aqv _) e1 e
theorem Sa{P:aqA}{f:FuncId}{fn:Func}{args:aqx AV}{R:AV}(hf:P.funcs[f]?=some fn)(hw:GW P none 0 (kR P fn R) (w7 fn args []))(hb:fn.body.isSome=true:=by kernel_rfl)(hn:(fn.name== "runtime.NumGoroutine")=false:=by kernel_rfl):ij P f args (·=R):=adr hf hb hn hw
theorem Ol{P:aqA}{f:FuncId}{fn:Func}{args:aqx AV}{h H:aqx an}{R:AV}(m:Nat)(hf:P.funcs[f]?=some fn)(hw:GW P none h.length (s7 P fn m R H) (w7 fn args h))(hb:fn.body.isSome=true:=by kernel_rfl)(hn:(fn.name== "runtime.NumGoroutine")=false:=by kernel_rfl)(hm:h.length<=m:=by exact apR rfl):cF P f args h λr1 h1=>r1=R/\h1=H:=alE m hf hb hn hm hw
variable {α A B C D' R:Type} {rr:R}
theorem wl0(hm:P.follows .mixedOrders=true)(k:Nat)(ax:aqx (aqx (Nat×Ob P)))(live:aqx Nat)(m:Nat)(L:aqx α)(st:Nat->St)(G:aqx α->Nat->aqz R)(hI:G L 0=some rr)
 (nil:∀n,L.drop n=[]->G [] n=some rr->∀f:St->Prop,GW P r N0 Q (inLoop k f (st n) (wk P w0 ax)))
 (cons:∀n x l,L.drop n=x::l->G (x::l) n=some rr->∀f:St->Prop,qE k live m L (λn(_:Unit)=>st n) (λl n _=>G l n) rr n x l () f->GW P r N0 Q (inLoop k f (st n) (wk P w0 ax)))
 (hN:N0<=m:=by exact apR rfl) (e:mL live m (wk P w0 ax)=some (st 0,dE ax):=by kernel_rfl):GW P r N0 Q w0:=
 Sw hm k ax live m L (λn(_:Unit)=>st n) (λl n _=>G l n) () hI (λn _=>nil n) (λn x l _=>cons n x l) hN e
theorem K7(hm:P.follows .mixedOrders=true)(k:Nat)(ax:aqx (aqx (Nat×Ob P)))(live:aqx Nat)(m:Nat)(L:aqx α)(st:Nat->A->St)(G:aqx α->Nat->A->aqz R)(a0:A)(hI:G L 0 a0=some rr)
 (nil:∀n a,L.drop n=[]->G [] n a=some rr->∀f:St->Prop,GW P r N0 Q (inLoop k f (st n a) (wk P w0 ax)))
 (cons:∀n x l a,L.drop n=x::l->G (x::l) n a=some rr->∀f:St->Prop,qE k live m L st G rr n x l a f->GW P r N0 Q (inLoop k f (st n a) (wk P w0 ax)))
 (hN:N0<=m:=by exact apR rfl) (e:mL live m (wk P w0 ax)=some (st 0 a0,dE ax):=by kernel_rfl):GW P r N0 Q w0:=
 Sw hm k ax live m L st G a0 hI nil cons hN e
theorem wl2(hm:P.follows .mixedOrders=true)(k:Nat)(ax:aqx (aqx (Nat×Ob P)))(live:aqx Nat)(m:Nat)(L:aqx α)(st:Nat->A->B->St)(G:aqx α->Nat->A->B->aqz R)(a0:A)(b0:B)(hI:G L 0 a0 b0=some rr)
 (nil:∀n a b,L.drop n=[]->G [] n a b=some rr->∀f:St->Prop,GW P r N0 Q (inLoop k f (st n a b) (wk P w0 ax)))
 (cons:∀n x l a b,L.drop n=x::l->G (x::l) n a b=some rr->∀f:St->Prop,qE k live m L (λn(i:A×B)=>st n i.1 i.2) (λl n i=>G l n i.1 i.2) rr n x l (a,b) f->GW P r N0 Q (inLoop k f (st n a b) (wk P w0 ax)))
 (hN:N0<=m:=by exact apR rfl) (e:mL live m (wk P w0 ax)=some (st 0 a0 b0,dE ax):=by kernel_rfl):GW P r N0 Q w0:=
 Sw hm k ax live m L (λn(i:A×B)=>st n i.1 i.2) (λl n i=>G l n i.1 i.2) (a0,b0) hI (λn i=>nil n i.1 i.2) (λn x l i=>cons n x l i.1 i.2) hN e
theorem wb(hm:P.follows .mixedOrders=true){ι:Type}{live:aqx Nat}{m k:Nat}{L:aqx α}{st:Nat->ι->St}{G:aqx α->Nat->ι->aqz R}{n:Nat}{x:α}{l:aqx α}{i:ι}{f:St->Prop}(hf:qE k live m L st G rr n x l i f)(j:ι)(ax:aqx (aqx (Nat×Ob P)))(hd:L.drop n=x::l)(hI:G l (n+1) j=some rr)(e1:jP k (wK w0)=[f]:=by kernel_rfl)(e:p5 k live m (wk P w0 ax)=some (st (n+1) j,dE ax):=by kernel_rfl):GW P r N0 Q w0:=acU hm hf j ax hd hI e1 e
theorem wf1(hm:P.follows .mixedOrders=true)(k:Nat)(ax:aqx (aqx (Nat×Ob P)))(live:aqx Nat)(m:Nat)(st:A->St)(G:Nat->A->aqz R)(d:Nat)(a0:A)(hI:G d a0=some rr)
 (succ:∀d a,G (d+1) a=some rr->∀f:St->Prop,vL k live m st G rr d f->GW P r N0 Q (inLoop k f (st a) (wk P w0 ax))) (h0:∀a,G 0 a=none:=by intros;rfl)
 (hN:N0<=m:=by exact apR rfl) (e:mL live m (wk P w0 ax)=some (st a0,dE ax):=by kernel_rfl):GW P r N0 Q w0:=
 Ui hm k ax live m st G d a0 hI h0 succ hN e
theorem wf2(hm:P.follows .mixedOrders=true)(k:Nat)(ax:aqx (aqx (Nat×Ob P)))(live:aqx Nat)(m:Nat)(st:A->B->St)(G:Nat->A->B->aqz R)(d:Nat)(a0:A)(b0:B)(hI:G d a0 b0=some rr)
 (succ:∀d a b,G (d+1) a b=some rr->∀f:St->Prop,vL k live m (λ(i:A×B)=>st i.1 i.2) (λd i=>G d i.1 i.2) rr d f->GW P r N0 Q (inLoop k f (st a b) (wk P w0 ax))) (h0:∀a b,G 0 a b=none:=by intros;rfl)
 (hN:N0<=m:=by exact apR rfl) (e:mL live m (wk P w0 ax)=some (st a0 b0,dE ax):=by kernel_rfl):GW P r N0 Q w0:=
 Ui hm k ax live m (λ(i:A×B)=>st i.1 i.2) (λd i=>G d i.1 i.2) d (a0,b0) hI (λi=>h0 i.1 i.2) (λd i=>succ d i.1 i.2) hN e
theorem wbf(hm:P.follows .mixedOrders=true){ι:Type}{live:aqx Nat}{m k:Nat}{st:ι->St}{G:Nat->ι->aqz R}{d:Nat}{f:St->Prop}(hf:vL k live m st G rr d f)(j:ι)(ax:aqx (aqx (Nat×Ob P)))(hI:G d j=some rr)(e1:jP k (wK w0)=[f]:=by kernel_rfl)(e:p5 k live m (wk P w0 ax)=some (st j,dE ax):=by kernel_rfl):GW P r N0 Q w0:=aiQ hm hf j ax hI e1 e
def AB(g:Nat)(t:aqz Nat):aqx Oper->Nat->aqx Nat
 |[],_=>[]
 |o::l,j=>match o.guard with
  |some (g',_)=>bif g'==g then(3*j)::AB g t l (j+1)else AB g t l (j+1)
  |none=>match o.op,t with
   | .pick (.tmp c) _ _,some t'=>bif c==t' then(3*j+1)::AB g t l (j+1)else AB g t l (j+1)
   |_,_=>AB g t l (j+1)
def aiK(l:aqx Oper)(g:Nat):aqz Nat:=match l[g]? with
 |some o=>o.dst
 |none=>none
def Kl:WO->aqx Oper
 |some (.at (.region _ ops _) _ _,_)=>ops.toList
 |_=>[]
noncomputable def H6(ops:aqx Oper)(sp si:aqx (Nat×Ob P)):aqx (Nat×Ob P):=so (sp.foldr (λx t=>os (AB x.1 (aiK ops x.1) ops 0) x.2 t) si)
theorem abZ(hm:P.follows .mixedOrders=true)(Δ:aqx (Nat×AV))(h':aqx an)(e:∃sp si:aqx (Nat×Ob P),Ho P (Δ.map (·.1)) (ja (H6 (Kl (wk P w0 [])) sp si)) (wk P w0 [])=some (Δ,h',jW (H6 (Kl (wk P w0 [])) sp si)))(k:GW P r N0 Q (vD Δ h' (wk P w0 [])))(e0:ub (wk P w0 [])=some []:=by kernel_rfl):GW P r N0 Q w0:=
 aok hm Δ h' (let ⟨_,_,h⟩:=e;⟨_,h⟩) k e0
theorem wj0(hm:P.follows .mixedOrders=true)(rr:R)(k:Nat)(ax:aqx (aqx (Nat×Ob P)))(live:aqx Nat)(m:Nat)(st:St)(G:aqz R)
 (br:∀f:St->Prop,vE k live m (λ(_:Unit)=>st) (λ_=>G=some rr) f->GW P r N0 Q (uF k f (wk P w0 ax)))
 (rest:G=some rr->GW P r N0 Q (uQ st (wk P w0 ax))) (hN:N0<=m:=by exact apR rfl) (e:rX (wk P w0 ax)=some (dE ax):=by kernel_rfl):GW P r N0 Q w0:=
 QX hm k ax live m (λ(_:Unit)=>st) (λ_=>G=some rr) br (λ_=>rest) hN e
theorem WS(hm:P.follows .mixedOrders=true)(rr:R)(k:Nat)(ax:aqx (aqx (Nat×Ob P)))(live:aqx Nat)(m:Nat)(st:A->St)(G:A->aqz R)
 (br:∀f:St->Prop,vE k live m st (λa=>G a=some rr) f->GW P r N0 Q (uF k f (wk P w0 ax)))
 (rest:∀a,G a=some rr->GW P r N0 Q (uQ (st a) (wk P w0 ax))) (hN:N0<=m:=by exact apR rfl) (e:rX (wk P w0 ax)=some (dE ax):=by kernel_rfl):GW P r N0 Q w0:=
 QX hm k ax live m st (λa=>G a=some rr) br rest hN e
theorem wj2(hm:P.follows .mixedOrders=true)(rr:R)(k:Nat)(ax:aqx (aqx (Nat×Ob P)))(live:aqx Nat)(m:Nat)(st:A->B->St)(G:A->B->aqz R)
 (br:∀f:St->Prop,vE k live m (λ(i:A×B)=>st i.1 i.2) (λi=>G i.1 i.2=some rr) f->GW P r N0 Q (uF k f (wk P w0 ax)))
 (rest:∀a b,G a b=some rr->GW P r N0 Q (uQ (st a b) (wk P w0 ax))) (hN:N0<=m:=by exact apR rfl) (e:rX (wk P w0 ax)=some (dE ax):=by kernel_rfl):GW P r N0 Q w0:=
 QX hm k ax live m (λ(i:A×B)=>st i.1 i.2) (λi=>G i.1 i.2=some rr) br (λi=>rest i.1 i.2) hN e
def tr(i j n:Nat):Nat:=bif n==i then j else bif n==j then i else n
end
theorem fb:DL b6 1:=⟨λ_=>dX,λ_=>Ko,λ_ _=>ahP⟩
theorem aff:DL po 1:=⟨λ_=>Lz,λ_=>ajh,λ_ _=>af1⟩
theorem lI:DL dh 2:=⟨λ_=>eK,λ_=>wP,λ_ _=>aiR⟩
theorem WZ:DL jz 2:=⟨λ_=>xU,λ_=>akg,λ_ _=>aiW⟩
theorem XR:DL ox 5:=⟨λ_=>alN,λ_=>akB,λ_ _=>aex⟩
theorem aj5:DL rD 2:=⟨λ_=>UK,λ_=>aj2,λ_ _=>agB⟩
theorem rP:DL hY 3:=⟨λ_=>kg,λ_=>ala,λ_ _=>aoG⟩
theorem lh:DL c6 2:=⟨λ_=>dT,λ_=>ag3,λ_ _=>aoy⟩
theorem kW:DL du 3:=⟨λ_=>dB,λ_=>apc,λ_ _=>afo⟩
theorem ZB:DL pC 1:=⟨λ_=>QP,λ_=>akq,λ_ _=>afp⟩
theorem ny:DL iT 7:=⟨λ_=>iy,λ_=>anm,λ_ _=>afI⟩
theorem lX:DL cZ 4:=⟨λ_=>fx,λ_=>ans,λ_ _=>ahh⟩
theorem lK:DL dW 13:=⟨λ_=>gq,λ_=>ah1,λ_ _=>agk⟩
theorem nA:DL gh 22:=⟨λ_=>gY,λ_=>RZ,λ_ _=>ag7⟩
abbrev KF(f:FuncId)(args:aqx AV)(R:AV):Prop:=ij Tryz.prog f args (·=R)
abbrev KH(f:FuncId)(args:aqx AV)(h:aqx an)(R:AV)(H:aqx an):Prop:=cF Tryz.prog f args h λr1 h1=>r1=R/\h1=H
def KO{α:Type}(f:FuncId)(args:aqx AV)(en:α->AV)(o:aqz α):Prop:=∀r:α,o=some r->KF f args (en r)
def KP{α:Type}(f:FuncId)(args:aqx AV)(h:aqx an)(en:α->AV)(eh:α->aqx an)(o:aqz α):Prop:=∀r:α,o=some r->KH f args h (en r) (eh r)
def cK{α:Type}{f:FuncId}{args:aqx AV}{en:α->AV}{o:aqz α}{r:α}(k:KO f args en o)(h:o=some r):Ob Tryz.prog:=cL (k r h)
def IE{α:Type}(o:aqz α)(G:α->Prop):Prop:=∀v,o=some v->G v
section
variable {α β:Type} {x:aqz α} {G:α->Prop}
theorem aq{x:aqz β}{f:β->aqz α}(k:∀a,x=some a->IE (f a) G):IE (Option.bind x f) G:=λv h=>
 have ⟨a,h1,h2⟩:=dw h
 k a h1 v h2
theorem aF{c:Bool}(k:c=true->IE x G):IE (bif c then x else none) G:=λv h=>
 have ⟨h1,h2⟩:=rY h
 k h1 v h2
theorem aw{c:Bool}{a b:aqz α}(t:c=true->IE a G)(f:c=false->IE b G):IE (bif c then a else b) G:=λv h=>bc h (λi j=>t i v j) λi j=>f i v j
theorem gE{α β γ:Type}{Φ:α->β->γ->Prop}{x:γ}(a:α)(b:β)(k:Φ a b x:=by kernel_rfl):IE (some x) λy=>∃a b,Φ a b y:=λv h=>sj h▸⟨a,b,k⟩
theorem cf{α β γ:Type}{Φ:α->aqx β->γ->Prop}{o:aqz γ}(x:β)(k:IE o λy=>∃a b,Φ a (x::b) y):IE o λy=>∃a b,Φ a b y:=λv h=>
 have ⟨a,b,c⟩:=k v h
 ⟨a,x::b,c⟩
theorem bU{α β γ:Type}{Φ:aqx α->β->γ->Prop}{o:aqz γ}(x:α)(k:IE o λy=>∃a b,Φ (x::a) b y):IE o λy=>∃a b,Φ a b y:=λv h=>
 have ⟨a,b,c⟩:=k v h
 ⟨x::a,b,c⟩
end
section
variable {α β:Type} {o:aqz α} {x y:α} {r:aqz Nat} {N0:Nat} {Q:α->Exit->St->Prop} {w0:WO}
theorem gA(ax:aqx (aqx (Nat×Ob Tryz.prog)))(k:IE o λq=>q=y->GW Tryz.prog r N0 (Q q) (wk Tryz.prog w0 ax))(e:ub (wk Tryz.prog w0 ax)=some (dE ax):=by kernel_rfl):IE o λq=>q=y->GW Tryz.prog r N0 (Q q) w0:=λv h q=>wC dJ ax (k v h q) e
theorem gR{en:α->AV}{fn:Func}(ax:aqx (aqx (Nat×Ob Tryz.prog)))(e:sL Tryz.prog fn.results.toList (wk Tryz.prog w0 ax)=some (en x,dE ax):=by kernel_rfl):IE (some x) λq=>q=y->GW Tryz.prog r N0 (kR Tryz.prog fn (en q)) w0:=λv h _=>sj h▸wr dJ ax e
theorem gH{en:α->AV}{eh:α->aqx an}{fn:Func}{m:Nat}(ax:aqx (aqx (Nat×Ob Tryz.prog)))(e:Hd Tryz.prog fn.results.toList m (wk Tryz.prog w0 ax)=some ((en x,eh x),dE ax):=by kernel_rfl):IE (some x) λq=>q=y->GW Tryz.prog r N0 (s7 Tryz.prog fn m (en q) (eh q)) w0:=λv h _=>sj h▸HM dJ ax e
theorem gG{x:aqz β}{f:β->aqz α}(Δ:β->aqx (Nat×AV))(h':β->aqx an)(e:IE x λv=>∃sp si:aqx (Nat×Ob Tryz.prog),Ho Tryz.prog ((Δ v).map (·.1)) (ja (H6 (Kl (wk Tryz.prog w0 [])) sp si)) (wk Tryz.prog w0 [])=some (Δ v,h' v,jW (H6 (Kl (wk Tryz.prog w0 [])) sp si)))(k:∀v,IE (f v) λq=>q=y->GW Tryz.prog r N0 (Q q) (vD (Δ v) (h' v) (wk Tryz.prog w0 [])))(e0:ub (wk Tryz.prog w0 [])=some []:=by kernel_rfl):IE (Option.bind x f) λq=>q=y->GW Tryz.prog r N0 (Q q) w0:=λv h q=>
 have ⟨a,h1,h2⟩:=dw h
 abZ dJ (Δ a) (h' a) (e a h1) (k a v h2 q) e0
theorem bB{c:Bool}{b:aqz α}{en:α->AV}{fn:Func}(f:c=false->IE b λq=>q=y->GW Tryz.prog r N0 (kR Tryz.prog fn (en q)) w0)(e:∀h:c=true,sL Tryz.prog fn.results.toList (wk Tryz.prog w0 [[(0,bT h)],[]])=some (en x,dE (P:=Tryz.prog) [[(0,bT h)],[]]):=by intro h;kernel_rfl):IE (bif c then some x else b) λq=>q=y->GW Tryz.prog r N0 (kR Tryz.prog fn (en q)) w0:=aw (λh=>gR [[(0,bT h)],[]] (e h)) (f)
theorem C8{c:Bool}{b:aqz α}{en:α->AV}{fn:Func}(f:c=false->IE b λq=>q=y->GW Tryz.prog r N0 (kR Tryz.prog fn (en q)) w0)(e:∀h:c=true,sL Tryz.prog fn.results.toList (wk Tryz.prog w0 [[(0,bF (cb h))],[]])=some (en x,dE (P:=Tryz.prog) [[(0,bF (cb h))],[]]):=by intro h;kernel_rfl):IE (bif c then some x else b) λq=>q=y->GW Tryz.prog r N0 (kR Tryz.prog fn (en q)) w0:=aw (λh=>gR [[(0,bF (cb h))],[]] (e h)) (f)
theorem lT{c:Bool}{b:aqz α}{en:α->AV}{fn:Func}(f:c=true->IE b λq=>q=y->GW Tryz.prog r N0 (kR Tryz.prog fn (en q)) w0)(e:∀h:c=false,sL Tryz.prog fn.results.toList (wk Tryz.prog w0 [[(0,bF h)],[]])=some (en x,dE (P:=Tryz.prog) [[(0,bF h)],[]]):=by intro h;kernel_rfl):IE (bif c then b else some x) λq=>q=y->GW Tryz.prog r N0 (kR Tryz.prog fn (en q)) w0:=aw (f) (λh=>gR [[(0,bF h)],[]] (e h))
theorem ff{c:Bool}{b:aqz α}{en:α->AV}{fn:Func}(f:c=true->IE b λq=>q=y->GW Tryz.prog r N0 (kR Tryz.prog fn (en q)) w0)(e:∀h:c=false,sL Tryz.prog fn.results.toList (wk Tryz.prog w0 [[(0,bT (cW h))],[]])=some (en x,dE (P:=Tryz.prog) [[(0,bT (cW h))],[]]):=by intro h;kernel_rfl):IE (bif c then b else some x) λq=>q=y->GW Tryz.prog r N0 (kR Tryz.prog fn (en q)) w0:=aw (f) (λh=>gR [[(0,bT (cW h))],[]] (e h))
theorem dd{c:Bool}{b:aqz α}{en:α->AV}{fn:Func}(f:∀h:c=false,IE b λq=>q=y->GW Tryz.prog r N0 (kR Tryz.prog fn (en q)) (wk Tryz.prog w0 [[(0,bF h)],[]]))(e:∀h:c=true,sL Tryz.prog fn.results.toList (wk Tryz.prog w0 [[(0,bT h)],[]])=some (en x,dE (P:=Tryz.prog) [[(0,bT h)],[]]):=by intro h;kernel_rfl)(e2:∀h:c=false,ub (wk Tryz.prog w0 [[(0,bF h)],[]])=some (dE (P:=Tryz.prog) [[(0,bF h)],[]]):=by intro h;kernel_rfl):IE (bif c then some x else b) λq=>q=y->GW Tryz.prog r N0 (kR Tryz.prog fn (en q)) w0:=aw (λh=>gR [[(0,bT h)],[]] (e h)) (λh=>gA [[(0,bF h)],[]] (f h) (e2 h))
def t0{c:Bool}(h:c=true):Nat×Ob Tryz.prog:=(0,bT h)
def f0{c:Bool}(h:c=false):Nat×Ob Tryz.prog:=(0,bF h)
theorem li{w1:WO}(f:∀q,GW Tryz.prog r N0 (Q q) w1->GW Tryz.prog r N0 (Q q) w0)(k:IE o λq=>q=y->GW Tryz.prog r N0 (Q q) w1):IE o λq=>q=y->GW Tryz.prog r N0 (Q q) w0:=λv h q=>f v (k v h q)
theorem OR{w1:WO}{p:Prop}(f:∀q,(p->GW Tryz.prog r N0 (Q q) w1)->GW Tryz.prog r N0 (Q q) w0)(k:p->IE o λq=>q=y->GW Tryz.prog r N0 (Q q) w1):IE o λq=>q=y->GW Tryz.prog r N0 (Q q) w0:=λv h q=>f v λa=>k a v h q
theorem gT{β:Type}{f:aqx β->aqx (aqx D)}{z:Nat}(F:DL f z)(k:Nat)(l:aqx β)(h:l.length<=maxLen->IE o λq=>q=y->GW Tryz.prog r N0 (Q q) w0)(hx:(bC (wS w0).t k).fM=some (f l):=by kernel_rfl):IE o λq=>q=y->GW Tryz.prog r N0 (Q q) w0:=λv h2 q=>Fq F k l (λa=>h a v h2 q) hx
theorem gB{β:Type}{f:aqx β->aqx (aqx D)}{z:Nat}(F:DL f z)(b i:Nat)(l:aqx β)(h:l.length<=maxLen->IE o λq=>q=y->GW Tryz.prog r N0 (Q q) w0)(hx:(((wS w0).h[b]?).bind λB=>match B with| .cells cs=>(cs[i]?).bind AV.fM|_=>none)=some (f l):=by kernel_rfl):IE o λq=>q=y->GW Tryz.prog r N0 (Q q) w0:=λv h2 q=>ahb F b i l (λa=>h a v h2 q) hx
theorem fw{f:FuncId}{fn:Func}{args:aqx AV}{en:α->AV}(hf:Tryz.prog.funcs[f]?=some fn)(hw:∀{y},IE o λq=>q=y->GW Tryz.prog none 0 (kR Tryz.prog fn (en q)) (w7 fn args []))(hb:fn.body.isSome=true:=by kernel_rfl)(hn:(fn.name== "runtime.NumGoroutine")=false:=by kernel_rfl):KO f args en o:=λr h=>Sa hf (hw r h rfl) hb hn
theorem fh{f:FuncId}{fn:Func}{args:aqx AV}{h:aqx an}{en:α->AV}{eh:α->aqx an}(m:Nat)(hf:Tryz.prog.funcs[f]?=some fn)(hw:∀{y},IE o λq=>q=y->GW Tryz.prog none h.length (s7 Tryz.prog fn m (en q) (eh q)) (w7 fn args h))(hb:fn.body.isSome=true:=by kernel_rfl)(hn:(fn.name== "runtime.NumGoroutine")=false:=by kernel_rfl)(hm:h.length<=m:=by exact apR rfl):KP f args h en eh o:=λr q=>Ol m hf (hw r q rfl) hb hn hm
end
section
variable {α A B C D' R:Type} {rr:R} {r:aqz Nat} {N0:Nat} {Q:R->Exit->St->Prop} {w0:WO}
theorem dK(k:Nat)(ax:aqx (aqx (Nat×Ob Tryz.prog)))(live:aqx Nat)(m:Nat){L:aqx α}(st:Nat->St){G:aqx α->Nat->aqz R}
 (nil:∀n,L.drop n=[]->∀f:St->Prop,IE (G [] n) λq=>q=rr->GW Tryz.prog r N0 (Q q) (inLoop k f (st n) (wk Tryz.prog w0 ax)))
 (cons:∀n x l,L.drop n=x::l->∀f:St->Prop,qE k live m L (λn(_:Unit)=>st n) (λl n _=>G l n) rr n x l () f->IE (G (x::l) n) λq=>q=rr->GW Tryz.prog r N0 (Q q) (inLoop k f (st n) (wk Tryz.prog w0 ax)))
 (hN:N0<=m:=by exact apR rfl) (e:mL live m (wk Tryz.prog w0 ax)=some (st 0,dE ax):=by kernel_rfl):IE (G L 0) λq=>q=rr->GW Tryz.prog r N0 (Q q) w0:=λv h q=>
 wl0 dJ k ax live m L st G (q▸h) (λn a2 b2 f=>q▸nil n a2 f rr b2 rfl) (λn x l a2 b2 f c2=>q▸cons n x l a2 f c2 rr b2 rfl) hN e
theorem eM(k:Nat)(ax:aqx (aqx (Nat×Ob Tryz.prog)))(live:aqx Nat)(m:Nat){L:aqx α}(st:Nat->A->St){G:aqx α->Nat->A->aqz R}{a0:A}
 (nil:∀n a,L.drop n=[]->∀f:St->Prop,IE (G [] n a) λq=>q=rr->GW Tryz.prog r N0 (Q q) (inLoop k f (st n a) (wk Tryz.prog w0 ax)))
 (cons:∀n x l a,L.drop n=x::l->∀f:St->Prop,qE k live m L st G rr n x l a f->IE (G (x::l) n a) λq=>q=rr->GW Tryz.prog r N0 (Q q) (inLoop k f (st n a) (wk Tryz.prog w0 ax)))
 (hN:N0<=m:=by exact apR rfl) (e:mL live m (wk Tryz.prog w0 ax)=some (st 0 a0,dE ax):=by kernel_rfl):IE (G L 0 a0) λq=>q=rr->GW Tryz.prog r N0 (Q q) w0:=λv h q=>
 K7 dJ k ax live m L st G a0 (q▸h) (λn a1 a2 b2 f=>q▸nil n a1 a2 f rr b2 rfl) (λn x l a1 a2 b2 f c2=>q▸cons n x l a1 a2 f c2 rr b2 rfl) hN e
theorem Hp(k:Nat)(ax:aqx (aqx (Nat×Ob Tryz.prog)))(live:aqx Nat)(m:Nat){L:aqx α}(st:Nat->A->B->St){G:aqx α->Nat->A->B->aqz R}{a0:A}{b0:B}
 (nil:∀n a b,L.drop n=[]->∀f:St->Prop,IE (G [] n a b) λq=>q=rr->GW Tryz.prog r N0 (Q q) (inLoop k f (st n a b) (wk Tryz.prog w0 ax)))
 (cons:∀n x l a b,L.drop n=x::l->∀f:St->Prop,qE k live m L (λn(i:A×B)=>st n i.1 i.2) (λl n i=>G l n i.1 i.2) rr n x l (a,b) f->IE (G (x::l) n a b) λq=>q=rr->GW Tryz.prog r N0 (Q q) (inLoop k f (st n a b) (wk Tryz.prog w0 ax)))
 (hN:N0<=m:=by exact apR rfl) (e:mL live m (wk Tryz.prog w0 ax)=some (st 0 a0 b0,dE ax):=by kernel_rfl):IE (G L 0 a0 b0) λq=>q=rr->GW Tryz.prog r N0 (Q q) w0:=λv h q=>
 wl2 dJ k ax live m L st G a0 b0 (q▸h) (λn a1 b1 a2 b2 f=>q▸nil n a1 b1 a2 f rr b2 rfl) (λn x l a1 b1 a2 b2 f c2=>q▸cons n x l a1 b1 a2 f c2 rr b2 rfl) hN e
theorem gb{ι:Type}{live:aqx Nat}{m k:Nat}{L:aqx α}{st:Nat->ι->St}{G:aqx α->Nat->ι->aqz R}{n:Nat}{x:α}{l:aqx α}{i:ι}{f:St->Prop}(hf:qE k live m L st G rr n x l i f)(j:ι)(ax:aqx (aqx (Nat×Ob Tryz.prog)))(hd:L.drop n=x::l)(e1:jP k (wK w0)=[f]:=by kernel_rfl)(e:p5 k live m (wk Tryz.prog w0 ax)=some (st (n+1) j,dE ax):=by kernel_rfl):IE (G l (n+1) j) λq=>q=rr->GW Tryz.prog r N0 (Q q) w0:=λv h q=>wb dJ hf j ax hd (q▸h) e1 e
theorem Ly(k:Nat)(ax:aqx (aqx (Nat×Ob Tryz.prog)))(live:aqx Nat)(m:Nat)(st:A->St)(G:Nat->A->aqz R){d:Nat}{a0:A}
 (succ:∀d a,∀f:St->Prop,vL k live m st G rr d f->IE (G (d+1) a) λq=>q=rr->GW Tryz.prog r N0 (Q q) (inLoop k f (st a) (wk Tryz.prog w0 ax))) (h0:∀a,G 0 a=none:=by intros;rfl)
 (hN:N0<=m:=by exact apR rfl) (e:mL live m (wk Tryz.prog w0 ax)=some (st a0,dE ax):=by kernel_rfl):IE (G d a0) λq=>q=rr->GW Tryz.prog r N0 (Q q) w0:=λv h q=>wf1 dJ k ax live m st G d a0 (q▸h) (λd a1 b2 f c2=>q▸succ d a1 f c2 rr b2 rfl) h0 hN e
theorem rT(k:Nat)(ax:aqx (aqx (Nat×Ob Tryz.prog)))(live:aqx Nat)(m:Nat)(st:A->B->St)(G:Nat->A->B->aqz R){d:Nat}{a0:A}{b0:B}
 (succ:∀d a b,∀f:St->Prop,vL k live m (λ(i:A×B)=>st i.1 i.2) (λd i=>G d i.1 i.2) rr d f->IE (G (d+1) a b) λq=>q=rr->GW Tryz.prog r N0 (Q q) (inLoop k f (st a b) (wk Tryz.prog w0 ax))) (h0:∀a b,G 0 a b=none:=by intros;rfl)
 (hN:N0<=m:=by exact apR rfl) (e:mL live m (wk Tryz.prog w0 ax)=some (st a0 b0,dE ax):=by kernel_rfl):IE (G d a0 b0) λq=>q=rr->GW Tryz.prog r N0 (Q q) w0:=λv h q=>wf2 dJ k ax live m st G d a0 b0 (q▸h) (λd a1 b1 b2 f c2=>q▸succ d a1 b1 f c2 rr b2 rfl) h0 hN e
theorem nB{ι:Type}{live:aqx Nat}{m k:Nat}{st:ι->St}{G:Nat->ι->aqz R}{d:Nat}{f:St->Prop}(hf:vL k live m st G rr d f)(j:ι)(ax:aqx (aqx (Nat×Ob Tryz.prog)))(e1:jP k (wK w0)=[f]:=by kernel_rfl)(e:p5 k live m (wk Tryz.prog w0 ax)=some (st j,dE ax):=by kernel_rfl):IE (G d j) λq=>q=rr->GW Tryz.prog r N0 (Q q) w0:=λv h q=>wbf dJ hf j ax (q▸h) e1 e
theorem eB{o:aqz R}(k:Nat)(ax:aqx (aqx (Nat×Ob Tryz.prog)))(live:aqx Nat)(m:Nat)(st:A->St)(G:A->aqz R)
 (br:∀f:St->Prop,vE k live m st (λa=>G a=some rr) f->IE o λq=>q=rr->GW Tryz.prog r N0 (Q q) (uF k f (wk Tryz.prog w0 ax)))
 (rest:∀a,IE (G a) λq=>q=rr->GW Tryz.prog r N0 (Q q) (uQ (st a) (wk Tryz.prog w0 ax))) (hN:N0<=m:=by exact apR rfl) (e:rX (wk Tryz.prog w0 ax)=some (dE ax):=by kernel_rfl):IE o λq=>q=rr->GW Tryz.prog r N0 (Q q) w0:=λv h q=>WS dJ rr k ax live m st G (λf a=>br f a v h q) (λa1 b2=>q▸rest a1 rr b2 rfl) hN e
theorem gj2{o:aqz R}(k:Nat)(ax:aqx (aqx (Nat×Ob Tryz.prog)))(live:aqx Nat)(m:Nat)(st:A->B->St)(G:A->B->aqz R)
 (br:∀f:St->Prop,vE k live m (λ(i:A×B)=>st i.1 i.2) (λi=>G i.1 i.2=some rr) f->IE o λq=>q=rr->GW Tryz.prog r N0 (Q q) (uF k f (wk Tryz.prog w0 ax)))
 (rest:∀a b,IE (G a b) λq=>q=rr->GW Tryz.prog r N0 (Q q) (uQ (st a b) (wk Tryz.prog w0 ax))) (hN:N0<=m:=by exact apR rfl) (e:rX (wk Tryz.prog w0 ax)=some (dE ax):=by kernel_rfl):IE o λq=>q=rr->GW Tryz.prog r N0 (Q q) w0:=λv h q=>wj2 dJ rr k ax live m st G (λf a=>br f a v h q) (λa1 b1 b2=>q▸rest a1 b1 rr b2 rfl) hN e
theorem gm{ι:Type}{live:aqx Nat}{m k:Nat}{st:ι->St}{G:ι->aqz R}{f:St->Prop}(hf:vE k live m st (λi=>G i=some rr) f)(i:ι)(ax:aqx (aqx (Nat×Ob Tryz.prog)))(e1:jP k (wK w0)=[f]:=by kernel_rfl)(e:p5 k live m (wk Tryz.prog w0 ax)=some (st i,dE ax):=by kernel_rfl):IE (G i) λq=>q=rr->GW Tryz.prog r N0 (Q q) w0:=λv h q=>Mp dJ hf i ax (q▸h) e1 e
structure BX{α ι R:Type}(k:Nat)(live:List Nat)(m:Nat)(ks:List Nat)(kn:List (Nat×Nat))(L:List α)(st:Nat->ι->St)(G:List α->Nat->ι->Option R)(rr:R)(n:Nat)(x:α)(l:List α)(i:ι)(f:St->Prop):Prop where
 h:Rj k live m ks kn (λz:Nat×List α×ι=>st z.1 z.2.2) (λz=>L.drop z.1=z.2.1/\G z.2.1 z.1 z.2.2=some rr) (λz=>z.2.1.length) (n,x::l,i) f
theorem jV(k:Nat)(ax:aqx (aqx (Nat×Ob Tryz.prog)))(live:aqx Nat)(m:Nat)(ks:aqx Nat)(kn:aqx (Nat×Nat)){L:aqx α}(st:Nat->A->St){G:aqx α->Nat->A->aqz R}{a0:A}
 (nil:∀n a,L.drop n=[]->∀f:St->Prop,IE (G [] n a) λq=>q=rr->GW Tryz.prog r N0 (Q q) (inLoop k f (st n a) (wk Tryz.prog w0 ax)))
 (cons:∀n x l a,L.drop n=x::l->∀f:St->Prop,BX k live m ks kn L st G rr n x l a f->IE (G (x::l) n a) λq=>q=rr->GW Tryz.prog r N0 (Q q) (inLoop k f (st n a) (wk Tryz.prog w0 ax)))
 (hN:N0<=m:=by exact apR rfl) (gP:aqx (VE m):=[]) (e0:uZ m (wk Tryz.prog w0 ax)=gP.map VE.x:=by kernel_rfl) (e:DZ live m ks kn (wk Tryz.prog w0 ax)=some (st 0 a0,dE ax):=by kernel_rfl):IE (G L 0 a0) λq=>q=rr->GW Tryz.prog r N0 (Q q) w0:=λv h q=>
 alB dJ k ax live m ks kn (λz:Nat×aqx α×A=>st z.1 z.2.2) (λz=>L.drop z.1=z.2.1/\G z.2.1 z.1 z.2.2=some rr) (λz=>z.2.1.length) (0,L,a0) ⟨rfl,q▸h⟩ (λz hz f hf=>by
  obtain⟨n,l,i⟩:=z;obtain⟨h1,h2⟩:=hz;rw[q];cases l with
  |nil=>exact nil n i h1 f rr h2 rfl
  |cons x l=>exact cons n x l i h1 f ⟨hf⟩ rr h2 rfl) hN gP e0 e
theorem gx0(k:Nat)(ax:aqx (aqx (Nat×Ob Tryz.prog)))(live:aqx Nat)(m:Nat)(ks:aqx Nat)(kn:aqx (Nat×Nat)){L:aqx α}(st:Nat->St){G:aqx α->Nat->aqz R}
 (nil:∀n,L.drop n=[]->∀f:St->Prop,IE (G [] n) λq=>q=rr->GW Tryz.prog r N0 (Q q) (inLoop k f (st n) (wk Tryz.prog w0 ax)))
 (cons:∀n x l,L.drop n=x::l->∀f:St->Prop,BX k live m ks kn L (λn(_:Unit)=>st n) (λl n _=>G l n) rr n x l () f->IE (G (x::l) n) λq=>q=rr->GW Tryz.prog r N0 (Q q) (inLoop k f (st n) (wk Tryz.prog w0 ax)))
 (hN:N0<=m:=by exact apR rfl) (gP:aqx (VE m):=[]) (e0:uZ m (wk Tryz.prog w0 ax)=gP.map VE.x:=by kernel_rfl) (e:DZ live m ks kn (wk Tryz.prog w0 ax)=some (st 0,dE ax):=by kernel_rfl):IE (G L 0) λq=>q=rr->GW Tryz.prog r N0 (Q q) w0:=
 jV k ax live m ks kn (λn(_:Unit)=>st n) (G:=(λl n _=>G l n)) (a0:=()) (λn i=>nil n) (λn x l i=>cons n x l) hN gP e0 e
theorem gx2(k:Nat)(ax:aqx (aqx (Nat×Ob Tryz.prog)))(live:aqx Nat)(m:Nat)(ks:aqx Nat)(kn:aqx (Nat×Nat)){L:aqx α}(st:Nat->A->B->St){G:aqx α->Nat->A->B->aqz R}{a0:A}{b0:B}
 (nil:∀n a b,L.drop n=[]->∀f:St->Prop,IE (G [] n a b) λq=>q=rr->GW Tryz.prog r N0 (Q q) (inLoop k f (st n a b) (wk Tryz.prog w0 ax)))
 (cons:∀n x l a b,L.drop n=x::l->∀f:St->Prop,BX k live m ks kn L (λn(i:A×B)=>st n i.1 i.2) (λl n i=>G l n i.1 i.2) rr n x l (a,b) f->IE (G (x::l) n a b) λq=>q=rr->GW Tryz.prog r N0 (Q q) (inLoop k f (st n a b) (wk Tryz.prog w0 ax)))
 (hN:N0<=m:=by exact apR rfl) (gP:aqx (VE m):=[]) (e0:uZ m (wk Tryz.prog w0 ax)=gP.map VE.x:=by kernel_rfl) (e:DZ live m ks kn (wk Tryz.prog w0 ax)=some (st 0 a0 b0,dE ax):=by kernel_rfl):IE (G L 0 a0 b0) λq=>q=rr->GW Tryz.prog r N0 (Q q) w0:=
 jV k ax live m ks kn (λn(i:A×B)=>st n i.1 i.2) (G:=(λl n i=>G l n i.1 i.2)) (a0:=(a0,b0)) (λn i=>nil n i.1 i.2) (λn x l i=>cons n x l i.1 i.2) hN gP e0 e
theorem jM{ι:Type}{live:aqx Nat}{m k:Nat}{ks:aqx Nat}{kn:aqx (Nat×Nat)}{L:aqx α}{st:Nat->ι->St}{G:aqx α->Nat->ι->aqz R}{n:Nat}{x:α}{l:aqx α}{i:ι}{f:St->Prop}(hf:BX k live m ks kn L st G rr n x l i f)(j:ι)(ax:aqx (aqx (Nat×Ob Tryz.prog)))(hd:L.drop n=x::l)(e1:jP k (wK w0)=[f]:=by kernel_rfl)(gP:aqx (VE m):=[])(e0:uZ m (wk Tryz.prog w0 ax)=gP.map VE.x:=by kernel_rfl)(e:zy k live m ks kn (wk Tryz.prog w0 ax)=some (st (n+1) j,dE ax):=by kernel_rfl):IE (G l (n+1) j) λq=>q=rr->GW Tryz.prog r N0 (Q q) w0:=λv h q=>
 anC dJ hf.h (n+1,l,j) ax ⟨tW hd,q▸h⟩ (aqv _) e1 gP e0 e
theorem ahF{o:aqz R}(k:Nat)(ax:aqx (aqx (Nat×Ob Tryz.prog)))(live:aqx Nat)(m:Nat)(ks:aqx Nat)(kn:aqx (Nat×Nat))(st:A->St)(G:A->aqz R)
 (br:∀f:St->Prop,IT k live m ks kn st (λi=>G i=some rr) f->IE o λq=>q=rr->GW Tryz.prog r N0 (Q q) (uF k f (wk Tryz.prog w0 ax)))
 (rest:∀a,IE (G a) λq=>q=rr->GW Tryz.prog r N0 (Q q) (uQ (st a) (wk Tryz.prog w0 ax))) (hN:N0<=m:=by exact apR rfl) (e:rX (wk Tryz.prog w0 ax)=some (dE ax):=by kernel_rfl):IE o λq=>q=rr->GW Tryz.prog r N0 (Q q) w0:=λv h q=>
 adh dJ k ax live m ks kn st (λi=>G i=some rr) (λf a=>br f a v h q) (λi hi=>q▸rest i rr hi rfl) hN e
theorem Vy{ι:Type}{live:aqx Nat}{m k:Nat}{ks:aqx Nat}{kn:aqx (Nat×Nat)}{st:ι->St}{G:ι->aqz R}{f:St->Prop}(hf:IT k live m ks kn st (λi=>G i=some rr) f)(i:ι)(ax:aqx (aqx (Nat×Ob Tryz.prog)))(e1:jP k (wK w0)=[f]:=by kernel_rfl)(gP:aqx (VE m):=[])(e0:uZ m (wk Tryz.prog w0 ax)=gP.map VE.x:=by kernel_rfl)(e:zy k live m ks kn (wk Tryz.prog w0 ax)=some (st i,dE ax):=by kernel_rfl):IE (G i) λq=>q=rr->GW Tryz.prog r N0 (Q q) w0:=λv h q=>
 ak9 dJ hf i ax (q▸h) gP e0 e1 e
end
set_option maxRecDepth 100000
def Ku:Code->Code
 | .seq x _=>x
 |_=> .skip
def sN:Code->Code
 | .seq _ y=>y
 |_=> .skip
def DX:Code->Code
 | .block _ c=>c
 | .loop c=>c
 |_=> .skip
def Hi:Code->aqx Oper
 | .region _ ops _=>ops.toList
 |_=>[]
noncomputable def Xl:Code:=Ku (sN (sN (Tryz.f24.body.getD .skip)))
noncomputable def qp:aqx Oper:=Hi (Ku Xl)
noncomputable def abP:Code:=DX (DX (sN Xl))
noncomputable def ux:aqx Oper:=Hi (Ku abP)
noncomputable def TP:Code:=DX (sN (sN abP))
noncomputable def wi:aqx Oper:=Hi (Ku TP)
noncomputable def Oi:aqx Oper:=Hi (sN TP)
noncomputable def EY:Code:= .loop (.seq (.region 3 ux.toArray false) (.seq (.cond (.tmp 18) .skip (.exit 0)) (.block 1 (.seq (.region 4 wi.toArray false) (.region 5 Oi.toArray false)))))
noncomputable def FX:Oper:=qp.getD 2 default
noncomputable def Dr:Oper:=ux.getD 0 default
noncomputable def Gi:Oper:=wi.getD 0 default
theorem adm:qp=qp.take 2++[FX]:=by kernel_rfl
theorem aoq:ux=Dr::ux.drop 1:=by kernel_rfl
theorem aoO:wi=Gi::wi.drop 1:=by kernel_rfl
def cpZ:aqx AV:=[(aC (bs [])),(ar (0:Int)),(ar (0:Int)),(ar (0:Int)),(ar (0:Int)),(ar (0:Int)),(.d (.sl [])),(.d (.sl [])),(ar (0:Int)),(ar (0:Int)),(aC (bs [])),(cQ (0:Int64)),(cQ (0:Int64)),(ar (0:Int)),(ar (0:Int)),(ar (0:Int)),(ar (0:Int)),(ar (0:Int)),(cQ (0:Int64)),(.d (.sl [])),(.d (.sl [])),(.d (.sl []))]
def Al(v1:bf)(v3:aqx (aqy×aqy))(B0 B5:an)(l:aqx an):aqx an:=B0:: .map (bN v3):: .cells (ep v1).cells:: .cells [(.mp 0),(.mp 1)]:: .cells cpZ::B5:: .cells [(.mp 5),(.mp 1)]::l
def BJ(l:aqx (Nat×AV)):aqx (Nat×AV):=(2, .ptr 2 0)::(3, .ptr 3 0)::(4, .ptr 4 0)::(5, .ptr 6 0)::l
def J6(v1:bf)(v3 e:aqx (aqy×aqy))(i:aqx Nat×aqx (aqy×aqy)):St:=⟨62,BJ [(16, .ptr 7 0)],Al v1 v3 (.fV (bN e)) (.map (bN i.2)) [.it ((bN e).length,i.1) [.mp 0]]⟩
def NK(v1:bf)(v3 e:aqx (aqy×aqy))(i:aqx Nat×aqx (aqy×aqy)):St:=⟨62,(18,aM false)::(17, .bz [aM false])::BJ [(16, .ptr 7 0)],Al v1 v3 (.fV (bN e)) (.map (bN i.2)) [.it ((bN e).length,i.1) [.mp 0]]⟩
theorem Ln:Dr.op= .next (.tmp 16) false/\Dr.guard=none/\Dr.dst=some 17:=by refine⟨?_,?_,?_⟩<;>kernel_rfl
theorem S1:Gi.op= .entry (.tmp 16)/\Gi.guard=none/\Gi.dst=some 19:=by refine⟨?_,?_,?_⟩<;>kernel_rfl
theorem Nf:FX.op= .range 76 (.tmp 15)/\FX.guard=none/\FX.dst=some 16:=by refine⟨?_,?_,?_⟩<;>kernel_rfl
theorem aeI{e:aqx (aqy×aqy)}{b:Nat}{p:aqy×D}(h:(bN e)[b]?=some p):∃q,e[b]?=some q/\p=(q.1, .v (.string q.2)):=by
 unfold bN at h;rw[apQ]at h;cases hq:e[b]? with
 |none=>rw[hq]at h;cases h
 |some q=>rw[hq]at h;cases h;exact⟨q,rfl,rfl⟩
section
variable {r:aqz Nat} {N0:Nat}
theorem amL(v1:bf)(v3 e:aqx (aqy×aqy))(seen:aqx Nat)(nQ:aqx (aqy×aqy))(hr:∀b q,e[b]?=some q->b ∉ seen->(bN nQ).length<maxLen){Q:Exit->St->Prop}
 (hq:∀b q s1,e[b]?=some q->b ∉ seen->jc s1 [2,3,4,5,16] 8=some (J6 v1 v3 e (seen++[b],q::nQ))->Q .normal s1)
 (hx:(∀b,b<(bN e).length->b∈seen)->∀K,bu Tryz.prog r N0 (.exit 0) (gy K Q) (NK v1 v3 e (seen,nQ))):
 bu Tryz.prog r N0 (DX EY) Q (J6 v1 v3 e (seen,nQ)):=by
 show bu Tryz.prog r N0 (.seq (.region 3 ux.toArray false) (.seq (.cond (.tmp 18) .skip (.exit 0)) (.block 1 (.seq (.region 4 wi.toArray false) (.region 5 Oi.toArray false))))) Q _;refine bW (fP ?_);rw[show(ux.toArray).toList=Dr::ux.drop 1 from aoq];refine P6 Ln.2.1 ?_;unfold qN;rw[Ln.1];refine⟨rfl,λb p hb hs=> ?_,λeW=> ?_⟩
 ·obtain⟨q,fB,rfl⟩:=aeI hb;rw[Ln.2.2];refine FH (s1:=⟨62,(18,aM true)::(17, .bz [aM true,aC q.1,aC q.2])::BJ [(16, .ptr 7 0)],Al v1 v3 (.fV (bN e)) (.map (bN nQ)) [.it ((bN e).length,seen++[b]) [.mp 0]]⟩) (ux.drop 1) 1 [] (ps:=[]) (by kernel_rfl) (λ_ h=>by cases h) ?_;refine bW (DC (t:=true) rfl (λ_=>jn ?_) λh=>by cases h);refine ky (bW (fP ?_));rw[show(wi.toArray).toList=Gi::wi.drop 1 from aoO];refine P6 S1.2.1 ?_;unfold qN;rw[S1.1];refine⟨rfl,seen,b,_,rfl,hb,?_⟩;rw[S1.2.2];refine FH (s1:=⟨62,(7,aC q.2)::(6,aC q.1)::(21,aC q.2)::(20,aC q.1)::(19, .bz [aC q.1,aC q.2])::(18,aM true)::(17, .bz [aM true,aC q.1,aC q.2])::BJ [(16, .ptr 7 0)],Al v1 v3 (.fV (bN e)) (.map (bN nQ)) [.it ((bN e).length,seen++[b]) [.mp 0]]⟩) (wi.drop 1) 1 [] (ps:=[]) (by kernel_rfl) (λ_ h=>by cases h) ?_;refine fP ?_;have oy:(Sd.lt (bN nQ).length).ok:=hr b q fB hs;refine FH (s1:=⟨62,(25,aC q.2)::(24,aC q.1)::(23, .mp 5)::(22, .ptr 6 0)::(7,aC q.2)::(6,aC q.1)::(21,aC q.2)::(20,aC q.1)::(19, .bz [aC q.1,aC q.2])::(18,aM true)::(17, .bz [aM true,aC q.1,aC q.2])::BJ [(16, .ptr 7 0)],Al v1 v3 (.fV (bN e)) (.map (bN (q::nQ))) [.it ((bN e).length,seen++[b]) [.mp 0]]⟩) Oi 0 (ja [(13,(⟨_,_, .sd (o:= .none) oy⟩:Ob Tryz.prog))]) (ps:=jW [(13,(⟨_,_, .sd (o:= .none) oy⟩:Ob Tryz.prog))]) (by kernel_rfl) (qV _) ?_
  exact hq b q _ fB hs (by kernel_rfl)
 ·rw[Ln.2.2];refine FH (s1:=NK v1 v3 e (seen,nQ)) (ux.drop 1) 1 [] (ps:=[]) (by kernel_rfl) (λ_ h=>by cases h) ?_;exact bW (DC (t:=false) rfl (λh=>by cases h) λ_=>hx eW _)
structure Gb(e:List (ByteArray×ByteArray))(i:List Nat×List (ByteArray×ByteArray)):Prop where
 nd:i.1.Nodup
 lt:∀b∈i.1,b<e.length
 len:i.2.length=i.1.length
 mem:∀q,q∈i.2↔∃b∈i.1,e[b]?=some q
theorem aaw{l:aqx Nat}{n:Nat}(h:l.Nodup)(hl:∀b∈l,b<n):l.length<=n:=by
 have:=List.Nodup.length_le_of_subset h (l₂:=List.range n) λb hb=>List.mem_range.2 (hl b hb)
 simpa using this
theorem Gb.step{e:aqx (aqy×aqy)}{i:aqx Nat×aqx (aqy×aqy)}(h:Gb e i){b:Nat}{q:aqy×aqy}(hb:e[b]?=some q)(hs:b ∉ i.1):Gb e (i.1++[b],q::i.2):=by
 refine⟨?_,λx hx=> ?_,by simp [h.len],λy=> ?_⟩
 ·refine List.nodup_append.2 ⟨h.nd,by simp,λx hx y hy=> ?_⟩;rintro rfl;rw[List.mem_singleton]at hy;exact hs (hy▸hx)
 ·rcases aql.1 hx with hx|hx
  ·exact h.lt x hx
  ·rw[List.mem_singleton]at hx;subst hx;exact(apJ.1 hb).1
 ·rw[aqd,h.mem];constructor
  ·rintro(rfl|⟨x,hx,ex⟩)
   ·exact⟨b,by simp,hb⟩
   ·exact⟨x,by simp [hx],ex⟩
  ·rintro⟨x,hx,ex⟩;rcases aql.1 hx with hx|hx
   ·exact .inr ⟨x,hx,ex⟩
   ·rw[List.mem_singleton]at hx;subst hx;rw[hb]at ex;cases ex
    exact .inl rfl
theorem amq(hN:N0<=8)(v1:bf)(v3 e:aqx (aqy×aqy))(hm:(bN e).length<=maxLen){Q:Exit->St->Prop}{s:St}(h0:jc s [2,3,4,5,16] 8=some (J6 v1 v3 e ([],[])))
 (hx:∀i,Gb e i->(∀b,b<(bN e).length->b∈i.1)->∀K1 K2,bu Tryz.prog r N0 (.exit 0) (gy K1 (gy K2 Q)) (NK v1 v3 e i)):bu Tryz.prog r N0 EY Q s:=by
 show bu Tryz.prog r N0 (.loop (DX EY)) Q s;have hlen:(bN e).length=e.length:=by unfold bN;rw[apO]
 refine Z9 [2,3,4,5,16] 8 (J6 v1 v3 e) (Gb e) (λi=>e.length-i.1.length) ([],[]) hN h0 ⟨List.nodup_nil,λ_ h=>(by cases h),rfl,λq=>(by simp)⟩ λi hi=> ?_;obtain⟨seen,nQ⟩:=i;have aH:∀b q,e[b]?=some q->b ∉ seen->seen.length<e.length:=λb q hb hs=>by
  have:=aaw (hi.step hb hs).nd (hi.step hb hs).lt;simp at this;omega
 refine amL v1 v3 e seen nQ (λb q hb hs=> ?_) (λb q s1 hb hs hc=>⟨_,hc,hi.step hb hs,?_⟩) λeW K=> ?_
 ·have h1:=aH b q hb hs;have h2:nQ.length=seen.length:=hi.len;unfold bN;rw[apO];omega
 ·have h1:=aH b q hb hs;simp only[apK,apM,apV];omega
 ·exact hx (seen,nQ) hi eW K _
theorem YV:∀{l:aqx (aqy×D)}{x:aqy},eN l x=none->∀d,(x,d)∉ l
 |(k,e)::l,x,h,d,hm=>by
  rw[uk]at h;split at h
  ·cases h
  ·next hk=>
   rcases aqd.1 hm with hm|hm
   ·cases hm;exact hk rfl
   ·exact YV h d hm
theorem akD{a b:aqx (aqy×D)}(hn:(a.map (·.1)).Nodup)(h:∀p,p∈b↔p∈a)(x:aqy):eN b x=eN a x:=by
 cases hb:eN b x with
 |some d=>exact(GV hn ((h _).1 (Eu hb))).symm
 |none=>
  cases ha:eN a x with
  |none=>rfl
  |some d=>exact absurd ((h _).2 (Eu ha)) (YV hb d)
theorem ag4{ee:aqx (aqy×D)}{v:aqx (aqy×aqy)}(h:∀x,eN ee x=eN (bN v) x)(hn:(ee.map (·.1)).Nodup):∃e,ee=bN e:=by
 have key:∀l:aqx (aqy×D),(∀p∈l,p∈ee)->∃e,l=bN e:=by
  intro l
  induction l with
  |nil=>exact λ_=>⟨[],rfl⟩
  |cons p l ih=>
   intro hl;obtain⟨e,rfl⟩:=ih λq hq=>hl q (apS _ hq);obtain⟨k,d⟩:=p;have h1:=GV hn (hl (k,d) apP);rw[h]at h1;have h2:=Eu h1;unfold bN at h2;obtain⟨q,_,eq⟩:=List.mem_map.1 h2;cases eq
   exact⟨q::e,rfl⟩
 exact key ee λ_ h=>h
noncomputable def ET:Code:=sN (sN (sN (Tryz.f24.body.getD .skip)))
noncomputable def HE(v1:bf)(v2 v3:aqx (aqy×aqy)):WO:=wk Tryz.prog (w7 Tryz.f24 [(ep v1),(.agg [(.mp 0),(.mp 1)])] [.map (bN v2), .map (bN v3)]) [[],[]]
noncomputable def tD(v1:bf)(v2 v3:aqx (aqy×aqy)):St:=wS (HE v1 v2 v3)
def Py(v1:bf)(v2 v3:aqx (aqy×aqy)):St:=⟨62,BJ [],Al v1 v3 (.map (bN v2)) (.map (bN v2)) []⟩
theorem ade(v1:bf)(v2 v3:aqx (aqy×aqy)):HE v1 v2 v3=some (.at (.region 2 qp.toArray false) [.S (.block 0 EY), .S ET] (tD v1 v2 v3),[]):=by kernel_rfl
theorem afr(v1:bf)(v2 v3:aqx (aqy×aqy)):(tD v1 v2 v3).h[0]?=some (.map (bN v2)):=by kernel_rfl
noncomputable def Su(v1:bf)(v2 v3 e:aqx (aqy×aqy)):St:=match je Tryz.prog qp.toArray false (qp.take 2) 0 [] ⟨(tD v1 v2 v3).n,(tD v1 v2 v3).t,(tD v1 v2 v3).h.set 0 (.fV (bN e))⟩with
 |some (s,_)=>s
 |none=>⟨0,[],[]⟩
theorem ait(v1:bf)(v2 v3 e:aqx (aqy×aqy)):je Tryz.prog qp.toArray false (qp.take 2) 0 [] ⟨(tD v1 v2 v3).n,(tD v1 v2 v3).t,(tD v1 v2 v3).h.set 0 (.fV (bN e))⟩=some (Su v1 v2 v3 e,[]):=by kernel_rfl
theorem als(v1:bf)(v2 v3 e:aqx (aqy×aqy)):ev (Su v1 v2 v3 e) (.tmp 15)= .mp 0:=by kernel_rfl
theorem anZ(v1:bf)(v2 v3 e:aqx (aqy×aqy)):(Su v1 v2 v3 e).h[0]?=some (.fV (bN e)):=by kernel_rfl
theorem akp:sw Tryz.prog 76=some (9,9):=by kernel_rfl
theorem aky{Q:Exit->St->Prop}(hN:N0<=7)(v1:bf)(v2 v3:aqx (aqy×aqy))(k:GW Tryz.prog r N0 Q (some (.at ET [] (Py v1 v2 v3),[]))):GW Tryz.prog r N0 Q (HE v1 v2 v3):=by
 rw[ade];constructor
 show bu Tryz.prog r N0 (.region 2 qp.toArray false) (gy (λs=>bu Tryz.prog r N0 (.block 0 EY) (gy (λs=>bu Tryz.prog r N0 ET Q s) Q) s) (gy (λs=>bu Tryz.prog r N0 ET Q s) Q)) (tD v1 v2 v3);refine anA 0 (bN v2) (afr v1 v2 v3) λee e1 e2 e3 e4=> ?_;obtain⟨e,rfl⟩:=ag4 e1 e2;refine fP ?_;rw[show(qp.toArray).toList=qp.take 2++[FX]from adm];refine afM _ (ait v1 v2 v3 e) Nf.2.1 ?_;unfold qN;rw[Nf.1];simp only[akp,als,anZ,Nf.2.2];refine ky (amq (by omega) v1 v3 e e4 (by kernel_rfl) λi hi eW K1 K2=> ?_);have hlen:(bN e).length=e.length:=by unfold bN;rw[apO]
 have Cn:(bN i.2).length=i.2.length:=by unfold bN;rw[apO]
 have hmem:∀p,p∈bN i.2↔p∈bN e:=by
  intro p;unfold bN;rw[List.mem_map,List.mem_map];constructor
  ·rintro⟨q,hq,rfl⟩;obtain⟨b,_,hb⟩:=(hi.mem q).1 hq;exact⟨q,apW hb,rfl⟩
  ·rintro⟨q,hq,rfl⟩;obtain⟨b,hb,eb⟩:=List.getElem_of_mem hq;exact⟨q,(hi.mem q).2 ⟨b,eW b (by omega),by rw[apN hb,eb]⟩,rfl⟩
 have hle:i.2.length<=e.length:=by rw[hi.len];exact aaw hi.nd hi.lt
 refine am2 0 (bN v2) (bN e) rfl (λx=>(e1 x).symm) e3 ?_;refine alc 5 (bN v2) (bN i.2) rfl (λx=>by rw[akD e2 hmem,e1]) (by omega) ?_;refine mJ [2,3,4,5] 7 hN (s':=Py v1 v2 v3) (by kernel_rfl) ?_;exact wJ k.run
theorem ahS{Q:Exit->St->Prop}(v1:bf)(v2 v3:aqx (aqy×aqy))(k:GW Tryz.prog r N0 Q (some (.at ET [] (Py v1 v2 v3),[])))(hN:N0<=7:=by exact apR rfl):GW Tryz.prog r N0 Q (HE v1 v2 v3):=aky hN v1 v2 v3 k
end
end Go.Proofs.YtmkmibahjanejaaGreatDoor
namespace Go.Proofs.YtmkmibahjanejaaGreatDoor
open Go.RowKit Go.Shelf Go.Sort
set_option maxRecDepth 100000
set_option linter.unusedVariables false
set_option linter.unusedSimpArgs false
instance:Inhabited bt:=⟨⟨ByteArray.empty,0⟩⟩
def lJ(x:bt):aqx aqB:=[.string x.ao, .int .i64 x.cN.toInt]
def lP(x y:bt):Int:=if bL x.ao<bL y.ao then-1 else if bL y.ao<bL x.ao then 1 else 0
theorem akQ(a:aqy)(w:aqC):Calls Tryz.prog 103 #[.string a] w λe w'=>e= .returned (.bool false)/\w'=w:=by
 go_enter Tryz.func103,Tryz.ntmps103
 go_wp2
 go_ret
 exact⟨by simp,rfl⟩
theorem al4(a b:aqy)(w:aqC):Sem.run Tryz.prog (binOp .gtr 9 (.string a) (.string b)) w= .ok (.bool (Op.bytesLess b.toList a.toList)) w:=by
 have e:(!Op.bytesLess a.toList b.toList&& !a.toList==b.toList)=Op.bytesLess b.toList a.toList:=by
  have hl:∀c:aqy,c.toList=bL c:=λc=>Lib.toList_data c;rw[bytesLess_eq,bytesLess_eq,hl,hl];by_cases h1:bL a<bL b
  ·have h2:¬bL b<bL a:=λh=>List.lt_irrefl _ (List.lt_trans h1 h);simp [h1,h2]
  ·by_cases h3:bL a=bL b
   ·have h2:¬bL b<bL a:=by rw[h3];exact List.lt_irrefl _
    simp [h2,h3]
   ·have h2:bL b<bL a:=Classical.byContradiction λh=>h3 (List.le_antisymm (List.not_lt.1 h) (List.not_lt.1 h1));simp [h1,h2,h3]
 simp [binOp,Op.stringOp,e]
theorem IJ(a b:aqy):Op.bytesLess a.toList b.toList=decide (bL a<bL b):=by rw[bytesLess_eq,Lib.toList_data,Lib.toList_data];rfl
theorem aed{x y:bt}(h:¬bL x.ao<bL y.ao)(h2:(!x.ao.toList==y.ao.toList)=true):Ending.returned (Value.int .i64 (lP x y))= .returned (.int .i64 1):=by
 have h3:bL y.ao<bL x.ao:=Classical.byContradiction λk=>by
  rw[Lib.toList_data,Lib.toList_data,Bool.not_eq_true',beq_eq_false_iff_ne]at h2;exact h2 (List.le_antisymm (List.not_lt.1 k) (List.not_lt.1 h))
 unfold lP;rw[if_neg h,if_pos h3]
theorem apq{x y:bt}(h:¬bL x.ao<bL y.ao)(h2:(!x.ao.toList==y.ao.toList)=false):Ending.returned (Value.int .i64 (lP x y))= .returned (.int .i64 0):=by
 have h3:¬bL y.ao<bL x.ao:=λk=>by
  rw[Lib.toList_data,Lib.toList_data,Bool.not_eq_false',beq_iff_eq]at h2;have e:bL x.ao=bL y.ao:=h2;rw[e]at k;exact List.lt_irrefl _ k
 unfold lP;rw[if_neg h,if_neg h3]
theorem ac4(x y:bt)(w:aqC):Calls Tryz.prog 54 #[.string x.ao, .string y.ao] w λe w'=>e= .returned (.int .i64 (lP x y))/\w'=w:=by
 go_enter Tryz.func54,Tryz.ntmps54
 go_wp2_with (go_at_call 103;refine(akQ _ _).mono ?_;rintro e w' ⟨rfl,rfl⟩)
 ·next h=>
  rw[IJ,decide_eq_true_iff]at h
  go_ret
  exact⟨by unfold lP;rw[if_pos h];rfl,rfl⟩
 all_goals
  have h:Op.bytesLess x.ao.toList y.ao.toList=false:=by assumption
  rw[IJ,decide_eq_false_iff_not]at h;first
  |(have h2:(!x.ao.toList==y.ao.toList)=true:=by assumption
    go_ret
    exact⟨(aed h h2).symm,rfl⟩)
  |(have h2:(!x.ao.toList==y.ao.toList)=false:=by assumption
    go_ret
    exact⟨(apq h h2).symm,rfl⟩)
  |(rw[al4]
    simp only[Result.andThen];rw[Oper.upon_value]
    go_wp2
    ·next h2=>
     rw[IJ,decide_eq_true_iff]at h2
     go_ret
     exact⟨by unfold lP;rw[if_neg h,if_pos h2];rfl,rfl⟩
    ·next h2=>
     rw[IJ,decide_eq_false_iff_not]at h2
     go_ret
     exact⟨by unfold lP;rw[if_neg h,if_neg h2];rfl,rfl⟩)
theorem aoZ(x y:bt)(W:aqC):Calls Tryz.prog 53 #[.agg (lJ x).toArray, .agg (lJ y).toArray] W λe w'=>e= .returned (.int .i64 (lP x y))/\∃q os',w'=grow (W.drewN q) os':=by
 unfold lJ
 go_enter Tryz.func53,Tryz.ntmps53
 go_wp2_with (go_at_call 54;refine(ac4 x y _).mono ?_;rintro e w' ⟨rfl,rfl⟩)
 go_ret
 exact⟨rfl,0,_,by rw[alloc_eq_grow,alloc_eq_grow,grow_grow];rfl⟩
theorem aiF(cD off size:Nat)(w:aqC):CmpLays Tryz.prog 53 #[] lJ 2 lP cD off size w:=
 λ_ _ _ _ x y=>aoZ x y _
theorem Kq(x y:bt):ltOf lP x y=decide (bL x.ao<bL y.ao):=by
 unfold ltOf lP;by_cases h1:bL x.ao<bL y.ao
 ·simp [h1]
 ·by_cases h2:bL y.ao<bL x.ao<;>simp [h1,h2]
theorem akZ:SWO (ltOf lP) where
 irrefl x:=by rw[Kq];exact aqr (List.lt_irrefl _)
 trans x y z h1 h2:=by rw[Kq,decide_eq_true_iff]at*;exact List.lt_trans h1 h2
 ntrans x y z h1 h2:=by rw[Kq,decide_eq_false_iff_not]at*;exact λh=>h1 (by
  rw[List.not_lt]at*;exact absurd h (List.not_lt.2 (List.le_trans h2 h1)))
def aiV:Ren where
 f:=fun
  |6=>52
  |15=>102
  |14=>101
  |28=>151
  |29=>152
  |20=>143
  |21=>144
  |22=>145
  |23=>146
  |24=>147
  |25=>148
  |26=>149
  |27=>150
  |46=>183
  |47=>184
  |48=>185
  |49=>186
  |50=>187
  |57=>220
  |n=>n
 t:=fun
  |22=>50
  |24=>115
  |25=>119
  |3=>3
  |39=>165
  |0=>0
  |53=>204
  |55=>74
  |4=>4
  |46=>197
  |45=>196
  |50=>201
  |5=>5
  |9=>9
  |66=>229
  |70=>233
  |76=>249
  |77=>250
  |n=>n
 g:=λn=>n
theorem mN{P:aqA}{i:Nat}{f:Func}(n:String)(h:(n== "runtime.NumGoroutine")=false)(h2:P.funcs[i]?=some {f with name:=n}):Bears P i f:=⟨n,h,h2⟩
theorem WY:SlLaysF0.n6 Tryz.prog aiV:=by
 constructor
 case f6=>exact mN "slices.SortFunc[[]brocade/api.Mono,brocade/api.Mono]" (by kernel_rfl) (by kernel_rfl)
 case f14=>exact mN "slices.pdqsortCmpFunc[brocade/api.Mono]" (by kernel_rfl) (by kernel_rfl)
 case f20=>exact mN "slices.insertionSortCmpFunc[brocade/api.Mono]" (by kernel_rfl) (by kernel_rfl)
 case f21=>exact mN "slices.heapSortCmpFunc[brocade/api.Mono]" (by kernel_rfl) (by kernel_rfl)
 case f22=>exact mN "slices.breakPatternsCmpFunc[brocade/api.Mono]" (by kernel_rfl) (by kernel_rfl)
 case f23=>exact mN "slices.choosePivotCmpFunc[brocade/api.Mono]" (by kernel_rfl) (by kernel_rfl)
 case f24=>exact mN "slices.reverseRangeCmpFunc[brocade/api.Mono]" (by kernel_rfl) (by kernel_rfl)
 case f25=>exact mN "slices.partialInsertionSortCmpFunc[brocade/api.Mono]" (by kernel_rfl) (by kernel_rfl)
 case f26=>exact mN "slices.partitionEqualCmpFunc[brocade/api.Mono]" (by kernel_rfl) (by kernel_rfl)
 case f27=>exact mN "slices.partitionCmpFunc[brocade/api.Mono]" (by kernel_rfl) (by kernel_rfl)
 case f46=>exact mN "slices.siftDownCmpFunc[brocade/api.Mono]" (by kernel_rfl) (by kernel_rfl)
 case f49=>exact mN "slices.medianAdjacentCmpFunc[brocade/api.Mono]" (by kernel_rfl) (by kernel_rfl)
 case f50=>exact mN "slices.medianCmpFunc[brocade/api.Mono]" (by kernel_rfl) (by kernel_rfl)
 case f57=>exact mN "slices.order2CmpFunc[brocade/api.Mono]" (by kernel_rfl) (by kernel_rfl)
 all_goals first|kernel_rfl|(intro w;rfl)
theorem ake{w:aqC}{g:Nat}{cur:Array aqB}{e:TypeId}{xs:aqx bt}(hb:w.heap[g]?=some (.cells cur e (0,0)))(hc:∀(i j:Nat)(x:bt)(v:aqB),xs[i]?=some x->(lJ x)[j]?=some v->cur[i*2+j]?=some v):HoldsK lJ 2 w g 0 xs.toArray:=by
 intro t ht;rw[size_flatK]at ht;have hl:t / 2<xs.length:=by simp at ht;omega
 have h2:t%2<2:=Nat.mod_lt _ (by omega);refine⟨?_,by simp [World.frozen?,hb]⟩;rw[get_flatK _ _ _ _ ht];have hx:xs[t / 2]?=some xs[t / 2]:=apN hl;have hd:xs.toArray[t / 2]! =xs[t / 2]:=by simp [hl]
 rw[hd];have he:(lJ xs[t / 2])[t%2]?=some (lJ xs[t / 2])[t%2]! :=by
   have hle:(lJ xs[t / 2]).length=2:=rfl;rw[apN (by omega),getElem!_pos _ _ (by omega)]
 have:=hc _ _ _ _ hx he;rw[show t / 2*2+t%2=0+t from by omega]at this;simp only[World.cell?,hb,Option.isSome_none,Bool.false_eq_true,if_false];exact this
theorem alG{w:aqC}{g n:Nat}{os:Array Obj}{cur:Array aqB}{e:TypeId}{fr:Nat×Nat}(F:Array aqB)(hb:w.heap[g]?=some (.cells cur e fr)):
 (grow (putRow id (Sort.ahead w n) g 0 F) os).heap[g]?=some (.cells (putCells id 0 F cur) e fr):=by
 have hg:g<w.heap.size:=(apY.1 hb).1;rw[heap_grow_old _ _ (by simpa using hg)];simp [putRow,mapBlock,Sort.ahead,Array.getElem?_modify,hb,onCells]
theorem aft{w:aqC}{g n:Nat}{os:Array Obj}(F:Array aqB):w.grownBy (grow (putRow id (Sort.ahead w n) g 0 F) os) (some g):=by
 refine⟨rfl,rfl,rfl,by simp,λk hk cy=> ?_⟩;rw[heap_grow_old _ _ (by simpa using hk)];have:g≠k:=λe=>cy (by rw[e]);simp [putRow,mapBlock,Sort.ahead,Array.getElem?_modify,this]
def uO(x y:bt):Bool:=Op.bytesLess (bL x.ao) (bL y.ao)
def xY(x:bt):aqx bt->aqx bt
 |[]=>[x]
 |y::l=>bif uO x y then x::y::l else y::xY x l
def jg:aqx bt->aqx bt
 |[]=>[]
 |x::l=>xY x (jg l)
def tZ:aqx bt->Bool
 |[]=>true
 |[_]=>true
 |x::y::l=>uO x y&&tZ (y::l)
theorem Js(x y:bt):uO x y=decide (bL x.ao<bL y.ao):=by unfold uO;rw[bytesLess_eq]
theorem N3(x:bt):∀l,(xY x l).Perm (x::l)
 |[]=> .refl _
 |y::l=>by
  unfold xY;cases uO x y
  ·exact((N3 x l).cons y).trans (.swap x y l)
  ·exact .refl _
theorem tk:∀l,(jg l).Perm l
 |[]=> .refl _
 |x::l=>by unfold jg;exact(N3 x _).trans ((tk l).cons x)
theorem Z7:∀l,tZ l=true->l.Pairwise λa b=>bL a.ao<bL b.ao
 |[],_=> .nil
 |[_],_=>by simp
 |x::y::l,h=>by
  unfold tZ at h;rw[apL,Js,decide_eq_true_iff]at h;have ih:=Z7 (y::l) h.2;refine .cons (λz hz=> ?_) ih;rcases aqd.1 hz with rfl|hz
  ·exact h.1
  ·exact List.lt_trans h.1 ((List.pairwise_cons.1 ih).1 z hz)
theorem Ry{R:bt->bt->Prop}(V6:∀a b,R a b->R b a->False):∀(l m:aqx bt),l.Perm m->l.Pairwise R->m.Pairwise R->l=m
 |[],m,h,_,_=>h.symm.eq_nil.symm
 |a::l,[],h,_,_=>absurd h.length_eq (by simp)
 |a::l,b::m,h,h1,h2=>by
  obtain⟨p1,p2⟩:=List.pairwise_cons.1 h1;obtain⟨q1,q2⟩:=List.pairwise_cons.1 h2;by_cases e:a=b
  ·subst e;rw[Ry V6 l m (List.Perm.cons_inv h) p2 q2]
  ·exfalso;have ha:a∈m:=by
    rcases aqd.1 (h.subset (apP))with h'|h'
    ·exact absurd h' e
    ·exact h'
   have hb:b∈l:=by
    rcases aqd.1 (h.symm.subset (apP))with h'|h'
    ·exact absurd h'.symm e
    ·exact h'
   exact V6 a b (p1 b hb) (q1 a ha)
theorem anP(xs:aqx bt)(bQ:tZ (jg xs)=true)(d':Array bt)(hp:PermIn 0 xs.toArray.size xs.toArray d')(hs:SortedIn (ltOf lP) 0 xs.toArray.size d'):d'.toList=jg xs:=by
 obtain⟨h1,_,h3⟩:=hp;have e1:d'.extract 0 xs.toArray.size=d':=by rw[<-h1];simp
 have e2:xs.toArray.extract 0 xs.toArray.size=xs.toArray:=by simp
 rw[e1,e2]at h3;have ZZ:d'.toList.Perm xs:=h3;have hq:=Z7 _ bQ;have cy:(jg xs).Pairwise λa b=>bL a.ao≠bL b.ao:=hq.imp λh e=>by rw[e]at h;exact List.lt_irrefl _ h
 have hd:d'.toList.Pairwise λa b=>bL a.ao≠bL b.ao:=((ZZ.trans (tk xs).symm).pairwise_iff λh e=>h e.symm).2 cy;have mR:d'.toList.Pairwise λa b=>bL a.ao<bL b.ao:=by
  rw[List.pairwise_iff_getElem]at hd ⊢;intro i j hi hj og;have iC:j<xs.toArray.size:=by rw[<-h1];simpa using hj
  have de:i<d'.size:=by simpa using hi
  have:=hs i j (Nat.zero_le _) og iC;rw[getElem!_pos d' i de,getElem!_pos d' j (by rw[h1];exact iC),Kq,decide_eq_false_iff_not]at this;have hn:=hd i j hi hj og;rw[Array.getElem_toList,Array.getElem_toList]at hn ⊢;exact Classical.byContradiction λh=>hn (List.le_antisymm (List.not_lt.1 this) (List.not_lt.1 h))
 exact Ry (λa b h1 h2=>List.lt_irrefl _ (List.lt_trans h1 h2)) _ _ (ZZ.trans (tk xs).symm) mR hq
theorem ajd(g cap L:Nat)(xs:aqx bt)(cur:Array aqB)(e0:TypeId)(w:aqC)(hb:w.heap[g]?=some (.cells cur e0 (0,0)))(hL:xs.length=L)(h0:L≠0)(gj:L*2<=cur.size)(hc:∀(i j:Nat)(x:bt)(v:aqB),xs[i]?=some x->(lJ x)[j]?=some v->cur[i*2+j]?=some v)(eY:L<4611686018427387904)(bQ:tZ (jg xs)=true):
 Calls Tryz.prog 52 #[.slice (some ⟨g,0,none⟩) L cap, .func (.func 53) #[] #[]] w λe w'=>e= .returned (.tuple #[])/\w.grownBy w' (some g)/\∃lg,w'.heap[g]?=some (.cells lg e0 (0,0))/\lg.size=cur.size/\∀(i j:Nat)(x:bt)(v:aqB),(jg xs)[i]?=some x->(lJ x)[j]?=some v->lg[i*2+j]?=some v:=by
 have hg:g<w.heap.size:=(apY.1 hb).1;have Aj:xs.toArray.size=L:=by simpa using hL
 have eg:∀args w,(callFunc 53 args).run Tryz.prog w= .ok (.enter 53 args) w:=enters_of Tryz.func53 (by kernel_rfl) rfl;have h:Calls Tryz.prog 52 #[.slice (some ⟨g,0,none⟩) xs.toArray.size cap, .func (.func 53) #[] #[]] w λe w'=>
     e= .returned (.tuple #[])/\∃d' n os,PermIn 0 xs.toArray.size xs.toArray d'/\SortedIn (ltOf lP) 0 xs.toArray.size d'/\w'=sortWorldK lJ 2 w g 0 n d' os:=
  AnyQ.slices_SortFunc WY 2 (by intro w;rfl) (by intro w;rfl) lJ (λ_=>rfl) (λx v hv=>by simp [lJ]at hv;rcases hv with rfl|rfl<;>rfl) lP akZ 53 #[] g 0 cap xs.toArray w eg (aiF g 0 _ w) (ake hb hc) hg (by rw[Aj];exact eY)
 rw[Aj]at h;refine h.mono λe w' hp=> ?_;obtain⟨rfl,d',n,os,p1,p2,rfl⟩:=hp;have hd:=anP xs bQ d' (by rw[Aj];exact p1) (by rw[Aj];exact p2);have tG:d'.size=L:=by rw[<-Aj];exact Aj▸p1.1
 refine⟨rfl,aft _,_,alG _ hb,by simp [putCells],λi j x v hx hv=> ?_⟩;have hj:j<2:=(apJ.1 hv).1;rw[<-hd]at hx;have hi:i<d'.size:=by have:=(apJ.1 hx).1;simpa using this
 have aH:i*2+j<d'.size*2:=by omega
 have uV:d'[i]! =x:=by
  rw[getElem!_pos d' i hi];have:=(apJ.1 hx).2
  simpa using this
 have J:(flatK lJ 2 d')[i*2+j]! =v:=by
  rw[get_flatK _ _ _ _ aH,show(i*2+j)/ 2=i by omega,show(i*2+j)%2=j by omega,uV];rw[List.getElem!_eq_getElem?_getD,hv];rfl
 rw[putCells,Array.getElem?_mapIdx,ap5 (by omega)];simp only[Option.map_some,id];rw[if_pos ⟨Nat.zero_le _,by rw[size_flatK];omega⟩,Nat.sub_zero,J]
theorem adz(p:aqz Addr)(cap:Nat)(fv:aqB)(w:aqC):Calls Tryz.prog 52 #[.slice p 0 cap,fv] w λe w'=>e= .returned (.tuple #[])/\w'=w:=
 AnyF.slices_SortFunc_none WY p cap fv w
theorem aov{xs:aqx bt}{L:Nat}(hL:xs.length=L)(eY:L<4611686018427387904)(bQ:tZ (jg xs)=true):
 cF Tryz.prog 52 [.vec 0 0 L L 2, .fn 53 []] [.vec 115 2 (cP (dh xs))] λr1 h1=>r1= .bz []/\h1=[.vec 115 2 (cP (dh (jg xs)))]:=by
 refine⟨by kernel_rfl,λG w vs hinv oc hr=> ?_⟩;have vJ:([an.vec 115 2 (cP (dh xs))]:aqx an)[0]?=some (.vec 115 2 (cP (dh xs))):=rfl;have oW:(cP (dh xs)).length=L:=by rw[GJ,eK,hL]
 obtain⟨v0,v1,rfl⟩:∃v0 v1,vs= #[v0,v1]:=by
  obtain⟨l⟩:=vs
  match l,oc with
  |[a,b],_=>exact⟨a,b,rfl⟩
 have r0:=hr 0 v0 _ rfl rfl;have r1:=hr 1 v1 _ rfl rfl;obtain rfl:v1= .func (.func 53) #[] #[]:=by
  cases r1 with|fn _ us _ hl _=>
  obtain⟨l⟩:=us
  match l,hl with
  |[],_=>rfl
 obtain⟨Bh,⟨A,cc,rfl,q2,q3,q4,q5⟩,_⟩:=r0.oY hinv vJ oW;have abn:∀(G':Gh)(w':aqC),aD G' w' (.tuple #[]) (.bz []):=λG' w'=> .bz #[] [] rfl λi u c h=>by simp at h
 by_cases h0:L=0
 ·subst h0;obtain rfl:xs=[]:=List.eq_nil_of_length_eq_zero hL;refine(adz A cc _ w).mono λe w' hp=> ?_;obtain⟨rfl,rfl⟩:=hp;exact⟨_,G,_,_,rfl,bI.refl _ _ _,apU _,hinv,abn _ _,rfl,rfl⟩
 ·obtain⟨g,cap,s1,rfl,s3⟩:=q5 (by omega);obtain⟨g',zt,cur,t1,t2,t3,t4,t5,t6,t7,t8,t9⟩:=zJ hinv vJ (λe=>by rw[e]at oW;simp at oW;omega);rw[t2,oW]at s1;cases s1
  have hcc:cc=cap:=by omega
  subst hcc;rw[oW]at t5;have hg:g<w.heap.size:=(apY.1 t4).1;have hc:∀(i j:Nat)(x:bt)(v:aqB),xs[i]?=some x->(lJ x)[j]?=some v->cur[i*2+j]?=some v:=by
   intro i j x v hx hv;have hi:i<xs.length:=(apJ.1 hx).1;have hj:j<2:=(apJ.1 hv).1;have aH:i*2+j<cur.size:=by omega
   have hu:cur[i*2+j]?=some cur[i*2+j]:=ap5 aH;have hd:((jL x).map AV.d)[j]?=some (.d (.v v)):=by
    match j,hv with
    |0,hv=>cases hv;rfl
    |1,hv=>cases hv;rfl
   have:=(t9 i j _ _ _ (ajD (j7 hx)) hd hu).val;rw[hu,this]
  have hw:=ajd g cc L xs cur 115 w t4 hL h0 (by omega) hc eY bQ;rw[show(⟨g,0*2,none⟩:Addr)=⟨g,0,none⟩from rfl];refine hw.mono λe w' hp=> ?_;obtain⟨rfl,gb,lg,fB,ct,ir⟩:=hp;have cy:∀b o,G.S b o->some b≠some g:=λb o hs e=>by cases e;exact t8 o hs
  have hE:bI G.N G w G w':=
   ⟨gb.size,λ_ _ h=>h,λb o hs=>by
    unfold World.cell?;rw[gb.block b (hinv.S b o hs) (cy b o hs)],λ_ _=>rfl,λ_ _=> .inl ⟨rfl,rfl⟩,gp rfl,λb hb=>gb.block b (hinv.z b hb) (λe=>by cases e;exact t3 hb),gb.os,gb.tape,gb.output,λb o hs=> .inl hs⟩
  obtain⟨f1,f2,f3,_⟩:=hinv.cD 0 _ vJ;have yN:(jg xs).length=xs.length:=(tk xs).length_eq;have LR:(cP (dh (jg xs))).length=(cP (dh xs)).length:=by rw[GJ,GJ,eK,eK,yN]
  have hI:bD G w' [.vec 115 2 (cP (dh (jg xs)))]:=by
   refine⟨hinv.len,λb hb=>ap7 (hinv.z b hb) gb.size,λb o hs=>ap7 (hinv.S b o hs) gb.size,λn C hC=> ?_,λm n b h1 h2=> ?_,hinv.gl.aT hE⟩
   ·match n,hC with
    |0,hC=>
     cases hC
     refine⟨by rw[LR];exact f1,by rw[LR];exact f2,λc hc=> ?_, .inr ⟨g,cc,lg,t1,by rw[LR,t2],t3,fB,by rw[LR,oW];exact t5,t6,by rw[ct,t7],t8,λi j c x u hx hd hu=> ?_⟩⟩
     ·unfold cP at hc;obtain⟨c',ir,rfl⟩:=List.mem_map.1 hc;rw[apO,wP c' ir]
     ·unfold cP at hx;rw[apQ,ng,apQ]at hx;cases hq:(jg xs)[i]? with
      |none=>rw[hq]at hx;cases hx
      |some y=>
       rw[hq]at hx;cases hx
       match j,hd with
       |0,hd=>cases hd;rw[ir i 0 y _ hq rfl]at hu;cases hu;exact .d (.v _)
       |1,hd=>cases hd;rw[ir i 1 y _ hq rfl]at hu;cases hu;exact .d (.v _)
    |n+1,hC=>simp at hC
   ·match m,n,h1,h2 with
    |0,0,_,_=>rfl
    |m+1,_,h1,_=>simp [bM]at h1
    |0,n+1,_,h2=>simp [bM]at h2
  exact⟨_,_,_,_,rfl,hE,apU _,hI,abn _ _,rfl,rfl⟩
end Go.Proofs.YtmkmibahjanejaaGreatDoor
namespace Go.Proofs.YtmkmibahjanejaaGreatDoor
open Go.RowKit
set_option maxRecDepth 100000
set_option linter.unusedVariables false
set_option linter.unusedSimpArgs false
noncomputable def PT(T:TypeId):Bool:=liesAt Tryz.prog Tryz.prog.depth T (2 / Tryz.prog.cellsOf T) 0 136 1
theorem alJ{P:aqA}{w:aqC}{ops:Array Oper}{rest:aqx Oper}{o:Oper}{a:Act}{Q:Exit->Act->aqC->Prop}(SA:o.guard=none)(d s:Operand)(t t':TypeId)
 (ho:o.op= .call {callee:= .builtin .append,args:= #[d,s],argTypes:= #[t,t']}) (v u:aqB) (hd:a.eval d=v) (hs:a.eval s=u) {v':aqB} {w':aqC}
 (hr:(Builtin.append_ #[t,t'] o.type #[v,u]).run P w= .ok v' w') (h:wpList P ops Q rest (a.put o.dst v') w'):wpList P ops Q (o::rest) a w:=
 wpList_plain SA λ_ hK=>by
  unfold Oper.wp execOp;simp only[ho,resolve,invoke,builtin,Sem.run_bind,Sem.run_pure,Result.andThen_ok,List.map_toArray,ap8,List.map_nil,hd,hs,hr];exact hK _ _ h
theorem adj{T:TypeId}(hT:PT T=true){b:Nat}{p v:aqB}{w:aqC}(hb:w.heap[b]?=some (.cells #[p,v] T (0,0)))(hp:p= .pointer none\/p= .pointer (some ⟨b,0,none⟩)):
 Calls Tryz.prog 116 #[.pointer (some ⟨b,0,none⟩)] w λe w'=>e= .returned (.tuple #[])/\w.grownBy w' (some b)/\w'.heap[b]?=some (.cells #[.pointer (some ⟨b,0,none⟩),v] T (0,0))/\w'.heap.size=w.heap.size:=by
 have nu:w.shape? b=some (T,2):=by simp [World.shape?,hb]
 obtain⟨j,hj,H5⟩:∃j,Tryz.prog.info? 136=some j/\j.size=2:=Option.map_eq_some_iff.1 (show(Tryz.prog.info? 136).map (·.size)=some 2 by kernel_rfl);have c0:w.cell? ⟨b,0,none⟩=some p:=by rw[Lib.cell_of_heap hb];rfl
 rcases hp with rfl|rfl
 ·have hfz:w.frozen? ⟨b,0,none⟩=false:=Lib.frozen_of_heap hb 0
  go_enter Tryz.func116,Tryz.ntmps116
  go_wp2
  rw[Lib.run_to_unsafe w ⟨b,0,none⟩ Tryz.underlying133 Tryz.underlying208 hj (by rw[H5];decide) nu (Nat.zero_lt_succ 1)];simp only[Result.andThen];rw[Oper.upon_value]
  go_wp2
  rw[run_callFunc_extern Tryz.func159 (by kernel_rfl) (by kernel_rfl) (by kernel_rfl) (e:=Extern.AbiNoEscape.same) (by kernel_rfl)];rw[Lib.run_noEscape];simp only[Result.andThen];rw[Oper.upon_value]
  go_wp2
  rw[Lib.run_from_unsafe w ⟨b,0,none⟩ Tryz.underlying208 Tryz.underlying133 hj nu hT];simp only[Result.andThen];rw[Oper.upon_value]
  go_wp2
  go_end0
  refine⟨rfl,W0 w b 0 _,?_,by simp [World.setCell]⟩;simp [World.setCell,Array.getElem?_modify,hb]
 ·go_enter Tryz.func116,Tryz.ntmps116
  go_wp2
  rw[Lib.run_neq_ptr_same w _ Tryz.underlying133 hj]
  go_wp2
  go_end0
  exact⟨rfl,⟨rfl,rfl,rfl,apU _,λ_ _ _=>rfl⟩,hb,rfl⟩
def p6(T:TypeId)(b:aqy):aqx an:=[.aV T [.vec 1 0 b.size b.size 1], .vec 5 1 (hX b)]
theorem am0{G:Gh}{w:aqC}{n:Nat}:aD G w (.tuple #[.int .i64 n, .nilIface]) (.bz [.d (.v (.int .i64 n)), .d (.v .nilIface)]):= .bz _ _ rfl λi u c hu hc=>by
 match i with
 |0=>cases hu;cases hc;exact .d (.v _)
 |1=>cases hu;cases hc;exact .d (.v _)
 |i+2=>simp at hu
theorem NZ{G:Gh}{w:aqC}{T:TypeId}{b:aqy}(hi:bD G w (p6 T b)):∃p A c,w.heap[G.aI 0]?=some (.cells #[p, .slice A b.size c] T (0,0))/\(p= .pointer none\/p= .pointer (some ⟨G.aI 0,0,none⟩))/\aD G w (.slice A b.size c) (.vec 1 0 b.size b.size 1)/\Ml (.slice A b.size c):=by
 obtain⟨h1,h2,_,vs,p,h3,⟨h4,hp,qk⟩,h5⟩:=hi.cD 0 _ rfl;obtain⟨v,rfl⟩:∃v,vs= #[v]:=by
  obtain⟨l⟩:=vs
  match l,h4 with
  |[v],_=>exact⟨v,rfl⟩
 have hv:=h5 0 v _ rfl rfl;have hb:=qk v (by simp);obtain⟨_,⟨A,c,rfl,_⟩,_⟩:=hv.oY hi rfl (jZ b);exact⟨p,A,c,h3,hp,hv,hb⟩
theorem aoz(G:Gh)(w:aqC)(s:aqy):xV G w 1 (hX s) (byteCells s):=by
 refine⟨by rw[jZ,byteCells_length,Nat.mul_one],λc hc=> ?_,λu hu=> ?_,λi j c x u hc hx hu=> ?_⟩
 ·unfold hX at hc;obtain⟨u,_,rfl⟩:=List.mem_map.1 hc;rfl
 ·unfold byteCells at hu;obtain⟨_,_,rfl⟩:=List.mem_map.1 hu;rfl
 ·unfold hX at hc;rw[apQ]at hc;cases hq:(byteCells s)[i]? with
  |none=>rw[hq]at hc;cases hc
  |some v=>
   rw[hq]at hc;cases hc
   match j,hx with
   |0,hx=>
    cases hx
    rw[Nat.mul_one,Nat.add_zero,hq]at hu;cases hu
    exact .d (.v _)
theorem ald{G:Gh}{w:aqC}{v:aqB}{s:aqy}(h:aD G w v (aC s)):v= .string s:=h.val
theorem OJ{G:Gh}{w:aqC}{v:aqB}(h:aD G w v (.ptr 0 0)):v= .pointer (some ⟨G.aI 0,0,none⟩):=by cases h;rfl
theorem afG{T:TypeId}(hT:PT T=true){b s:aqy}(hl:b.size+s.size<=140737488355328):
 cF Tryz.prog 70 [.ptr 0 0,aC s] (p6 T b) λr1 h1=>r1= .bz [.d (.v (.int .i64 s.size)), .d (.v .nilIface)]/\h1=p6 T (b++s):=by
 refine⟨by kernel_rfl,λG w vs hinv oc hr=> ?_⟩;obtain⟨v0,v1,rfl⟩:∃v0 v1,vs= #[v0,v1]:=by
  obtain⟨l⟩:=vs
  match l,oc with
  |[a,b],_=>exact⟨a,b,rfl⟩
 obtain rfl:=OJ (hr 0 v0 _ rfl rfl);obtain rfl:=ald (hr 1 v1 _ rfl rfl);obtain⟨p,A,c,h3,hp,hv,qk⟩:=NZ hinv
 go_enter Tryz.func70,Tryz.ntmps70
 go_wp2_with (go_at_call 116;refine(adj hT h3 hp).mono ?_)
 rintro e w1 ⟨rfl,Oe,iP,fj⟩;have vJ:(p6 T b)[0]?=some (.aV T [.vec 1 0 b.size b.size 1]):=rfl;obtain⟨ib,nM⟩:=Rc (ej:= #[.slice A b.size c]) (p':= .pointer (some ⟨G.aI 0,0,none⟩)) (bP:=[.vec 1 0 b.size b.size 1]) hinv vJ Oe iP (.inr rfl) rfl (λu hu=>by simp at hu;rw[hu];exact qk) (λi u x hu hx=>by
  match i with
  |0=>cases hu;cases hx;exact hv
  |i+1=>simp at hu)
 have nM:bD G w1 (p6 T b):=nM;have OV:=hv.aT ib (apU _);have vM:(p6 T b)[1]?=some (.vec 5 1 (hX b)):=rfl;obtain⟨inf,i1,i2,i3⟩:∃i,Tryz.prog.info? 5=some i/\i.size=1/\i.bytes=1/\i.zero=some (.int .u8 0):=by
  obtain⟨i,h1,h2⟩:=Option.map_eq_some_iff.1 (show(Tryz.prog.info? 5).map (λi=>(i.size,i.bytes,i.zero))=some (1,1,some (.int .u8 0)) by kernel_rfl);injection h2 with h2 h4;injection h4 with h4 h5;exact⟨i,h1,h2,h4,h5⟩
 have eY:(b++s).size=b.size+s.size:=ByteArray.size_append ..;have gn:b.size<=c:=by
  obtain⟨_,⟨A',c',e1,k1,_⟩,_⟩:=OV.oY nM rfl (jZ b);cases e1
  exact k1
 have key:∃r w2 G2,(Builtin.append_ #[134,9] 134 #[.slice A b.size c, .string s]).run Tryz.prog w1= .ok r w2/\bI G.N G w1 G2 w2/\G.N<=G2.N/\bD G2 w2 [.aV T [.vec 1 0 b.size b.size 1], .vec 5 1 (hX (b++s))]/\aD G2 w2 r (.vec 1 0 (b++s).size (b++s).size 1)/\Ml r:=by
  by_cases h0:s.size=0
  ·have Vp:byteCells s=[]:=List.eq_nil_of_length_eq_zero (by rw[byteCells_length,h0]);have TB:hX (b++s)=hX b:=by rw[WL];unfold hX;rw[Vp,List.map_nil,ap4]
   have qM:=Src.ofString w1 Tryz.underlying9 s;rw[h0,Vp,<-i2]at qM;rw[TB,eY,h0,Nat.add_zero];exact⟨_,w1,G,run_append_nothing w1 _ _ _ _ inf Tryz.underlying134 i1 A b.size c gn _ qM,bI.refl _ _ _,apU _,nM,OV,qk⟩
  ·obtain⟨r,w2,G2,dp,gX,Bj,sP,mG⟩:=Yq (T:=134) (tx:=9) (ty:=134) (da:=1) (L':=(b++s).size) (bP:=hX (b++s)) nM Tryz.underlying134 i1 i3.2 i2 i3.1 rfl (by decide) vM (jZ b) OV (aoz G w1 s)
    (by rw[jZ];exact Src.ofString w1 Tryz.underlying9 s) (.inr ⟨rfl,rfl,by rw[jZ,eY],WL b s,by rw[eY];unfold maxLen;omega,by rw[eY];omega⟩)
   have Jo:aD G2 w2 r (.vec 1 0 (b++s).size (b++s).size 1):=by rw[jZ,<-eY]at mG;exact mG
   have Dv:bD G2 w2 [.aV T [.vec 1 0 b.size b.size 1], .vec 5 1 (hX (b++s))]:=sP;refine⟨r,w2,G2,dp,gX,Bj,Dv,Jo,?_⟩;obtain⟨_,⟨A',c',e1,k1,_,_,k4⟩,_⟩:=Jo.oY Dv rfl (jZ _);obtain⟨g,cap,_,e2,_⟩:=k4 (by omega);rw[e1,e2,Nat.zero_mul];exact Or.inr ⟨g,_,c',rfl,by omega⟩
 obtain⟨r,w2,G2,dp,gX,Bj,sP,mG,aib⟩:=key;have jd:G2.aI 0=G.aI 0:=gX.aI 0 (by have:=hinv.len;simp only[p6,apM,apV]at this;omega);obtain⟨q1,q2,_,us,p2,q3,⟨q4,q5,_⟩,q6⟩:=sP.cD 0 _ rfl;obtain⟨v2,rfl⟩:∃v,us= #[v]:=by
  obtain⟨l⟩:=us
  match l,q4 with
  |[v],_=>exact⟨v,rfl⟩
 rw[jd]at q3 q5;obtain⟨A3,l3,c3,rfl⟩:∃A l c,r= .slice A l c:=by
   cases mG with|vec _ _ _ _ _ _ hs _ _=>exact hs
 have c1:w1.cell? ⟨G.aI 0,1,none⟩=some (.slice A b.size c):=by rw[Lib.cell_of_heap iP];rfl
 have d1:w2.cell? ⟨G.aI 0,1,none⟩=some v2:=by rw[Lib.cell_of_heap q3];rfl
 have f1:w2.frozen? ⟨G.aI 0,1,none⟩=false:=Lib.frozen_of_heap q3 1
 go_wp2_with (at_builtin;refine alJ rfl (.tmp 12) (.tmp 13) 134 9 rfl _ _ rfl rfl dp ?_)
 go_wp2
 go_ret2
 have hg3:=W0 w2 (G.aI 0) 1 (.slice A3 l3 c3);have pJ:(w2.setCell ⟨G.aI 0,1,none⟩ (.slice A3 l3 c3)).heap[G.aI 0]?=some (.cells #[p2, .slice A3 l3 c3] T (0,0)):=by
  simp [World.setCell,Array.getElem?_modify,q3]
 rw[<-jd]at hg3 pJ q5;obtain⟨Er,Dv⟩:=Rc (ej:= #[.slice A3 l3 c3]) (p':=p2) (bP:=[.vec 1 0 (b++s).size (b++s).size 1]) sP rfl hg3 pJ q5 rfl (λu hu=>by simp at hu;rw[hu];exact aib) (λi u x hu hx=>by
   match i with
   |0=>cases hu;cases hx;exact mG
   |i+1=>simp at hu)
 rw[jd]at Er Dv;exact⟨_,G2,_,_,rfl,(ib.trans gX).trans (Er.less Bj),Bj,Dv,am0,rfl,rfl⟩
theorem afF{T:TypeId}{b:aqy}:cF Tryz.prog 161 [.ptr 0 0] (p6 T b) λr1 h1=>r1=ar b.size/\h1=p6 T b:=by
 refine⟨by kernel_rfl,λG w vs hinv oc hr=> ?_⟩;obtain⟨v0,rfl⟩:∃v0,vs= #[v0]:=by
  obtain⟨l⟩:=vs
  match l,oc with
  |[a],_=>exact⟨a,rfl⟩
 obtain rfl:=OJ (hr 0 v0 _ rfl rfl);obtain⟨p,A,c,h3,hp,hv,qk⟩:=NZ hinv;have c1:w.cell? ⟨G.aI 0,1,none⟩=some (.slice A b.size c):=by rw[Lib.cell_of_heap h3];rfl
 go_enter Tryz.func161,Tryz.ntmps161
 go_wp2
 go_ret
 exact⟨_,G,_,_,rfl,bI.refl _ _ _,apU _,hinv, .d (.v _),rfl,rfl⟩
theorem acI{G:Gh}{w w':aqC}{T:TypeId}{b:aqy}(hi:bD G w (p6 T b))(eY:w.heap.size<=w'.heap.size)(h:∀k,k<w.heap.size->(∀g,G.ow 1=some g->k≠g)->w'.heap[k]?=w.heap[k]?)(ho:w'.os=w.os)(ht:w'.tape=w.tape)(hp:w'.output=w.output):
 bI G.N G w G w'/\bD G w' [.gone, .gone]:=by
 have hb:=hi.cD 1 _ rfl;have Zd:∀g,G.ow 1=some g->¬G.Z g/\∀o,¬G.S g o:=λg hg=>by
  obtain⟨_,_,_,h1|⟨g',cap,cur,h1,_,h2,_,_,_,_,h3,_⟩⟩:=hb
  ·rw[h1.1]at hg;cases hg
  ·rw[h1]at hg;cases hg;exact⟨h2,h3⟩
 have hE:bI G.N G w G w':=⟨eY,λ_ _ h=>h,λb o hs=>by
  unfold World.cell?;rw[h b (hi.S b o hs) (λg hg e=>by subst e;exact(Zd b hg).2 o hs)],λ_ _=>rfl,λ_ _=> .inl ⟨rfl,rfl⟩,gp rfl,λb hz=>h b (hi.z b hz) (λg hg e=>by subst e;exact(Zd b hg).1 hz),ho,ht,hp,λ_ _ hs=> .inl hs⟩
 refine⟨hE,hi.len,λb hz=>ap7 (hi.z b hz) eY,λb o hs=>ap7 (hi.S b o hs) eY,λn B hB=> ?_,λm n b h1 h2=> ?_,hi.gl.aT hE⟩
 ·match n,hB with
  |0,hB=>cases hB;trivial
  |1,hB=>cases hB;trivial
  |n+2,hB=>simp at hB
 ·match m,h1 with
  |0,h1=>cases h1
  |1,h1=>cases h1
  |m+2,h1=>simp [bM]at h1
theorem ama(w:aqC)(g n:Nat):w.heap.size<=(w.drew.freeze ⟨g,0,none⟩ n).heap.size/\(∀k,k≠g->(w.drew.freeze ⟨g,0,none⟩ n).heap[k]?=w.heap[k]?)/\(w.drew.freeze ⟨g,0,none⟩ n).os=w.os/\(w.drew.freeze ⟨g,0,none⟩ n).tape=w.tape/\(w.drew.freeze ⟨g,0,none⟩ n).output=w.output:=by
 by_cases h:n=0
 ·have e:w.drew.freeze ⟨g,0,none⟩ n=w.drew:=if_pos h;rw[e];exact⟨apU _,λ_ _=>rfl,rfl,rfl,rfl⟩
 ·have e:w.drew.freeze ⟨g,0,none⟩ n={w.drew with heap:=w.drew.heap.modify g fun
   | .cells c elem (lo,hi)=> .cells c elem (if lo==hi then(0,0+n)else(min lo 0,max hi (0+n)))
   |o=>o}:=if_neg h
  rw[e];refine⟨?_,λk hk=> ?_,rfl,rfl,rfl⟩
  ·show w.heap.size<=(w.heap.modify g _).size;rw[Array.size_modify];exact apU _
  ·show(w.heap.modify g _)[k]?=_;rw[Array.getElem?_modify,if_neg (λe=>hk e.symm)]
theorem akO{T:TypeId}{b:aqy}:cF Tryz.prog 79 [.ptr 0 0] (p6 T b) λr1 h1=>r1=aC b/\h1=[.gone, .gone]:=by
 refine⟨by kernel_rfl,λG w vs hinv oc hr=> ?_⟩;obtain⟨v0,rfl⟩:∃v0,vs= #[v0]:=by
  obtain⟨l⟩:=vs
  match l,oc with
  |[a],_=>exact⟨a,rfl⟩
 obtain rfl:=OJ (hr 0 v0 _ rfl rfl);obtain⟨p,A,c,h3,hp,hv,qk⟩:=NZ hinv;have c1:w.drew.cell? ⟨G.aI 0,1,none⟩=some (.slice A b.size c):=by
  have:w.drew.heap[G.aI 0]?=some (.cells #[p, .slice A b.size c] T (0,0)):=h3;rw[Lib.cell_of_heap this];rfl
 have Ys:=acI (w':=w.drew) hinv (apU _) (λ_ _ _=>rfl) rfl rfl rfl;by_cases h0:b.size=0
 ·have eb:b=⟨#[]⟩:=by
   obtain⟨d⟩:=b;have:d.size=0:=h0;rw[Array.eq_empty_of_size_eq_zero this]
  rw[h0]at c1 qk;have hUS:∀q W,(Builtin.unsafeString_ #[180,3] 9 #[.pointer q, .int .i64 0]).run Tryz.prog W= .ok (.string .empty) W:=λq W=>Lib.run_unsafeString_none W _ _ _ q;have ID:∀{e:Ending},e= .returned (.string .empty)->∃v G' r h',e= .returned v/\bI G.N G w G' w.drew/\G.N<=G'.N/\bD G' w.drew h'/\aD G' w.drew v r/\r=aC b/\h'=[.gone, .gone]:=λhe=>⟨_,G,_,_,he,Ys.1,apU _,Ys.2, .d (.v _),by rw[eb];rfl,rfl⟩;rcases qk with e1|⟨g,n,cap,e1,hc⟩
  ·cases e1
   have hSD:(Builtin.unsafeSliceData_ #[134] 180 #[.slice none 0 0]).run Tryz.prog w.drew= .ok (.pointer none) w.drew:=rfl
   go_enter Tryz.func79,Tryz.ntmps79
   go_wp2
   go_region
   all_goals (go_wp2;go_ret;exact ID rfl)
  ·cases e1
   have hSD:(Builtin.unsafeSliceData_ #[134] 180 #[.slice (some ⟨g,0,none⟩) 0 c]).run Tryz.prog w.drew= .ok (.pointer (some ⟨g,0,none⟩)) w.drew:=Lib.run_unsafeSliceData_row _ _ _ _ _ _ hc;clear hc
   go_enter Tryz.func79,Tryz.ntmps79
   go_wp2
   go_region
   all_goals (go_wp2;go_ret;exact ID rfl)
 ·have cy:hX b≠ []:=λe=>h0 (by rw[<-jZ b,e];rfl);obtain⟨g,cap,cur,t1,t2,t3,t4,t5,t6,t7,t8,t9⟩:=zJ hinv (n:=1) rfl cy;obtain⟨-,⟨A',c',e1,k1,-,-,k4⟩,-⟩:=hv.oY hinv rfl (jZ b);cases e1
  obtain⟨g',zt,e2,e3,-⟩:=k4 (by omega);clear k4;rw[t2,jZ]at e2;cases e2
  rw[Nat.zero_mul]at e3;subst e3;clear t2;rw[jZ]at t5;have hc:c≠0:=by omega
  have hl:(bL b).length=b.size:=(ZU b).symm;have hg:w.drew.heap[g]?=some (.cells cur 5 (0,0)):=t4;have hSD:(Builtin.unsafeSliceData_ #[134] 180 #[.slice (some ⟨g,0,none⟩) b.size c]).run Tryz.prog w.drew= .ok (.pointer (some ⟨g,0,none⟩)) w.drew:=Lib.run_unsafeSliceData_row _ _ _ _ _ _ hc;have hUS:(Builtin.unsafeString_ #[180,3] 9 #[.pointer (some ⟨g,0,none⟩), .int .i64 b.size]).run Tryz.prog w.drew= .ok (.string b) (w.drew.freeze ⟨g,0,none⟩ b.size):=by
   have:=Lib.run_unsafeString_row (P:=Tryz.prog) w.drew 180 3 9 5 Tryz.underlying180 (by kernel_rfl) g cur.size (by simp [World.shape?,hg]) (bL b) (λe=>h0 (by rw[<-hl,e];rfl)) (by omega) (by unfold maxLen at t6;omega) (λj x hx=>by
    have hj:j<(bL b).length:=(apJ.1 hx).1;have hu:cur[j]?=some cur[j]:=ap5 (by omega);have jk:(hX b)[j]?=some [AV.d (.v (.int .u8 x.toNat))]:=by
     unfold hX byteCells;rw[apQ,apQ];show((bL b)[j]?.map _).map _=_;rw[hx];rfl
    have mi:=(t9 j 0 _ _ cur[j] jk rfl (by rw[Nat.mul_one,Nat.add_zero];exact hu)).val;rw[lC,ap3,Lib.cell_of_heap hg,hu,mi])
   rw[hl]at this;rw[this,show(⟨(bL b).toArray⟩:aqy)=b by cases b;simp [bL]]
  have ID:∀{e:Ending},e= .returned (.string b)->∃v G' r h',e= .returned v/\bI G.N G w G' (w.drew.freeze ⟨g,0,none⟩ b.size)/\G.N<=G'.N/\bD G' (w.drew.freeze ⟨g,0,none⟩ b.size) h'/\aD G' (w.drew.freeze ⟨g,0,none⟩ b.size) v r/\r=aC b/\h'=[.gone, .gone]:=λhe=>by
   obtain⟨z1,z2,z3,z4,z5⟩:=ama w g b.size;have hz:=acI (w':=w.drew.freeze ⟨g,0,none⟩ b.size) hinv z1 (λk _ hk=>z2 k (hk g t1)) z3 z4 z5;exact⟨_,G,_,_,he,hz.1,apU _,hz.2, .d (.v _),rfl,rfl⟩
  go_enter Tryz.func79,Tryz.ntmps79
  go_wp2
  go_region
  all_goals (go_wp2;go_ret;exact ID rfl)
def bG(j:Nat)(b:aqy):aqx AV:=[.vec j 0 b.size b.size 1]
def B9(T:TypeId)(b:aqy):aqx an:=[.aV T (bG 1 b), .bm 5 b]
theorem ah7{G:Gh}{w:aqC}{v:aqB}{a b:AV}(h:aD G w v (.bz [a,b])):aD G w v (.bz [.dead, .dead]):=by
 cases h with|bz vs _ hl hr=>
 exact .bz vs [.dead, .dead] hl λi u c hu hc=>by
  match i with
  |0=>cases hc;exact .dead u
  |1=>cases hc;exact .dead u
  |i+2=>simp at hc
def Ac(b s:aqy):aqz aqy:=bif Nat.ble (b.size+s.size) 140737488355328 then some (b++s)else none
theorem Zo{T:TypeId}{b s:aqy}(hT:PT T=true):KP 70 [.ptr 0 0,aC s] (B9 T b) (λ_=> .bz [.dead, .dead]) (λr=>B9 T r) (Ac b s):=λr h=>by
 unfold Ac at h;cases e:Nat.ble (b.size+s.size) 140737488355328 with
 |false=>rw[e]at h;cases h
 |true=>
  rw[e]at h;cases h
  have hw:=afG hT (b:=b) (s:=s) (apR e);exact⟨hw.1,λG w vs hi oc hr=>(hw.2 G w vs (Rg (k:=1) hi rfl) oc hr).mono λe w' ⟨v,G',r,h',e1,x1,x2,x3,x4,e2,e3⟩=>⟨v,G',_,_,e1,x1,x2,by subst e3;exact PA (k:=1) x3 rfl,by subst e2;exact ah7 x4,rfl,rfl⟩⟩
theorem ao0{T:TypeId}{b:aqy}:KP 161 [.ptr 0 0] (B9 T b) ar (λ_=>B9 T b) (some (b.size:Int)):=λr h=>by
 cases h
 have hw:=afF (T:=T) (b:=b);exact⟨hw.1,λG w vs hi oc hr=>(hw.2 G w vs (Rg (k:=1) hi rfl) oc hr).mono λe w' ⟨v,G',r,h',e1,x1,x2,x3,x4,e2,e3⟩=>⟨v,G',_,_,e1,x1,x2,by subst e3;exact PA (k:=1) x3 rfl,x4,e2,rfl⟩⟩
theorem aac{T:TypeId}{b:aqy}:KP 79 [.ptr 0 0] (B9 T b) aC (λ_=>[.gone, .gone]) (some b):=λr h=>by
 cases h
 have hw:=akO (T:=T) (b:=b);exact⟨hw.1,λG w vs hi oc hr=>hw.2 G w vs (Rg (k:=1) hi rfl) oc hr⟩
end Go.Proofs.YtmkmibahjanejaaGreatDoor
namespace Go.Proofs.YtmkmibahjanejaaGreatDoor
open Go.RowKit Go.Shelf Go.Sort
set_option maxRecDepth 100000
set_option maxHeartbeats 2000000
set_option linter.unusedVariables false
set_option linter.unusedSimpArgs false
def Bx:Ren where
 f:=fun
  |129=>152
  |246=>80
  |283=>130
  |284=>131
  |285=>132
  |286=>133
  |317=>171
  |318=>172
  |319=>173
  |320=>174
  |337=>211
  |338=>212
  |n=>n
 t:=fun
  |0=>0
  |2=>2
  |3=>3
  |4=>4
  |5=>5
  |9=>9
  |20=>20
  |37=>134
  |46=>165
  |51=>204
  |53=>74
  |171=>181
  |173=>184
  |212=>223
  |213=>224
  |232=>261
  |233=>262
  |n=>n
 g:=fun
  |17=>0
  |18=>2
  |19=>3
  |n=>n
theorem Cx:Lays.n246 Tryz.prog Bx:=by
 constructor<;>first|kernel_rfl|(intro w;rfl)
def sU(w:aqC):Prop:=∀q,q<20->w.cell? ⟨0,q,none⟩=some (.int .u64 ((10^q:Nat):Int))
theorem Sk{u:Nat}(h1:1<=u)(h2:u<18446744073709551616){w:aqC}(hT:sU w):
 Calls Tryz.prog 131 #[.int .u64 u] w λe w'=>e= .returned (.int .i64 (Lib.nDigits u))/\w'=w:=by
 obtain⟨gd,eu⟩:=Lib.numDigits_eq u h1 h2;have hL:Lib.bitLen u<=64:=Lib.bitLen_le u 64 (apU _) h2;have gD:=hT (Lib.l10 (Lib.bitLen u)) (by omega);have hto:((u:Int)).toNat=u:=by omega
 generalize hq:Lib.l10 (Lib.bitLen u)=q at gd eu gD;generalize hP:10^q=T at gd gD;have cH:q<20:=by omega
 have Hnd:=Lib.hid gd;clear gd hT
 go_enter Tryz.func131,Tryz.ntmps131
 go_wp2_with (first
  |(go_at_call 152;refine(Any.bits_Len64 (ρ:=Bx) {Cx with} _ _ (by omega) (by omega)).mono ?_;rintro e w' ⟨rfl,rfl⟩)
  |(go_at_call 171;refine(Any.internal_strconv_log10Pow2 (ρ:=Bx) {Cx with} _ (by first|exact hL|(rw[hto];exact hL)) _).mono ?_;rintro e w' ⟨rfl,rfl⟩)
  |(go_at_call 172;refine(Any.internal_strconv_bool2_int (ρ:=Bx) {Cx with} _ _).mono ?_;rintro e w' ⟨rfl,rfl⟩))
 all_goals go_ret
 all_goals (
  refine⟨?_,rfl⟩;have gd:=Hnd.out
  congr 2
  split at gd<;>simp_all<;>omega)
abbrev sE(b:UInt8):aqB:=Value.int .u8 (b.toNat:Int)
theorem A7:Tryz.prog.arrayLen 181=24:=by kernel_rfl
theorem aa4{i:Nat}(h:i<100)(w:aqC):Calls Tryz.prog 130 #[.int .i64 i] w λe w'=>e= .returned (.string ⟨(Lib.decDigits i).toArray⟩)/\w'=w:=
 Any.internal_strconv_small (ρ:=Bx) {Cx with} i h w
theorem Qu{w:aqC}{off cap u:Nat}(hH:Holds sE (w.alloc (.cells Lib.zeros24 181)) w.heap.size off (Array.replicate (Lib.nDigits u) 0))(uy:u<18446744073709551616)(cH:Lib.nDigits u<=20):
 Calls Tryz.prog 132 #[.slice (some ⟨w.heap.size,off,none⟩) (Lib.nDigits u) cap, .int .u64 u] (w.alloc (.cells Lib.zeros24 181)) λe w'=>
  e= .returned (.tuple #[])/\∃(n v':Nat)(dk:Array UInt8),w'=(putRow sE (w.alloc (.cells Lib.zeros24 181)) w.heap.size off dk).drewN n/\Lib.FmtInv (Lib.nDigits u) u 0 v' dk:=by
 have h:=Any.internal_strconv_formatBase10 (P:=Tryz.prog) (ρ:=Bx) {Cx with} w.heap.size off cap u (Array.replicate (Lib.nDigits u) 0) (w.alloc (.cells Lib.zeros24 181)) hH (by rw[Array.size_replicate];exact Lib.lt_pow_nDigits u) uy (by rw[Array.size_replicate];omega);rw[Array.size_replicate]at h;exact h
theorem UM{w:aqC}{off cap u k v':Nat}{dk:Array UInt8}(J:Lib.FmtInv (Lib.nDigits u) u 0 v' dk)(hH:Holds sE (w.alloc (.cells Lib.zeros24 181)) w.heap.size off (Array.replicate (Lib.nDigits u) 0)):
 (convert 134 9 (.slice (some ⟨w.heap.size,off,none⟩) (Lib.nDigits u) cap)).run Tryz.prog ((putRow sE (w.alloc (.cells Lib.zeros24 181)) w.heap.size off dk).drewN k)= .ok (.string ⟨(Lib.decDigits u).toArray⟩) ((putRow sE (w.alloc (.cells Lib.zeros24 181)) w.heap.size off dk).drewN k):=by
 have h:=run_convert_bytes_back (P:=Tryz.prog) ((putRow sE (w.alloc (.cells Lib.zeros24 181)) w.heap.size off dk).drewN k) 134 9 5 ⟨w.heap.size,off,none⟩ cap (Lib.decDigits u) Tryz.underlying134 Tryz.underlying5 Tryz.underlying9 (λj hj=>by
  rw[Lib.row_is_numeral J j hj,Lib.add_plain,World.cell?_drewN];exact cell?_putRow sE _ w.heap.size off _ dk hH (by rw[J.size,Array.size_replicate]) j (by rw[J.size];rw[Lib.decDigits_length]at hj;exact hj))
 rw[Lib.decDigits_length]at h;exact h
theorem Q5{u:Nat}(h1:1<=u)(h2:u<18446744073709551616):Lib.nDigits u<=20:=by
 have:=Lib.numDigits_eq u h1 h2;split at this<;>omega
theorem sU.alloc{w:aqC}(h:sU w)(o:Obj):sU (w.alloc o):=λq hq=>by
 have h1:=h q hq;have aH:0<w.heap.size:=by
  rcases Nat.lt_or_ge 0 w.heap.size with h'|h'
  ·exact h'
  ·simp [World.cell?,Array.getElem?_eq_none h']at h1
 rw[World.cell?_alloc_lt _ _ _ aH];exact h1
theorem alf{u:Nat}(h2:u<18446744073709551616){w:aqC}(hT:sU w):
 Calls Tryz.prog 194 #[.int .u64 u, .int .i64 10] w λe w'=>e= .returned (.string ⟨(Lib.decDigits u).toArray⟩)/\∃k os,w'=grow (w.drewN k) os:=by
 by_cases hs:u<100
 ·have hw:IntKind.i64.wrap (u:Int)=(u:Int):=by rw[IntKind.wrap_i64];omega
  go_enter Tryz.func194,Tryz.ntmps194
  go_wp2_with (go_at_call 130;refine(aa4 hs _).mono ?_;rintro e w' ⟨rfl,rfl⟩)
  go_ret
  exact⟨rfl,0, #[],by simp [World.drewN_zero,grow]⟩
 ·have vP:1<=u:=by omega
  have cH:=Q5 vP h2;have yN:∀W,(Instr.sliceAt 181 (.pointer (some ⟨w.heap.size,0,none⟩)) none (some (.int .i64 (Lib.nDigits u:Int))) none).run Tryz.prog W= .ok (.slice (some ⟨w.heap.size,0,none⟩) (Lib.nDigits u) 24) W:=λW=>by
   rw[run_sliceAt_array_h W 181 ⟨w.heap.size,0,none⟩ (by simp [Program.arrayLen,Program.elem,Tryz.underlying181]) .i64 (Lib.nDigits u:Int) (by omega) (by rw[A7];omega),A7]
   go_simp
  have hH:=Lib.holds_zero0 w 181 (Lib.nDigits u) (by omega);have HH:=Lib.hid hH;have hf:=Qu (cap:=24) hH h2 cH;have eR:=hT.alloc (.cells Lib.zeros24 181);clear hH hT
  go_enter Tryz.func194,Tryz.ntmps194
  go_wp2_with (go_at_call 131;refine(Sk vP h2 eR).mono ?_;rintro e w' ⟨rfl,rfl⟩)
  go_at_call 132
  refine hf.mono ?_;rintro e w' ⟨rfl,k,v',dk,rfl,J⟩;have TI:=UM (cap:=24) (k:=k) J HH.out
  go_wp2
  go_ret
  obtain⟨os,eo⟩:=Lib.fin_at w (.cells Lib.zeros24 181) dk k 0;exact⟨rfl,k,os,eo⟩
theorem WI{u:Nat}(h:Lib.nDigits u<=20)(b:Nat)(W:aqC):(Instr.sliceAt 181 (.pointer (some ⟨b,0,none⟩)) (some (.int .i64 1)) (some (.int .i64 (1+(Lib.nDigits u:Int)))) none).run Tryz.prog W= .ok (.slice (some ⟨b,1,none⟩) (Lib.nDigits u) 23) W:=by
 rw[run_sliceAt_array_lh W 181 ⟨b,0,none⟩ (by simp [Program.arrayLen,Program.elem,Tryz.underlying181]) .i64 .i64 1 (1+(Lib.nDigits u:Int)) (by omega) (by omega) (by rw[A7];omega),A7]
 go_simp
 omega
theorem aeT{u:Nat}(hs:¬u<100)(h2:u<9223372036854775808){w:aqC}(hT:sU w):
 Calls Tryz.prog 80 #[.int .i64 u, .int .i64 10] w λe w'=>e= .returned (.string ⟨(Lib.decDigits u).toArray⟩)/\∃k os,w'=grow (w.drewN k) os:=by
 have vP:1<=u:=by omega
 have uy:u<18446744073709551616:=by omega
 have cH:=Q5 vP uy;have hwr:IntKind.u64.wrap (u:Int)=(u:Int):=by rw[IntKind.wrap_u64];omega
 have yN:=λW=>WI cH w.heap.size W;have hH:=Lib.holds_zero w 181 (Lib.nDigits u) (by omega);have HH:=Lib.hid hH;have hf:=Qu (cap:=23) hH uy cH;have eR:=hT.alloc (.cells Lib.zeros24 181);clear hH hT;have pJ:Lib.nDigits u<=23:=by omega
 go_enter Tryz.func80,Tryz.ntmps80
 go_wp2_with (go_at_call 131;refine(Sk vP uy eR).mono ?_;rintro e w' ⟨rfl,rfl⟩)
 go_at_call 132
 refine hf.mono ?_;rintro e w' ⟨rfl,k,v',dk,rfl,J⟩;have TI:=UM (cap:=23) (k:=k) J HH.out
 go_wp2
 go_ret
 obtain⟨os,eo⟩:=Lib.fin_pos w (.cells Lib.zeros24 181) dk k;exact⟨rfl,k,os,eo⟩
theorem apf{u:Nat}(hs:u<100){w:aqC}:
 Calls Tryz.prog 80 #[.int .i64 u, .int .i64 10] w λe w'=>e= .returned (.string ⟨(Lib.decDigits u).toArray⟩)/\∃k os,w'=grow (w.drewN k) os:=by
 go_enter Tryz.func80,Tryz.ntmps80
 go_wp2_with (go_at_call 130;refine(aa4 hs _).mono ?_;rintro e w' ⟨rfl,rfl⟩)
 go_ret
 exact⟨rfl,0, #[],by simp [World.drewN_zero,grow]⟩
theorem aeY{u:Nat}(vP:1<=u)(h2:u<=9223372036854775808){w:aqC}(hT:sU w):
 Calls Tryz.prog 80 #[.int .i64 (-(u:Int)), .int .i64 10] w λe w'=>e= .returned (.string ⟨(45::Lib.decDigits u).toArray⟩)/\∃k os,w'=grow (w.drewN k) os:=by
 have uy:u<18446744073709551616:=by omega
 have cH:=Q5 vP uy;have hwr:IntKind.u64.wrap (-IntKind.u64.wrap (-(u:Int)))=(u:Int):=by rw[IntKind.wrap_u64,IntKind.wrap_u64];omega
 have yN:=λW=>WI cH w.heap.size W;have hH:=Lib.holds_zero w 181 (Lib.nDigits u) (by omega);have HH:=Lib.hid hH;have hf:=Qu (cap:=23) hH uy cH;have eR:=hT.alloc (.cells Lib.zeros24 181);clear hH hT;have pJ:Lib.nDigits u<=23:=by omega
 go_enter Tryz.func80,Tryz.ntmps80
 go_wp2_with (go_at_call 131;refine(Sk vP uy eR).mono ?_;rintro e w' ⟨rfl,rfl⟩)
 go_at_call 132
 refine hf.mono ?_;rintro e w' ⟨rfl,k,v',dk,rfl,J⟩;generalize hW:(putRow sE (w.alloc (.cells Lib.zeros24 181)) w.heap.size 1 dk).drewN k=W;have hc0:W.cell? ⟨w.heap.size,0,none⟩=some (.int .u8 0):=by
  rw[<-hW,World.cell?_drewN,cell?_putRow_other _ _ _ _ _ _ (Or.inr (Or.inl (Nat.zero_lt_one))),World.cell?_alloc_new];exact Lib.zeros24_at 0 (by omega)
 have hf0:W.frozen? ⟨w.heap.size,0,none⟩=false:=by
  rw[<-hW,World.frozen?_drewN,frozen?_putRow];exact World.frozen?_alloc_new _ _ _ _
 have apH:∀V,(Instr.sliceAt 181 (.pointer (some ⟨w.heap.size,0,none⟩)) none (some (.int .i64 (1+(Lib.nDigits u:Int)))) none).run Tryz.prog V= .ok (.slice (some ⟨w.heap.size,0,none⟩) (1+Lib.nDigits u) 24) V:=λV=>by
  rw[run_sliceAt_array_h V 181 ⟨w.heap.size,0,none⟩ (by simp [Program.arrayLen,Program.elem,Tryz.underlying181]) .i64 (1+(Lib.nDigits u:Int)) (by omega) (by rw[A7];omega),A7]
  go_simp
  omega
 have TI:(convert 134 9 (.slice (some ⟨w.heap.size,0,none⟩) (1+Lib.nDigits u) 24)).run Tryz.prog (W.setCell ⟨w.heap.size,0,none⟩ (.int .u8 45))= .ok (.string ⟨(45::Lib.decDigits u).toArray⟩) (W.setCell ⟨w.heap.size,0,none⟩ (.int .u8 45)):=by
  have h:=run_convert_bytes_back (P:=Tryz.prog) (W.setCell ⟨w.heap.size,0,none⟩ (.int .u8 45)) 134 9 5 ⟨w.heap.size,0,none⟩ 24 (45::Lib.decDigits u) Tryz.underlying134 Tryz.underlying5 Tryz.underlying9 (λj hj=>by
   rw[Lib.add_plain];cases j with
   |zero=>exact World.cell?_setCell_same _ _ _ hc0
   |succ i=>
    have hi:i<(Lib.decDigits u).length:=by simpa using hj
    rw[World.cell?_setCell_other _ _ _ _ (by simp),List.getElem_cons_succ,Lib.row_is_numeral J i hi,<-hW,World.cell?_drewN,show 0+(i+1)=1+i by omega];exact cell?_putRow sE _ w.heap.size 1 _ dk HH.out (by rw[J.size,Array.size_replicate]) i (by rw[J.size];rw[Lib.decDigits_length]at hi;exact hi))
  rw[apM,Lib.decDigits_length,Nat.add_comm]at h;exact h
 go_wp2
 go_ret
 obtain⟨os,eo⟩:=Lib.fin_neg w (.cells Lib.zeros24 181) dk k (.int .u8 45);rw[<-hW];exact⟨rfl,k,os,eo⟩
def nr:Nat->Nat->aqx UInt8->aqx UInt8
 |0,_,a=>a
 |f+1,u,a=>bif Nat.blt u 10 then UInt8.ofNat (48+u)::a else nr f (u / 10) (UInt8.ofNat (48+u%10)::a)
theorem Ib:∀(f u:Nat)(a:aqx UInt8),u<10^(f+1)->nr (f+1) u a=Lib.decDigits u++a
 |f,u,a,h=>by
  rw[nr];by_cases aU:u<10
  ·rw[show Nat.blt u 10=true from by rw[Nat.blt_eq];exact aU,Lib.decDigits_one aU];rfl
  ·rw[show Nat.blt u 10=false from by rw[<-Bool.not_eq_true,Nat.blt_eq];exact aU,cond_false,Lib.decDigits,dif_neg aU];cases f with
   |zero=>omega
   |succ f=>
    rw[Ib f (u / 10) _ (by rw[Nat.div_lt_iff_lt_mul (by decide)];rw[Nat.pow_succ]at h;exact h),ap0];rfl
theorem Ej{u:Nat}(h:u<100000000000000000000):u<10^(19+1):=by
 have e:(10:Nat)^(19+1)=100000000000000000000:=by decide
 rw[e];exact h
def kJ(n:Int):aqy:=⟨(bif decide (n<0)then 45::nr 20 n.natAbs []else nr 20 n.toNat []).toArray⟩
theorem alY{G:Gh}{w:aqC}(h:FJ G w):sU w:=λq hq=>by
 have hm:(0,AZ II)∈y5:=Nk (by kernel_rfl);refine(h.1 _ _ hm q _ ?_).2;unfold AZ II;rw[apQ,apQ,List.getElem?_range hq];rfl
theorem acX{G:Gh}{w w':aqC}{h:aqx an}(hi:bD G w h)(hg:w.grownBy w' none):bI G.N G w G w'/\bD G w' h:=by
 have hE:bI G.N G w G w':=⟨hg.size,λ_ _ h=>h,λb o hs=>by
  unfold World.cell?;rw[hg.block b (hi.S b o hs) (λe=>by cases e)],λ_ _=>rfl,λ_ _=> .inl ⟨rfl,rfl⟩,gp rfl,λb hb=>hg.block b (hi.z b hb) (λe=>by cases e),hg.os,hg.tape,hg.output,λ_ _ hs=> .inl hs⟩
 exact⟨hE,hi.len,λb hb=>ap7 (hi.z b hb) hE.size,λb o hs=>ap7 (hi.S b o hs) hE.size,λm B hB=>
  dD.aT (hi.lt hB) hE (apU _) ⟨rfl,rfl,rfl⟩ (λb hb=>⟨hg.block b (hi.gw ((dc hB).trans hb)) (λe=>by cases e),λo h=>h⟩) (hi.cD m B hB),hi.inj,hi.gl.aT hE⟩
theorem aoY(w:aqC)(k:Nat)(os:Array Obj):w.grownBy (grow (w.drewN k) os) none:=
 ⟨rfl,rfl,rfl,by show w.heap.size<=(w.heap++os).size;rw[Array.size_append];omega,λj hj _=>Lib.heap_grow_old w k os j hj⟩
theorem Wa{f:FuncId}{x y:aqB}{a b:AV}{s:aqy}(he:Et Tryz.prog f=true)(hx:∀{G:Gh}{w:aqC}{u:aqB},aD G w u a->u=x)(hy:∀{G:Gh}{w:aqC}{u:aqB},aD G w u b->u=y)
 (hc:∀w:aqC,sU w->Calls Tryz.prog f #[x,y] w λe w'=>e= .returned (.string s)/\∃k os,w'=grow (w.drewN k) os):ij Tryz.prog f [a,b] (·=aC s):=by
 refine⟨he,λG w vs hi hl hr=> ?_⟩;obtain⟨v0,v1,rfl⟩:∃v0 v1,vs= #[v0,v1]:=by
  obtain⟨l⟩:=vs
  match l,hl with
  |[a,b],_=>exact⟨a,b,rfl⟩
 obtain rfl:=hx (hr 0 v0 _ rfl rfl);obtain rfl:=hy (hr 1 v1 _ rfl rfl);refine(hc w (alY hi.gl)).mono λe w' hp=> ?_;obtain⟨rfl,k,os,rfl⟩:=hp;obtain⟨i1,i2⟩:=acX hi (aoY w k os);exact⟨_,G,_,_,rfl,i1,apU _,i2, .d (.v _),rfl,rfl⟩
def QU(v1:Int64)(v2:Int):aqz aqy:=bif v2==10then some (kJ v1.toInt)else none
def Ha(v1 v2:Int):aqz aqy:=bif v2==10then bif decide (0<=v1)&&decide (v1<18446744073709551616)then some ⟨(nr 20 v1.toNat []).toArray⟩else none else none
theorem ahm{v1:Int64}{v2:Int}:KO 80 [(cQ v1),(ar v2)] aC (QU v1 v2):=λr h=>by
 unfold QU at h;cases e:v2==10with
 |false=>rw[e]at h;cases h
 |true=>
  rw[e]at h;cases h
  obtain rfl:v2=10:=by simpa using e
  refine Wa (x:= .int .i64 v1.toInt) (y:= .int .i64 10) (by kernel_rfl) (λh=>h.val) (λh=>h.val) λw hT=> ?_;have h1:=v1.le_toInt;have h2:=v1.toInt_lt;unfold kJ;generalize v1.toInt=z at h1 h2;by_cases hz:z<0
  ·obtain⟨u,rfl⟩:∃u:Nat,z= -(u:Int):=⟨z.natAbs,by omega⟩;rw[aqq hz,cond_true,show(-(u:Int)).natAbs=u by omega,Ib 19 u [] (Ej (by omega)),ap4];exact aeY (by omega) (by omega) hT
  ·obtain⟨u,rfl⟩:∃u:Nat,z=(u:Int):=⟨z.toNat,by omega⟩;rw[aqr hz,cond_false,aqa,Ib 19 u [] (Ej (by omega)),ap4];by_cases hs:u<100
   ·exact apf hs
   ·exact aeT hs (by omega) hT
theorem ahN{v1 v2:Int}:KO 194 [(.d (.v (.int .u64 v1))),(ar v2)] aC (Ha v1 v2):=λr h=>by
 unfold Ha at h;cases e:v2==10with
 |false=>rw[e]at h;cases h
 |true=>
  rw[e,cond_true]at h;obtain rfl:v2=10:=by simpa using e
  cases e2:decide (0<=v1)&&decide (v1<18446744073709551616)with
  |false=>rw[e2]at h;cases h
  |true=>
   rw[e2]at h;cases h
   rw[apL,decide_eq_true_iff,decide_eq_true_iff]at e2;obtain⟨u,rfl⟩:∃u:Nat,v1=(u:Int):=⟨v1.toNat,by omega⟩;rw[aqa,Ib 19 u [] (Ej (by omega)),ap4];exact Wa (x:= .int .u64 u) (y:= .int .i64 10) (by kernel_rfl) (λh=>h.val) (λh=>h.val) λw hT=>alf (by omega) hT
end Go.Proofs.YtmkmibahjanejaaGreatDoor
namespace Go.Proofs.YtmkmibahjanejaaGreatDoor
open Go.RowKit
set_option maxRecDepth 100000
set_option maxHeartbeats 0
set_option linter.unusedVariables false
def zG:dx:=⟨(0:Int64),(0:Int64)⟩
def gF:bA:=⟨(0:Int),(0:Int),(0:Int),(0:Int),(0:Int)⟩
def aoU:aR:=⟨(0:Int64),[]⟩
def fI(v:aK)(r:aqx AV):aqx AV:=(.d (.sl (b6 v.aA)))::(.d (.sl (hY v.cr)))::(.d (.sl (iT v.aG)))::(.d (.sl (gh v.ay)))::(.d (.sl (b6 v.b9)))::r
def LC(N:Nat):aqx aR->Nat->aqz Bool
 |[],_=>
  some false
 |v4::v5,v2=>
  bif (decide ((v4.xL.length:Int)>20))then
   some true
  else
   (LC N v5 (v2+1))
def M9(N:Nat)(v1:aqx aR):aqz Bool:=
 LC N v1 0
theorem alV{N v1}:KO 17 [(.d (.sl (c6 v1)))] aM (M9 N v1):=
 fw Tryz.func17 (gA [[],[]] (gT lh 0 v1 λh2=>dK 1 [] [0,3] 0 (λv2=>⟨17,[(0,(.d (.sl (c6 v1)))),(3,(ar (v2:Int)))],[]⟩) (λv2 h3 f1=>gR [[(7,oL v1 dT)],[f0 (bj h3)],[]]) (λv2 v4 v5 h3 f1 aB=>gA [[(7,oL v1 dT)],[t0 (bk h3)],[(7,oE (k9 (aW h3))),(16,oL v4.xL eK)]] (bB λh4=>gb aB () [[f0 h4],[(5,oq (bE h3 rfl h2))]] h3))))
def xH(N:Nat)(v2:Int)(uj:au->Int->aqz Int):aqx au->Nat->Int->aqz Int
 |[],_,v12=>
  some v12
 |v10::v11,v8,v12=>
  bif (decide (v12<=v2))then
   Option.bind (uj v10 (bl (v2-v12))) λba=>
   (λiW=>xH N v2 uj v11 (v8+1) iW) (bl (v12+ba))
  else
   some v12
def I2(N:Nat)(fD:Int->aqz Int)(v2:Int):aqx aR->Nat->Int->aqz Int
 |[],_,cJ=>
  fD cJ
 |cu::v17,b8,cJ=>
  bif (decide (cJ<=v2))then
   (λmu=>I2 N fD v2 v17 (b8+1) mu) (bl (cJ+(cu.xL.length:Int)))
  else
   fD cJ
def zR(N:Nat)(v2:Int)(uj:au->Int->aqz Int):aqx au->Nat->Int->aqz Int
 |[],_,v23=>
  some v23
 |v21::v22,dy,v23=>
  bif (decide (v23<=v2))then
   Option.bind (uj v21 (bl (v2-v23))) λv24=>
   (λnN=>zR N v2 uj v22 (dy+1) nN) (bl (v23+v24))
  else
   some v23
def zh(N:Nat)(v2:Int)(uj:au->Int->aqz Int)(v1:au):aqx bH->Nat->Int->aqz Int
 |[],_,v7=>
  xH N v2 uj v1.bp 0 v7
 |v5::v6,v3,v7=>
  bif (decide (v7<=v2))then
   I2 N (λbq=>zh N v2 uj v1 v6 (v3+1) bq) v2 v5.bO 0 (bl ((bl (v7+(v5.aS.xL.length:Int)))+(v5.bO.length:Int)))
  else
   zR N v2 uj v1.bp 0 v7
def vp(N:Nat):Nat->au->Int->aqz Int
 |0,_,_=>none
 |d+1,v1,v2=>
  zh N v2 (vp N d) v1 v1.xIdx 0 (bl ((bl ((1:Int)+(v1.aS.xL.length:Int)))+(v1.xIdx.length:Int)))
def Sc(N:Nat)(v1:au)(v2:Int):aqz Int:=vp N N v1 v2
theorem agu(N:Nat):∀d:Nat,(∀{v1:au}{v2:Int},KO 18 [(aN v1),(ar v2)] ar (vp N d v1 v2)):=by
 intro d
 induction d with
 |zero=>intro v1 v2 r J;rw[vp]at J;cases J
 |succ d ih=>
  have Ur:= @ih;intro v1 v2;rw[vp];exact fw Tryz.func18 (gA [[],[(10,oL v1.aS.xL eK),(22,oL v1.xIdx fx)],[]] (gB lX 0 11 v1.xIdx λh2=>eM 1 [] [1,2,5,6] 1 (λv3(v7:Int)=>⟨101,[(1,(ar v2)),(2,(.ptr 0 0)),(5,(ar v7)),(6,(ar (v3:Int)))],[.cells (aN v1).cells]⟩) (λv3 v7 h3 f1=>gA [[(10,oL v1.xIdx fx),(18,bF (bj h3)),(21,bF (bj h3)),(24,bF (bj h3)),(28,bF (bj h3))],[(0,bF rfl)],[]] (gB lK 0 12 v1.bp λh5=>eM 2 [] [1,2,5,8] 1 (λv8(v12:Int)=>⟨101,[(1,(ar v2)),(2,(.ptr 0 0)),(5,(ar v12)),(8,(ar (v8:Int)))],[.cells (aN v1).cells]⟩) (λv8 v12 h6 f2=>gR [[(10,oL v1.bp gq),(18,bF (bj h6)),(21,bF (bj h6)),(24,bF (bj h6)),(28,bF (bj h6))],[(0,bF rfl)],[]]) (λv8 v10 v11 v12 h6 f2 ca=>gA [[(10,oL v1.bp gq),(18,bT (bk h6)),(21,bT (bk h6)),(24,bT (bk h6)),(28,bT (bk h6))]] (lT λh7=>aq λba h8=>gb ca (bl (v12+ba)) [[(0,bT h7)],[(13,oE (fX (aW h6))),(28,cK Ur h8)],[(5,oq (bE h6 rfl h5))]] h6)))) (λv3 v5 v6 v7 h3 f1 aB=>gA [[(10,oL v1.xIdx fx),(18,bT (bk h3)),(21,bT (bk h3)),(24,bT (bk h3)),(28,bT (bk h3))]] (aw (λh9=>gA [[(0,bT h9)],[(13,oE (gx (aW h3))),(25,oL v5.aS.xL eK),(40,oE (gx (aW h3))),(49,oL v5.bO dT)],[]] (OR (λ_=>(Lu 0 11 (cZ v1.xIdx) (by kernel_rfl) ·)) λaU=>have bh:=Be dT (PB (j:=3) (d:= .sl (c6 v5.bO)) aU (gx (aW h3)) rfl);eM 3 [] [1,2,5,6,7] 1 (λb8(cJ:Int)=>⟨101,[(1,(ar v2)),(2,(.ptr 0 0)),(5,(ar cJ)),(6,(ar (v3:Int))),(7,(ar (b8:Int)))],[.cells (aN v1).cells]⟩) (λb8 cJ bn f3=>gb aB cJ [[(13,oE (gx (aW h3))),(22,oL v5.bO dT),(30,bF (bj bn)),(33,bF (bj bn)),(36,bF (bj bn)),(40,bF (bj bn))],[(0,bF rfl)],[(5,oq (bE h3 rfl h2))]] h3) (λb8 cu v17 cJ bn f3 fu=>gA [[(13,oE (gx (aW h3))),(22,oL v5.bO dT),(30,bT (bk bn)),(33,bT (bk bn)),(36,bT (bk bn)),(40,bT (bk bn))]] (aw (λb5=>gb fu (bl (cJ+(cu.xL.length:Int))) [[(0,bT b5)],[(13,oE (gx (aW h3))),(25,oE (k9 (aW bn))),(34,oL cu.xL eK)],[(5,oq (bE bn rfl bh))]] bn) λb5=>gb aB cJ [[(0,bF b5)],[(5,oq (bE h3 rfl h2))]] h3)))) λh9=>gA [[(0,bF h9)],[]] (gB lK 0 12 v1.bp λbK=>eM 4 [] [1,2,5,8] 1 (λdy(v23:Int)=>⟨101,[(1,(ar v2)),(2,(.ptr 0 0)),(5,(ar v23)),(8,(ar (dy:Int)))],[.cells (aN v1).cells]⟩) (λdy v23 bV f4=>gR [[(10,oL v1.bp gq),(18,bF (bj bV)),(21,bF (bj bV)),(24,bF (bj bV)),(28,bF (bj bV))],[(0,bF rfl)],[]]) (λdy v21 v22 v23 bV f4 iF=>gA [[(10,oL v1.bp gq),(18,bT (bk bV)),(21,bT (bk bV)),(24,bT (bk bV)),(28,bT (bk bV))]] (lT λcA=>aq λv24 dv=>gb iF (bl (v23+v24)) [[(0,bT cA)],[(13,oE (fX (aW bV))),(28,cK Ur dv)],[(5,oq (bE bV rfl bK))]] bV)))))))
theorem afs{N v1 v2}:KO 18 [(aN v1),(ar v2)] ar (Sc N v1 v2):=(agu N N)
def E6(N:Nat)(b8:bf)(VR:aqz Bool):Nat->Int->aqz Bool
 |0,_=>none
 |cJ+1,dy=>
  bif (decide (dy<(bl ((b8.aP.length:Int)+(b8.aY.length:Int)))))then
   bif (Nat.ble ((0+b8.aP.length)*48) 140737488355328)then
   bif (Nat.ble ((b8.aP.length+b8.aY.length)*48) 140737488355328)then
   bif (decide ((0:Int)<=dy))then
   Option.bind ((b8.aP++b8.aY)[(dy).toNat]?) λv20=>
   bif (decide ((v20.cw.xL.length:Int)>20))then
    some true
   else
    (λnN=>E6 N b8 VR cJ nN) (bl (dy+(1:Int)))
   else none
   else none
   else none
  else
   VR
def GN(N:Nat)(v2:Int):aqx bf->Nat->aqz Bool
 |[],_=>
  some false
 |b8::v15,v12=>
  Option.bind (bif (decide ((b8.aP.length:Int)>12))then some true else(bif (decide ((b8.aY.length:Int)>12))then some true else (Sc N b8.cg v2).bind λcu=>
  some (decide (cu>v2)))) λv17=>
  bif v17 then
   some true
  else
   E6 N b8 (GN N v2 v15 (v12+1)) N (0:Int)
def Je(N:Nat)(v2:Int)(v1:aK):aqx cv->Nat->aqz Bool
 |[],_=>
  GN N v2 v1.ay 0
 |v10::v11,v8=>
  Option.bind (bif (decide ((v10.aP.length:Int)>12))then some true else (M9 N v10.aP).bind λv21=>
  some v21) λv22=>
  bif v22 then
   some true
  else
   (Je N v2 v1 v11 (v8+1))
def JP(N:Nat)(v2:Int)(v1:aK):aqx c8->Nat->aqz Bool
 |[],_=>
  Je N v2 v1 v1.aG 0
 |v6::v7,v4=>
  bif (decide ((v6.aS.xL.length:Int)>20))then
   some true
  else
   (JP N v2 v1 v7 (v4+1))
def EB(N:Nat)(v1:aK)(v2:Int):aqz Bool:=
 Option.bind (bif (decide ((v1.aA.length:Int)>12))then some true else(bif (decide ((v1.cr.length:Int)>12))then some true else(bif (decide ((v1.aG.length:Int)>12))then some true else(bif (decide ((v1.ay.length:Int)>12))then some true else some (decide ((v1.b9.length:Int)>12)))))) λv3=>
 bif v3 then
  some true
 else
  JP N v2 v1 v1.cr 0
def uU(v1:aK)(l:aqx an):aqx an:= .cells (cX v1).cells::l
theorem ajb{N v1 v2}:KO 6 [(cX v1),(ar v2)] aM (EB N v1 v2):=
 fw Tryz.func6 (gA [[]] (gG (λv3=>[(38,(aM v3))]) (λ_=>(uU v1 [])) (cf (7,oL v1.aA dX) (aw (λh1=>gE [(4,bT h1),(10,bT rfl),(16,bT rfl),(22,bT rfl)] []) λh1=>bU (4,bF h1) (cf (22,oL v1.cr kg) (aw (λh2=>gE [(10,bT h2),(16,bT rfl),(22,bT rfl)] []) λh2=>bU (10,bF h2) (cf (40,oL v1.aG iy) (aw (λh3=>gE [(16,bT h3),(22,bT rfl)] []) λh3=>bU (16,bF h3) (cf (58,oL v1.ay gY) (aw (λh4=>gE [(22,bT h4)] []) λh4=>gE [(22,bF h4)] [(76,oL v1.b9 dX)])))))))) λv3=>dd λ_=>gB rP 0 1 v1.cr λh8=>dK 1 [] [1,2,5] 1 (λv4=>⟨135,[(1,(ar v2)),(2,(.ptr 0 0)),(5,(ar (v4:Int)))],(uU v1 [])⟩) (λv4 h9 f1=>gA [[(10,oL v1.cr kg)],[f0 (bj h9)],[]] (gB ny 0 2 v1.aG λbh=>dK 2 [] [1,2,6] 1 (λv8=>⟨135,[(1,(ar v2)),(2,(.ptr 0 0)),(6,(ar (v8:Int)))],(uU v1 [])⟩) (λv8 bn f2=>gA [[(10,oL v1.aG iy)],[f0 (bj bn)],[]] (gB nA 0 3 v1.ay λbZ=>dK 3 [] [1,2,7] 1 (λv12=>⟨135,[(1,(ar v2)),(2,(.ptr 0 0)),(7,(ar (v12:Int)))],(uU v1 [])⟩) (λv12 bK f3=>gR [[(10,oL v1.ay gY)],[f0 (bj bK)],[]]) (λv12 b8 v15 bK f3 fu=>gA [[(10,oL v1.ay gY)],[t0 (bk bK)],[(10,oE (jH (aW bK)))]] (gG (λv17=>[(108,(aM v17))]) (λ_=>(uU v1 [.cells (ep b8).cells])) (cf (7,oL b8.aP dB) (aw (λbV=>gE [(4,bT bV),(10,bT rfl)] []) λbV=>bU (4,bF bV) (cf (22,oL b8.aY dB) (aw (λcA=>gE [(10,bT cA)] []) λcA=>aq λcu dv=>gE [(10,bF cA)] [(43,cK afs dv)])))) λv17=>bB λcH=>Ly 4 [[f0 cH],[]] [1,2,7,8,9] 2 (λ(dy:Int)=>⟨135,[(1,(ar v2)),(2,(.ptr 0 0)),(7,(ar (v12:Int))),(8,(.ptr 1 0)),(9,(ar dy))],(uU v1 [.cells (ep b8).cells])⟩) (E6 N b8 (GN N v2 v15 (v12+1))) (λcJ dy f4 iF=>gA [[(10,oL b8.aP dB),(19,oL b8.aY dB)]] (aw (λdN=>gA [[t0 dN]] (aF λfe=>aF λdQ=>aF λfQ=>aq λv20 eG=>li (λ_=>(V8 3 dJ [(10,(.ptr 3 0))] (uU v1 [.cells (ep b8).cells, .front 72 3 (b8.aP++b8.aY).length, .cells (zV v20).cells]) ⟨[(10,oZ kW b8.aP fe),(19,oA kW b8.aP b8.aY dQ),(25,⟨_,_, .el (xs:=du (b8.aP++b8.aY)) (i:=dy) (of_decide_eq_true fQ) (iE eG)⟩)],by kernel_rfl⟩ ·)) (gA [[(10,oL v20.cw.xL eK)]] (bB λe9=>nB iF (bl (dy+(1:Int))) [[f0 e9],[]])))) λdN=>gb fu () [[f0 dN],[(5,oq (bE bK rfl bZ))]] bK)))))) (λv8 v10 v11 bn f2 ca=>gA [[(10,oL v1.aG iy)],[t0 (bk bn)]] (gG (λv22=>[(78,(aM v22))]) (λ_=>(uU v1 [])) (cf (10,oE (jy (aW bn))) (cf (19,oL v10.aP dT) (aw (λfG=>gE [(8,bT fG)] []) λfG=>aq λv21 gg=>gE [(8,bF fG)] [(37,oE (jy (aW bn))),(46,cK alV gg)]))) λv22=>bB λgL=>gb ca () [[f0 gL],[(5,oq (bE bn rfl bh))]] bn)))) (λv4 v6 v7 h9 f1 aB=>gA [[(10,oL v1.cr kg)],[t0 (bk h9)],[(10,oE (pI (aW h9))),(22,oL v6.aS.xL eK)]] (bB λiX=>gb aB () [[f0 iX],[(5,oq (bE h9 rfl h8))]] h9))))
def LO(N:Nat)(v1:aqy):aqz aR:=
 some (⟨(0:Int64),[(⟨v1,(1:Int64)⟩:bt)]⟩:aR)
theorem Nb{N v1}:KO 49 [(aC v1)] cE (LO N v1):=
 fw Tryz.func49 (gR [[],[]])
def Qf(N:Nat)(v1:aqy)(v2:aqy)(v3:aqy)(v4:aqy):aqz aK:=
 (LO N v4).bind λv5=>
 (LO N v1).bind λv6=>
 (LO N v1).bind λv7=>
 some (⟨[v1],[],[(⟨v2,(⟨(1:Int),(0:Int),(0:Int),(0:Int),(0:Int)⟩:bA),[v7]⟩:cv)],[(⟨v3,(⟨(1:Int),(0:Int),(0:Int),(0:Int),(0:Int)⟩:bA),[],[(⟨v4,v6⟩:cd)],(1:Int),(⟨(3:Int),v2,zG,gF,aoU,[(⟨v5,(bs []),[]⟩:bH)],[]⟩:au)⟩:bf)],[v3]⟩:aK)
theorem Zt{N v1 v2 v3 v4}:KO 19 [(aC v1),(aC v2),(aC v3),(aC v4)] cX (Qf N v1 v2 v3 v4):=
 fw Tryz.func19 (aq λv5 h1=>aq λv6 h2=>aq λv7 h3=>gR [[],[],[(7,cK Nb h1)],[(13,cK Nb h2)],[(16,cK Nb h3)]])
def L2(N:Nat)(v1:aK):aqz Bool:=
 Option.bind (bif (decide ((if(v1.b9.length:Int)>(if(v1.ay.length:Int)>(if(v1.aG.length:Int)>(v1.aA.length:Int)then(v1.aG.length:Int)else(v1.aA.length:Int))then(v1.ay.length:Int)else(if(v1.aG.length:Int)>(v1.aA.length:Int)then(v1.aG.length:Int)else(v1.aA.length:Int)))then(v1.b9.length:Int)else(if(v1.ay.length:Int)>(if(v1.aG.length:Int)>(v1.aA.length:Int)then(v1.aG.length:Int)else(v1.aA.length:Int))then(v1.ay.length:Int)else(if(v1.aG.length:Int)>(v1.aA.length:Int)then(v1.aG.length:Int)else(v1.aA.length:Int))))<=64))then some (decide ((v1.cr.length:Int)<=256))else some false) λv2=>
 some v2
theorem agv{N v1}:KO 36 [(cX v1)] aM (L2 N v1):=
 fw Tryz.func36 (gA [[]] (gG (λv2=>[(2,(aM v2))]) (λ_=>[.cells (cX v1).cells]) (cf (7,oL v1.aA dX) (cf (16,oL v1.aG iy) (cf (25,oL v1.ay gY) (cf (34,oL v1.b9 dX) (aw (λh1=>gE [(14,bT h1)] [(52,oL v1.cr kg)]) λh1=>gE [(14,bF h1)] []))))) λv2=>gR []))
def D6(N:Nat)(v1:Int):aqz Bool:=
 Option.bind (bif (decide (v1>=97))then some (decide (v1<=122))else some false) λv2=>
 some v2
theorem Wn{N v1}:KO 118 [(.d (.v (.int .i32 v1)))] aM (D6 N v1):=
 fw Tryz.func118 (gA [[]] (gG (λv2=>[(2,(aM v2))]) (λ_=>[]) (aw (λh1=>gE [(2,bT h1)] []) λh1=>gE [(2,bF h1)] []) λv2=>gR []))
def MA(N:Nat)(v1:Int):aqz Bool:=
 Option.bind (bif (decide (v1>=48))then some (decide (v1<=57))else some false) λv2=>
 some v2
theorem ahi{N v1}:KO 164 [(.d (.v (.int .i32 v1)))] aM (MA N v1):=
 fw Tryz.func164 (gA [[]] (gG (λv2=>[(2,(aM v2))]) (λ_=>[]) (aw (λh1=>gE [(2,bT h1)] []) λh1=>gE [(2,bF h1)] []) λv2=>gR []))
def JQ(N:Nat)(v1:Int):aqz Bool:=
 (D6 N v1).bind λv2=>
 Option.bind (bif v2 then some true else (MA N v1).bind λv3=>
 (bif v3 then some true else some (v1==95))) λv4=>
 some v4
theorem aeO{N v1}:KO 120 [(.d (.v (.int .i32 v1)))] aM (JQ N v1):=
 fw Tryz.func120 (gA [[]] (aq λv2 h1=>gG (λv4=>[(2,(aM v4))]) (λ_=>[]) (cf (4,cK Wn h1) (aw (λh2=>gE [(2,bT h2),(6,bT rfl)] []) λh2=>aq λv3 h3=>bU (2,bF h2) (cf (13,cK ahi h3) (aw (λh4=>gE [(6,bT h4)] []) λh4=>gE [(6,bF h4)] [])))) λv4=>gR []))
def ER(N:Nat)(v1:aqy):Nat->Int->aqz Int
 |0,_=>none
 |v2+1,v3=>
  Option.bind (bif (decide (v3<(v1.size:Int)))then bif (decide ((0:Int)<=v3))then
  Option.bind (v1[(v3).toNat]?) λv4=>
  Option.bind (JQ N (IntKind.i32.wrap (v4.toNat:Int))) λv5=>
  some v5
  else none else some false) λv6=>
  bif v6 then
   (λbq=>ER N v1 v2 bq) (bl (v3+(1:Int)))
  else
   some v3
def J8(N:Nat)(v1:aqy):aqz Int:=
 ER N v1 N (0:Int)
theorem anK{N v1}:KP 119 [(aC v1),(.fn 120 [])] [] ar (λ_=>[]) (J8 N v1):=
 fh 0 Tryz.func119 (Ly 1 [[],[]] [0,1,5] 0 (λ(v3:Int)=>⟨21,[(0,(aC v1)),(1,(.fn 120 [])),(5,(ar v3))],[]⟩) (ER N v1) (λv2 v3 f1 aB=>gG (λv6=>[(17,(aM v6))]) (λ_=>[]) (aw (λh1=>aF λh3=>aq λv4 h2=>aq λv5 h4=>gE [(4,bT h1)] [(25,⟨_,_, .ch (i:=v3) (of_decide_eq_true h3) h2⟩),(31,cK aeO h4)]) λh1=>gE [(4,bF h1)] []) λv6=>aw (λh6=>nB aB (bl (v3+(1:Int))) [[t0 h6],[]]) λh6=>gH [[f0 h6],[]]))
def SX(N:Nat):aqz (aqx aqy):=some oG
theorem aeK{N r}(J:SX N=some r):ij Tryz.prog 165 [] (·=(.d (.sl (b6 r)))):=by
 cases J;exact amD
def LU(N:Nat)(v2:aqy):aqx aqy->Nat->aqz Int
 |[],_=>
  some (-1:Int)
 |v5::v6,v3=>
  bif (bL v2==bL v5)then
   some (v3:Int)
  else
   (LU N v2 v6 (v3+1))
def MQ(N:Nat)(v1:aqx aqy)(v2:aqy):aqz Int:=
 LU N v2 v1 0
theorem ahT{N v1 v2}:KO 97 [(.d (.sl (b6 v1))),(aC v2)] ar (MQ N v1 v2):=
 fw Tryz.func97 (gA [[],[(4,oL v1 dX)]] (gT fb 0 v1 λh2=>dK 1 [] [0,1,7,8] 0 (λv3=>⟨19,[(0,(.d (.sl (b6 v1)))),(1,(aC v2)),(7,(ar (v1.length:Int))),(8,(ar (v3:Int)))],[]⟩) (λv3 h3 f1=>gR [[],[f0 (bj h3)],[]]) (λv3 v5 v6 h3 f1 aB=>gA [[],[t0 (bk h3)],[],[(10,oE (ik (aW h3)))]] (bB λh4=>gb aB () [[f0 h4],[(2,oq (bE h3 rfl h2))]] h3))))
def Br(N:Nat)(v1:aqx aqy)(v2:aqy):aqz Bool:=
 (MQ N v1 v2).bind λv3=>
 some (decide (v3>=0))
theorem abC{N v1 v2}:KO 41 [(.d (.sl (b6 v1))),(aC v2)] aM (Br N v1 v2):=
 fw Tryz.func41 (aq λv3 h1=>gR [[],[(7,cK ahT h1)]])
def Jn(N:Nat)(v1:aqy):aqz Bool:=
 (SX N).bind λv2=>
 (Br N v2 v1).bind λv3=>
 some v3
theorem aeZ{N v1}:KO 121 [(aC v1)] aM (Jn N v1):=
 fw Tryz.func121 (aq λv2 h1=>aq λv3 h2=>gR [[],[(1,cL (aeK h1)),(7,cK abC h2)]])
def pj(N:Nat)(v1:aqy):aqz Bool:=
 Option.bind (bif (bL v1==bL (bs []))then some false else(bif (decide ((v1.size:Int)<=16))then Option.bind (v1[0]?) λv2=>
 Option.bind (D6 N (IntKind.i32.wrap (v2.toNat:Int))) λv3=>
 (bif v3 then (J8 N v1).bind λv4=>
 (bif (v4==(v1.size:Int))then (Jn N v1).bind λv5=>
 some (!v5)else some false)else some false)else some false)) λv6=>
 some v6
theorem sB{N v1}:KO 72 [(aC v1)] aM (pj N v1):=
 fw Tryz.func72 (gA [[]] (gG (λv6=>[(2,(aM v6))]) (λ_=>[]) (aw (λh1=>gE [(2,bF (cb h1)),(7,bF rfl),(13,bF rfl),(20,bF rfl)] []) λh1=>bU (2,bT (cW h1)) (aw (λh2=>aq λv2 h3=>aq λv3 h4=>bU (7,bT h2) (cf (28,⟨_,_, .ch (i:=0) (by decide) h3⟩) (cf (34,cK Wn h4) (aw (λh5=>aq λv4 h6=>bU (13,bT h5) (cf (46,oQ [(aC v1),(.fn 120 [])] [] [] (anK _ h6)) (aw (λh7=>aq λv5 h8=>gE [(20,bT h7)] [(67,cK aeZ h8)]) λh7=>gE [(20,bF h7)] []))) λh5=>gE [(13,bF h5),(20,bF rfl)] [])))) λh2=>gE [(7,bF h2),(13,bF rfl),(20,bF rfl)] [])) λv6=>gR []))
def Bg(N:Nat)(v1:aqy)(v2:Int)(v3:aK)(v4:aqx (aqy×Int)):aqz (Int×(aqx (aqy×Int))):=
 (pj N v1).bind λv5=>
 bif v5 then
  bif ((eZ v4 v1 0) !=0)then
   some ((8:Int),v4)
  else
   bif (Nat.blt v4.length 9223372036854775807)then
   some ((0:Int),((v1,v2)::v4))
   else none
 else
  some ((7:Int),v4)
theorem Sm{N v1 v2 v3 v4}:KP 37 [(.ptr 0 0),(aC v1),(ar v2)] [.cells (fI v3 [(.mp 1)]), .map (e8 v4)] (λr=>ar r.1) (λr=>[.cells (fI v3 [(.mp 1)]), .map (e8 r.2)]) (Bg N v1 v2 v3 v4):=
 fh 2 Tryz.func37 (aq λv5 h1=>gA [[],[(4,cK sB h1)]] (aw (λh2=>gA [[f0 (cb h2)],[(17,⟨_,_, .eq (D7 false v4 v1)⟩)]] (aw (λh3=>gH [[t0 h3],[]]) λh3=>aF λh4=>gH [[f0 h3],[(19,⟨_,_, .sd (o:= .none) (Sb h4)⟩)],[]])) λh2=>gH [[t0 (cW h2)],[]]))
def iG(N:Nat)(v2:Bool):aqz Bool:=
 bif v2 then
  some true
 else
  some false
def MN(N:Nat)(v1:aqy):aqz Bool:=
 bif (bL v1==bL (bs [115,105,122,101]))then
  iG N (bL v1==bL (bs [115,105,122,101]))
 else
  bif (bL v1==bL (bs [119,104,101,114,101]))then
   iG N (bL v1==bL (bs [119,104,101,114,101]))
  else
   bif (bL v1==bL (bs [105,110]))then
    iG N (bL v1==bL (bs [105,110]))
   else
    bif (bL v1==bL (bs [100,101,102]))then
     iG N (bL v1==bL (bs [100,101,102]))
    else
     bif (bL v1==bL (bs [111,117,116]))then
      iG N (bL v1==bL (bs [111,117,116]))
     else
      bif (bL v1==bL (bs [115,117,109]))then
       iG N (bL v1==bL (bs [115,117,109]))
      else
       bif (bL v1==bL (bs [112,114,111,100]))then
        iG N (bL v1==bL (bs [112,114,111,100]))
       else
        bif (bL v1==bL (bs [109,105,110]))then
         iG N (bL v1==bL (bs [109,105,110]))
        else
         bif (bL v1==bL (bs [109,97,120]))then
          iG N (bL v1==bL (bs [109,97,120]))
         else
          bif (bL v1==bL (bs [115,99,97,110]))then
           iG N (bL v1==bL (bs [115,99,97,110]))
          else
           bif (bL v1==bL (bs [111,118,101,114]))then
            iG N (bL v1==bL (bs [111,118,101,114]))
           else
            bif (bL v1==bL (bs [105,102]))then
             iG N (bL v1==bL (bs [105,102]))
            else
             bif (bL v1==bL (bs [99,97,115,116]))then
              iG N (bL v1==bL (bs [99,97,115,116]))
             else
              bif (bL v1==bL (bs [102,114,97,99]))then
               iG N (bL v1==bL (bs [102,114,97,99]))
              else
               bif (bL v1==bL (bs [105,110,116]))then
                iG N (bL v1==bL (bs [105,110,116]))
               else
                bif (bL v1==bL (bs [102,105,120]))then
                 iG N (bL v1==bL (bs [102,105,120]))
                else
                 bif (bL v1==bL (bs [99,101,105,108]))then
                  iG N (bL v1==bL (bs [99,101,105,108]))
                 else
                  bif (bL v1==bL (bs [102,108,111,111,114]))then
                   iG N (bL v1==bL (bs [102,108,111,111,114]))
                  else
                   bif (bL v1==bL (bs [122,101,114,111]))then
                    iG N (bL v1==bL (bs [122,101,114,111]))
                   else
                    bif (bL v1==bL (bs [101,118,101,110]))then
                     iG N (bL v1==bL (bs [101,118,101,110]))
                    else
                     bif (bL v1==bL (bs [115,97,116]))then
                      iG N (bL v1==bL (bs [115,97,116]))
                     else
                      iG N (bL v1==bL (bs [119,114,97,112]))
theorem amS{N v1}:KO 193 [(aC v1)] aM (MN N v1):=
 fw Tryz.func193 (eB 1 [[],[],[]] [4] 0 (λ(v2:Bool)=>⟨27,[(4,(aM v2))],[]⟩) (iG N) (λf1 aB=>aw (λh2=>gm aB (bL v1==bL (bs [115,105,122,101])) [[t0 h2]]) λh2=>gA [[f0 h2],[]] (aw (λh3=>gm aB (bL v1==bL (bs [119,104,101,114,101])) [[t0 h3]]) λh3=>gA [[f0 h3],[]] (aw (λh4=>gm aB (bL v1==bL (bs [105,110])) [[t0 h4]]) λh4=>gA [[f0 h4],[]] (aw (λh5=>gm aB (bL v1==bL (bs [100,101,102])) [[t0 h5]]) λh5=>gA [[f0 h5],[]] (aw (λh6=>gm aB (bL v1==bL (bs [111,117,116])) [[t0 h6]]) λh6=>gA [[f0 h6],[]] (aw (λh7=>gm aB (bL v1==bL (bs [115,117,109])) [[t0 h7]]) λh7=>gA [[f0 h7],[]] (aw (λh8=>gm aB (bL v1==bL (bs [112,114,111,100])) [[t0 h8]]) λh8=>gA [[f0 h8],[]] (aw (λh9=>gm aB (bL v1==bL (bs [109,105,110])) [[t0 h9]]) λh9=>gA [[f0 h9],[]] (aw (λaU=>gm aB (bL v1==bL (bs [109,97,120])) [[t0 aU]]) λaU=>gA [[f0 aU],[]] (aw (λbh=>gm aB (bL v1==bL (bs [115,99,97,110])) [[t0 bh]]) λbh=>gA [[f0 bh],[]] (aw (λbn=>gm aB (bL v1==bL (bs [111,118,101,114])) [[t0 bn]]) λbn=>gA [[f0 bn],[]] (aw (λb5=>gm aB (bL v1==bL (bs [105,102])) [[t0 b5]]) λb5=>gA [[f0 b5],[]] (aw (λbZ=>gm aB (bL v1==bL (bs [99,97,115,116])) [[t0 bZ]]) λbZ=>gA [[f0 bZ],[]] (aw (λbK=>gm aB (bL v1==bL (bs [102,114,97,99])) [[t0 bK]]) λbK=>gA [[f0 bK],[]] (aw (λbV=>gm aB (bL v1==bL (bs [105,110,116])) [[t0 bV]]) λbV=>gA [[f0 bV],[]] (aw (λcA=>gm aB (bL v1==bL (bs [102,105,120])) [[t0 cA]]) λcA=>gA [[f0 cA],[]] (aw (λdv=>gm aB (bL v1==bL (bs [99,101,105,108])) [[t0 dv]]) λdv=>gA [[f0 dv],[]] (aw (λeu=>gm aB (bL v1==bL (bs [102,108,111,111,114])) [[t0 eu]]) λeu=>gA [[f0 eu],[]] (aw (λcH=>gm aB (bL v1==bL (bs [122,101,114,111])) [[t0 cH]]) λcH=>gA [[f0 cH],[]] (aw (λdN=>gm aB (bL v1==bL (bs [101,118,101,110])) [[t0 dN]]) λdN=>gA [[f0 dN],[]] (aw (λfe=>gm aB (bL v1==bL (bs [115,97,116])) [[t0 fe]]) λfe=>gm aB (bL v1==bL (bs [119,114,97,112])) [[f0 fe],[]]))))))))))))))))))))) (λv2=>bB λh1=>gR [[f0 h1],[]]))
def BC(N:Nat)(v1:aqy):Nat->Int->aqz Bool
 |0,_=>none
 |v5+1,v6=>
  bif (decide (v6<(v1.size:Int)))then
   bif (decide ((0:Int)<=v6))then
   Option.bind (v1[(v6).toNat]?) λv7=>
   Option.bind (bif (decide ((v7.toNat:Int)<97))then(bif (decide ((v7.toNat:Int)<48))then some ((v7.toNat:Int) !=95)else(bif (decide ((v7.toNat:Int)>57))then some ((v7.toNat:Int) !=95)else some false))else(bif (decide ((v7.toNat:Int)>122))then(bif (decide ((v7.toNat:Int)<48))then some ((v7.toNat:Int) !=95)else(bif (decide ((v7.toNat:Int)>57))then some ((v7.toNat:Int) !=95)else some false))else some false)) λv8=>
   bif v8 then
    some false
   else
    (λbq=>BC N v1 v5 bq) (bl (v6+(1:Int)))
   else none
  else
   some true
def Hb(N:Nat)(v1:aqy):aqz Bool:=
 Option.bind (bif (decide ((v1.size:Int)<1))then some true else(bif (decide ((v1.size:Int)>16))then some true else (MN N v1).bind λv2=>
 (bif v2 then some true else Option.bind (v1[0]?) λv3=>
 (bif (decide ((v3.toNat:Int)<97))then some true else some (decide ((v3.toNat:Int)>122)))))) λv4=>
 bif v4 then
  some false
 else
  BC N v1 N (0:Int)
theorem aj1{N v1}:KO 158 [(aC v1)] aM (Hb N v1):=
 fw Tryz.func158 (gA [[]] (gG (λv4=>[(26,(aM v4))]) (λ_=>[]) (aw (λh1=>gE [(3,bT h1),(8,bT rfl),(12,bT rfl),(17,bT rfl)] []) λh1=>bU (3,bF h1) (aw (λh2=>gE [(8,bT h2),(12,bT rfl),(17,bT rfl)] []) λh2=>aq λv2 h3=>bU (8,bF h2) (cf (31,cK amS h3) (aw (λh4=>gE [(12,bT h4),(17,bT rfl)] []) λh4=>aq λv3 h5=>bU (12,bF h4) (cf (43,⟨_,_, .ch (i:=0) (by decide) h5⟩) (aw (λh6=>gE [(17,bT h6)] []) λh6=>gE [(17,bF h6)] [(58,⟨_,_, .ch (i:=0) (by decide) h5⟩)])))))) λv4=>bB λh8=>Ly 1 [[f0 h8],[]] [0,28,29] 0 (λ(v6:Int)=>⟨54,[(0,(aC v1)),(28,(ar (v1.size:Int))),(29,(ar v6))],[]⟩) (BC N v1) (λv5 v6 f1 aB=>gA [[]] (lT λh9=>aF λbh=>aq λv7 aU=>gA [[t0 h9],[],[(7,⟨_,_, .ch (i:=v6) (of_decide_eq_true bh) aU⟩)]] (gG (λv8=>[(52,(aM v8))]) (λ_=>[]) (aw (λbn=>bU (2,bT bn) (bU (6,bT rfl) (aw (λb5=>gE [(9,bT b5),(14,bT rfl)] [(37,bT b5)]) λb5=>bU (9,bF b5) (cf (37,bF b5) (aw (λbZ=>gE [(14,bT bZ)] []) λbZ=>gE [(14,bF bZ)] []))))) λbn=>bU (2,bF bn) (aw (λbK=>bU (6,bT bK) (aw (λbV=>gE [(9,bT bV),(14,bT rfl)] [(37,bT bV)]) λbV=>bU (9,bF bV) (cf (37,bF bV) (aw (λcA=>gE [(14,bT cA)] []) λcA=>gE [(14,bF cA)] [])))) λbK=>gE [(6,bF bK),(9,uN),(14,bF rfl)] [])) λv8=>bB λeu=>nB aB (bl (v6+(1:Int))) [[f0 eu],[]])))))
def KL(N:Nat)(v1:aR):aqx bt->Nat->aqz Int
 |[],_=>
  some (0:Int)
 |v4::v5,v2=>
  (Hb N v4.ao).bind λv6=>
  Option.bind (bif v6 then(bif (v4.cN.toInt==0)then some true else(bif (decide ((v2:Int)>0))then bif (decide ((0:Int)<=(bl ((v2:Int)-(1:Int)))))then
  Option.bind (v1.xL[((bl ((v2:Int)-(1:Int)))).toNat]?) λv7=>
  some (!(Op.bytesLess (bL v7.ao) (bL v4.ao)))
  else none else some false))else some true) λv8=>
  bif v8 then
   some (1:Int)
  else
   (KL N v1 v5 (v2+1))
def qX(N:Nat)(v1:aR):aqz Int:=
 KL N v1 v1.xL 0
theorem xS{N v1}:KO 115 [(cE v1)] ar (qX N v1):=
 fw Tryz.func115 (gA [[],[(7,oL v1.xL eK)]] (gT lI 6 v1.xL λh2=>dK 1 [] [1,6,7,8] 1 (λv2=>⟨39,[(1,(.ptr 0 0)),(6,(.d (.sl (dh v1.xL)))),(7,(ar (v1.xL.length:Int))),(8,(ar (v2:Int)))],[.cells (cE v1).cells]⟩) (λv2 h3 f1=>gR [[],[f0 (bj h3)],[]]) (λv2 v4 v5 h3 f1 aB=>gA [[],[t0 (bk h3)],[(4,oE (j7 (aW h3)))]] (aq λv6 h4=>gG (λv8=>[(37,(aM v8))]) (λ_=>[.cells (cE v1).cells, .cells (yt v4).cells]) (cf (7,cK aj1 h4) (aw (λh5=>bU (4,bF (cb h5)) (aw (λh6=>gE [(9,bT h6),(12,uN)] []) λh6=>bU (9,bF h6) (aw (λh7=>aF λh9=>aq λv7 h8=>gE [(12,bT h7)] [(52,⟨_,_, .el (xs:=dh v1.xL) (i:=(bl ((v2:Int)-(1:Int)))) (of_decide_eq_true h9) (j7 h8)⟩),(70,bT h7)]) λh7=>gE [(12,bF h7)] [(70,bF h7)]))) λh5=>gE [(4,bT (cW h5)),(9,bT rfl),(12,uN)] [])) λv8=>bB λbh=>gb aB () [[f0 bh],[(2,oq (bE h3 rfl h2))]] h3))))
def te(N:Nat)(v1:c8):aqz Int:=
 (qX N v1.aS).bind λv2=>
 some v2
theorem RI{N v1}:KO 69 [(mP v1)] ar (te N v1):=
 fw Tryz.func69 (aq λv2 h1=>gR [[],[(7,cK xS h1)]])
def KC(N:Nat)(v3:aqx (aqy×Int)):aqx bt->Nat->aqz Int
 |[],_=>
  some (0:Int)
 |v7::v8,v5=>
  bif ((eZ v3 v7.ao 0) !=1)then
   some (9:Int)
  else
   (KC N v3 v8 (v5+1))
def Bf(N:Nat)(v1:aR)(v2:aK)(v3:aqx (aqy×Int)):aqz Int:=
 (qX N v1).bind λv4=>
 bif (v4 !=0)then
  some (1:Int)
 else
  KC N v3 v1.xL 0
theorem R5{N v1 v2 v3}:KP 92 [(.ptr 0 0),(cE v1)] [.cells (fI v2 [(.mp 1)]), .map (e8 v3)] ar (λ_=>[.cells (fI v2 [(.mp 1)]), .map (e8 v3)]) (Bf N v1 v2 v3):=
 fh 2 Tryz.func92 (aq λv4 h1=>gA [[],[(4,cK xS h1)]] (aw (λh2=>gH [[t0 h2],[]]) λh2=>gA [[f0 h2],[(7,oL v1.xL eK)]] (gT lI 11 v1.xL λh4=>dK 1 [] [0,11,12,13] 3 (λv5=>⟨26,[(0,(.ptr 0 0)),(11,(.d (.sl (dh v1.xL)))),(12,(ar (v1.xL.length:Int))),(13,(ar (v5:Int)))],[.cells (fI v2 [(.mp 1)]), .map (e8 v3), .cells (cE v1).cells]⟩) (λv5 h5 f1=>gH [[],[f0 (bj h5)],[]]) (λv5 v7 v8 h5 f1 aB=>gA [[],[t0 (bk h5)],[(1,oE (j7 (aW h5)))],[(20,⟨_,_, .eq (D7 false v3 v7.ao)⟩)]] (aw (λh6=>gH [[t0 h6],[]]) λh6=>gb aB () [[f0 h6],[(2,oq (bE h5 rfl h4))]] h5)))))
def Lc(N:Nat)(v1:c8)(v2:aK)(v3:aqx (aqy×Int)):aqz Int:=
 (te N v1).bind λv4=>
 bif (v4 !=0)then
  some (1:Int)
 else
  (Bf N v1.aS v2 v3).bind λv5=>
  some v5
theorem agS{N v1 v2 v3}:KP 38 [(.ptr 0 0),(mP v1)] [.cells (fI v2 [(.mp 1)]), .map (e8 v3)] ar (λ_=>[.cells (fI v2 [(.mp 1)]), .map (e8 v3)]) (Lc N v1 v2 v3):=
 fh 2 Tryz.func38 (aq λv4 h1=>gA [[],[(4,cK RI h1)]] (aw (λh2=>gH [[t0 h2],[]]) λh2=>aq λv5 h3=>gH [[f0 h2],[(10,oQ [(.ptr 0 0),(cE v1.aS)] [.cells (fI v2 [(.mp 1)]), .map (e8 v3), .cells (mP v1).cells] [0,1] (R5 _ h3))]]))
def Rf(N:Nat)(v1:bA):aqz Bool:=
 some ((v1.b7==v1.b7)&&((v1.cp==0)&&((v1.cq==0)&&((v1.cU==0)&&((v1.cS==0)&&true)))))
theorem aoW{N v1}:KO 122 [(dH v1)] aM (Rf N v1):=
 fw Tryz.func122 (gR [[],[]])
def sQ(N:Nat)(v1:bA):aqz Int:=
 Option.bind (bif (decide (v1.cU>=1))then(bif (decide (v1.cU<=4))then(bif (v1.cS==1)then some true else some (v1.cS==2))else some false)else some false) λv2=>
 Option.bind (bif (v1.b7 !=2)then some true else(bif (decide (v1.cp<2))then some true else(bif (decide (v1.cp>31))then some true else(bif (decide (v1.cq<0))then some true else(bif (decide (v1.cq>30))then some true else some (!v2)))))) λv3=>
 bif v3 then
  some (10:Int)
 else
  some (0:Int)
theorem SJ{N v1}:KO 123 [(dH v1)] ar (sQ N v1):=
 fw Tryz.func123 (gA [[]] (gG (λv2=>[(3,(aM v2))]) (λ_=>[.cells (dH v1).cells]) (aw (λh1=>bU (3,bT h1) (aw (λh2=>bU (8,bT h2) (aw (λh3=>gE [(12,bT h3)] [(49,bT h3)]) λh3=>gE [(12,bF h3)] [(49,bF h3)])) λh2=>gE [(8,bF h2),(12,uN)] [])) λh1=>gE [(3,bF h1),(8,bF rfl),(12,uN)] []) λv2=>gG (λv3=>[(48,(aM v3))]) (λ_=>[.cells (dH v1).cells]) (aw (λh5=>gE [(3,bT h5),(8,bT rfl),(13,bT rfl),(18,bT rfl),(23,bT rfl)] []) λh5=>bU (3,bF h5) (aw (λh6=>gE [(8,bT h6),(13,bT rfl),(18,bT rfl),(23,bT rfl)] []) λh6=>bU (8,bF h6) (aw (λh7=>gE [(13,bT h7),(18,bT rfl),(23,bT rfl)] []) λh7=>bU (13,bF h7) (aw (λh8=>gE [(18,bT h8),(23,bT rfl)] []) λh8=>bU (18,bF h8) (aw (λh9=>gE [(23,bT h9)] []) λh9=>gE [(23,bF h9)] []))))) λv3=>bB λbh=>gR [[f0 bh],[]]))
def DK(N:Nat)(v1:bA)(v2:Bool):aqz Int:=
 bif v2 then
  (Rf N v1).bind λv3=>
  bif v3 then
   some (0:Int)
  else
   some (10:Int)
 else
  bif (v1.b7==2)then
   (sQ N v1).bind λv4=>
   bif (v4==0)then
    some (0:Int)
   else
    some (10:Int)
  else
   some (10:Int)
def qa(N:Nat)(v1:bA):aqz Int:=
 bif (v1.b7==1)then
  DK N v1 (v1.b7==1)
 else
  DK N v1 (v1.b7==3)
theorem xB{N v1}:KO 73 [(dH v1)] ar (qa N v1):=
 fw Tryz.func73 (eB 1 [[],[],[]] [1,4,5] 1 (λ(v2:Bool)=>⟨15,[(1,(.ptr 0 0)),(4,(ar v1.b7)),(5,(aM v2))],[.cells (dH v1).cells]⟩) (DK N v1) (λf1 aB=>aw (λh7=>gm aB (v1.b7==1) [[t0 h7]]) λh7=>gm aB (v1.b7==3) [[f0 h7],[]]) (λv2=>aw (λh1=>aq λv3 h2=>gA [[t0 h1],[(4,cK aoW h2)]] (bB λh3=>gR [[f0 h3],[]])) λh1=>gA [[f0 h1],[]] (lT λh4=>aq λv4 h5=>gA [[t0 h4],[(4,cK SJ h5)]] (bB λh6=>gR [[f0 h6],[]]))))
def DG(N:Nat):aqx Int->Nat->Int->aqz Int
 |[],_,v7=>
  some v7
 |v5::v6,v3,v7=>
  (λiW=>DG N v6 (v3+1) iW) (if v5>v7 then v5 else v7)
def N5(N:Nat)(v1:aqx Int):aqz Int:=
 Option.bind (v1[0]?) λv2=>
 DG N (v1.drop 1) 1 v2
def C1(N:Nat)(v1:aqx Int):aqz Int:=
 bif (decide ((v1.length:Int)<1))then
  none
 else
  N5 N v1
theorem aoF{N v1 r}(J:C1 N v1=some r):KF 140 [(.d (.sl (po v1)))] (ar r):=by
 rw[C1]at J;refine Sa Tryz.func140 ?_;refine wj0 dJ r 1 [[],[(4,oL v1 Lz)]] [0] 0 ⟨25,[(0,(.d (.sl (po v1))))],[]⟩ (N5 N v1) ?_ ?_
 ·intro f1 aB;apply bc J<;>intro h5 J
  ·cases J
  exact Mp dJ aB () [[(0,bF h5)]] J
 intro J;rw[N5]at J;obtain⟨v2,h1,J⟩:=dw J;refine wC dJ [[(4,oE (k:=0) (V3 h1))],[]] ?_;refine Fq aff 0 v1 λh3=> ?_;refine S2 dJ 2 [] [0,3,4] 0 (λ((v3,v4,v7):Nat×(aqx Int)×Int)=>⟨25,[(0,(.d (.sl (po v1)))),(3,(ar v7)),(4,(ar (v3:Int)))],[]⟩) (λ((v3,v4,v7):Nat×(aqx Int)×Int)=>v1.drop v3=v4/\DG N v4 v3 v7=some r) (λ((v3,v4,v7):Nat×(aqx Int)×Int)=>v4.length) (1,(v1.drop 1),v2) ⟨rfl,J⟩ ?_;rintro⟨v3,v4,v7⟩ ⟨h4,J⟩ f2 ca;cases v4 with
 |nil=>
  rw[DG]at J;cases J;exact wr dJ [[(7,oL v1 Lz)],[(0,bF (bj h4))],[]]
 |cons v5 v6=>
  rw[DG]at J;exact OO dJ ca (v3+1,v6,(if v5>v7 then v5 else v7)) [[(7,oL v1 Lz)],[(0,bT (bk h4))],[(10,oE (V3 (aW h4)))],[(5,oq (bE h4 rfl h3))]] ⟨tW h4,J⟩
def xu(N:Nat)(v1:bA)(v2:aqx Int):aqz Int:=
 (qa N v1).bind λv3=>
 bif (v3 !=0)then
  some (10:Int)
 else
  (C1 N v2).bind λv4=>
  bif (decide (v4>6))then
   some (11:Int)
  else
   some (0:Int)
theorem Vz{N v1 v2}:KO 93 [(dH v1),(.d (.sl (po v2)))] ar (xu N v1 v2):=
 fw Tryz.func93 (aq λv3 h1=>gA [[],[(4,cK xB h1)]] (bB λh2=>aq λv4 h3=>gA [[f0 h2],[(4,cL (aoF h3))]] (bB λh4=>gR [[f0 h4],[]])))
def HQ(N:Nat)(v4:Int×(aqx (aqy×Int)))(v2:aK):aqx aR->Nat->aqz (Int×(aqx (aqy×Int)))
 |[],_=>
  some ((0:Int),v4.2)
 |v8::v9,v6=>
  (Bf N v8 v2 v4.2).bind λv10=>
  bif (v10 !=0)then
   some (v10,v4.2)
  else
   (HQ N v4 v2 v9 (v6+1))
def J1(N:Nat)(v1:cv)(v2:aK)(v3:aqx (aqy×Int)):aqz (Int×(aqx (aqy×Int))):=
 Option.bind (Bg N v1.ao (2:Int) v2 v3) λv4=>
 bif (v4.1 !=0)then
  some (v4.1,v4.2)
 else
  Option.bind (xu N v1.aO ([(v1.aP.length:Int)])) λv5=>
  bif (v5 !=0)then
   some (v5,v4.2)
  else
   HQ N v4 v2 v1.aP 0
def A8(v2:aK)(l:aqx an):aqx an:= .cells (fI v2 [(.mp 1)])::l
theorem amY{N v1 v2 v3}:KP 39 [(.ptr 0 0),(mZ v1)] [.cells (fI v2 [(.mp 1)]), .map (e8 v3)] (λr=>ar r.1) (λr=>[.cells (fI v2 [(.mp 1)]), .map (e8 r.2)]) (J1 N v1 v2 v3):=
 fh 2 Tryz.func39 (aq λv4 h1=>gA [[],[(10,oR [(.ptr 0 0),(aC v1.ao),(ar (2:Int))] (A8 v2 [.map (e8 v3), .cells (mZ v1).cells]) [0,1] (Sm _ h1))],[]] (aw (λh2=>gH [[t0 h2],[]]) λh2=>aq λv5 h3=>gA [[f0 h2],[(13,oL v1.aP dT),(19,cK Vz h3)],[]] (aw (λh4=>gH [[t0 h4],[]]) λh4=>gA [[f0 h4],[(7,oL v1.aP dT)]] (gT lh 28 v1.aP λh6=>dK 1 [] [0,28,29,30] 3 (λv6=>⟨41,[(0,(.ptr 0 0)),(28,(.d (.sl (c6 v1.aP)))),(29,(ar (v1.aP.length:Int))),(30,(ar (v6:Int)))],(A8 v2 [.map (e8 v4.2), .cells (mZ v1).cells])⟩) (λv6 h7 f1=>gH [[],[f0 (bj h7)],[]]) (λv6 v8 v9 h7 f1 aB=>aq λv10 h8=>gA [[],[t0 (bk h7)],[(1,oE (k9 (aW h7)))],[(7,oQ [(.ptr 0 0),(cE v8)] (A8 v2 [.map (e8 v4.2), .cells (mZ v1).cells, .cells (cE v8).cells]) [0,1] (R5 _ h8))],[]] (aw (λh9=>gH [[t0 h9],[]]) λh9=>gb aB () [[f0 h9],[(2,oq (bE h7 rfl h6))]] h7))))))
def Nh(N:Nat)(v1:Int):aqz Unit:=bif decide ((0:Int)<=v1)&&Nat.ble (v1.toNat*48) 140737488355328 then some ()else none
theorem alA{N v1 r}(J:Nh N v1=some r):cF Tryz.prog 153 [.d (.v (.slice none 0 0)),(ar v1)] [] λr1 h1=>r1= .own 0 []/\h1=[.front 72 3 0]:=by
 obtain⟨hb,_⟩:=eH J;rw[apL]at hb;have e:Int.ofNat v1.toNat=v1:=Int.toNat_of_nonneg (of_decide_eq_true hb.1);have h:=anr hb.2;rw[e]at h;exact h
def yc(N:Nat):aqx (aqx cd)->Nat->(aqx cd)->aqz ((aqx cd))
 |[],_,v12=>
  some v12
 |v10::v11,v8,v12=>
  bif (Nat.ble ((v12.length+v10.length)*48) 140737488355328)then
  (λiW=>yc N v11 (v8+1) iW) (v12++v10)
  else none
def vl(N:Nat)(v1:aqx (aqx cd)):aqx (aqx cd)->Nat->Int->aqz ((aqx cd))
 |[],_,v6=>
  (Nh N v6).bind λv7=>
  yc N v1 0 []
 |v4::v5,v2,v6=>
  bif (decide ((bl (v6+(v4.length:Int)))<0))then
   none
  else
   (λbq=>vl N v1 v5 (v2+1) bq) (bl (v6+(v4.length:Int)))
def Aa(N:Nat)(v1:aqx (aqx cd)):aqz ((aqx cd)):=
 vl N v1 v1 0 (0:Int)
theorem acd{N v1 r}(J:Aa N v1=some r):KF 104 [(.d (.sl (pC v1)))] (.d (.sl (du r))):=by
 rw[Aa]at J;refine Sa Tryz.func104 ?_;refine wC dJ [[],[],[(4,oL v1 QP)]] ?_;refine Fq ZB 0 v1 λh2=> ?_;refine K7 dJ 1 [] [0,3,9,10,11] 0 v1 (λv2(v6:Int)=>⟨36,[(0,(.d (.sl (pC v1)))),(3,(ar v6)),(9,(.d (.sl (pC v1)))),(10,(ar (v1.length:Int))),(11,(ar (v2:Int)))],[]⟩) (vl N v1) (0:Int) J ?_ ?_
 ·intro v2 v6 h3 J f1;rw[vl]at J;obtain⟨v7,h4,J⟩:=dw J;refine wC dJ [[],[(0,bF (bj h3))],[(4,⟨_,_, .jw (alA h4)⟩)],[(4,oL v1 QP)]] ?_;refine Fq ZB 0 v1 λh6=> ?_;refine K7 dJ 2 [] [6,25,26,27] 1 v1 (λv8(v12:aqx cd)=>⟨36,[(6,(.own 0 (du v12))),(25,(.d (.sl (pC v1)))),(26,(ar (v1.length:Int))),(27,(ar (v8:Int)))],[.front 72 3 v12.length]⟩) (yc N) [] J ?_ ?_
  ·intro v8 v12 h7 J f2;rw[yc]at J;cases J;exact wr dJ [[],[(0,bF (bj h7))],[]]
  intro v8 v10 v11 v12 h7 J f2 ca;rw[yc]at J;obtain⟨h8,J⟩:=rY J;exact wb dJ ca (v12++v10) [[],[(0,bT (bk h7))],[(1,oE (UO (aW h7)))],[(7,oA kW v12 v10 h8)],[(2,oq (bE h7 rfl h6))]] h7 J
 intro v2 v4 v5 v6 h3 J f1 aB;rw[vl]at J;refine wC dJ [[],[(0,bT (bk h3))],[(1,oE (UO (aW h3)))],[(7,oL v4 dB)],[]] ?_;apply bc J<;>intro h9 J
 ·cases J
 exact wb dJ aB (bl (v6+(v4.length:Int))) [[(0,bF h9)],[(2,oq (bE h3 rfl h2))]] h3 J
def IU(N:Nat)(v3:aqx (aqy×Int))(v2:aK):aqx cd->Nat->(aqx (aqy×Bool))->aqz Int
 |[],_,_=>
  some (0:Int)
 |v7::v8,v5,v9=>
  (pj N v7.ao).bind λv10=>
  bif v10 then
   Option.bind (bif (eZ v9 v7.ao false)then some true else some ((eZ v3 v7.ao 0)==1)) λv11=>
   bif v11 then
    some (8:Int)
   else
    bif (Nat.blt v9.length 9223372036854775807)then
    (Bf N v7.cw v2 v3).bind λv12=>
    bif (v12 !=0)then
     some v12
    else
     (λbq=>IU N v3 v2 v8 (v5+1) bq) ((v7.ao,true)::v9)
    else none
  else
   some (7:Int)
def Jc(N:Nat)(v1:bf)(v2:aK)(v3:aqx (aqy×Int)):aqz Int:=
 Option.bind (Aa N ([v1.aP,v1.aY])) λv4=>
 IU N v3 v2 v4 0 []
def tR(v2:aK)(v3:aqx (aqy×Int))(v1:bf)(l:aqx an):aqx an:= .cells (fI v2 [(.mp 1)]):: .map (e8 v3):: .cells (ep v1).cells::l
theorem ao5{N v1 v2 v3}:KP 94 [(.ptr 0 0),(ep v1)] [.cells (fI v2 [(.mp 1)]), .map (e8 v3)] ar (λ_=>[.cells (fI v2 [(.mp 1)]), .map (e8 v3)]) (Jc N v1 v2 v3):=
 fh 2 Tryz.func94 (aq λv4 h1=>gA [[],[],[(16,cL (acd h1)),(19,oL v4 dB)]] (gT kW 15 v4 λh3=>eM 1 [] [0,5,15,16,17] 4 (λv5(v9:aqx (aqy×Bool))=>⟨52,[(0,(.ptr 0 0)),(5,(.mp 3)),(15,(.d (.sl (du v4)))),(16,(ar (v4.length:Int))),(17,(ar (v5:Int)))],(tR v2 v3 v1 [.map (BO v9)])⟩) (λv5 v9 h4 f1=>gH [[],[f0 (bj h4)],[]]) (λv5 v7 v8 v9 h4 f1 aB=>aq λv10 h5=>gA [[],[t0 (bk h4)],[(1,oE (iE (aW h4)))],[(7,cK sB h5)]] (aw (λh6=>gA [[f0 (cb h6)]] (gG (λv11=>[(26,(aM v11))]) (λ_=>(tR v2 v3 v1 [.map (BO v9), .cells (zV v7).cells])) (cf (11,⟨_,_, .eq (ac2 false v9 v7.ao)⟩) (aw (λh7=>gE [(4,bT h7)] []) λh7=>gE [(4,bF h7)] [(35,⟨_,_, .eq (D7 false v3 v7.ao)⟩)])) λv11=>aw (λh9=>gH [[t0 h9],[]]) λh9=>aF λaU=>aq λv12 bh=>gA [[f0 h9],[(10,⟨_,_, .sd (o:= .none) (ak8 aU)⟩)],[(10,oQ [(.ptr 0 0),(cE v7.cw)] (tR v2 v3 v1 [.map (BO ((v7.ao,true)::v9)), .cells (zV v7).cells]) [0,1] (R5 _ bh))],[]] (aw (λbn=>gH [[t0 bn],[]]) λbn=>gb aB ((v7.ao,true)::v9) [[f0 bn],[(2,oq (bE h4 rfl h3))]] h4))) λh6=>gH [[t0 (cW h6)],[]]))))
def Bw(N:Nat)(v1:bf)(v2:Bool):aqz Int:=
 bif v2 then
  bif ((v1.aY.length:Int)==0)then
   some (11:Int)
  else
   some (0:Int)
 else
  bif (v1.cC==5)then
   Option.bind (bif (decide ((v1.aY.length:Int)>0))then some true else some ((v1.aP.length:Int)==0)) λv3=>
   bif v3 then
    some (11:Int)
   else
    some (0:Int)
  else
   some (1:Int)
def MB(N:Nat)(v1:bf):aqz Int:=
 bif (v1.cC==0)then
  bif (decide ((v1.aY.length:Int)>0))then
   some (11:Int)
  else
   some (0:Int)
 else
  bif (v1.cC==1)then
   Bw N v1 (v1.cC==1)
  else
   bif (v1.cC==2)then
    Bw N v1 (v1.cC==2)
   else
    bif (v1.cC==3)then
     Bw N v1 (v1.cC==3)
    else
     Bw N v1 (v1.cC==4)
theorem al1{N v1}:KO 95 [(ep v1)] ar (MB N v1):=
 fw Tryz.func95 (gA [[],[],[]] (aw (λh1=>gA [[t0 h1],[(7,oL v1.aY dB)]] (bB λh2=>gR [[f0 h2],[]])) λh1=>eB 1 [[f0 h1],[]] [1,4,11] 1 (λ(v2:Bool)=>⟨32,[(1,(.ptr 0 0)),(4,(ar v1.cC)),(11,(aM v2))],[.cells (ep v1).cells]⟩) (Bw N v1) (λf1 aB=>aw (λh9=>gm aB (v1.cC==1) [[t0 h9]]) λh9=>gA [[f0 h9],[]] (aw (λaU=>gm aB (v1.cC==2) [[t0 aU]]) λaU=>gA [[f0 aU],[]] (aw (λbh=>gm aB (v1.cC==3) [[t0 bh]]) λbh=>gm aB (v1.cC==4) [[f0 bh],[]]))) (λv2=>aw (λh3=>gA [[t0 h3],[(7,oL v1.aY dB)]] (bB λh4=>gR [[f0 h4],[]])) λh3=>gA [[f0 h3],[]] (lT λh5=>gA [[t0 h5]] (gG (λv3=>[(31,(aM v3))]) (λ_=>[.cells (ep v1).cells]) (cf (7,oL v1.aY dB) (aw (λh6=>gE [(4,bT h6)] []) λh6=>gE [(4,bF h6)] [(22,oL v1.aP dB)])) λv3=>bB λh8=>gR [[f0 h8],[]])))))
def B7(N:Nat):aqx cd->Nat->(aqx aqy)->aqz ((aqx aqy))
 |[],_,v7=>
  some v7
 |v5::v6,v3,v7=>
  bif (Nat.ble ((v7.length+1)*16) 140737488355328)then
  (λbq=>B7 N v6 (v3+1) bq) (v7++[v5.ao])
  else none
def Gm(N:Nat)(v1:bf):aqz ((aqx aqy)):=
 Option.bind (Aa N ([v1.aP,v1.aY])) λv2=>
 B7 N v2 0 []
theorem UL{N v1}:KO 55 [(ep v1)] (λr=> .d (.sl (b6 r))) (Gm N v1):=
 fw Tryz.func55 (aq λv2 h1=>gA [[],[],[(16,cL (acd h1)),(19,oL v2 dB)]] (li (λ_=>(l8 3 9 1 [] (.inr (by kernel_rfl)) ·)) (gT kW 11 v2 λh3=>eM 1 [] [3,11,12,13] 2 (λv3(v7:aqx aqy)=>⟨24,[(3,(.own 1 (b6 v7))),(11,(.d (.sl (du v2)))),(12,(ar (v2.length:Int))),(13,(ar (v3:Int)))],[.cells (ep v1).cells, .front 9 1 v7.length]⟩) (λv3 v7 h4 f1=>gR [[],[f0 (bj h4)],[]]) (λv3 v5 v6 v7 h4 f1 aB=>aF λh5=>gb aB (v7++[v5.ao]) [[],[t0 (bk h4)],[(1,oE (iE (aW h4)))],[(13,oA fb v7 ([v5.ao]) h5)],[(2,oq (bE h4 rfl h3))]] h4))))
def I4(N:Nat)(ab0:au->Int->aqz Int)(v2:Int):aqx au->Nat->Int->aqz Int
 |[],_,v7=>
  some v7
 |v5::v6,v3,v7=>
  Option.bind (ab0 v5 (bl (v2-(1:Int)))) λv8=>
  (λbq=>I4 N ab0 v2 v6 (v3+1) bq) (if(bl ((1:Int)+v8))>v7 then(bl ((1:Int)+v8))else v7)
def rU(N:Nat):Nat->au->Int->aqz Int
 |0,_,_=>none
 |d+1,v1,v2=>
  bif (decide (v2<=1))then
   some v2
  else
   I4 N (rU N d) v2 v1.bp 0 (1:Int)
def Q0(N:Nat)(v1:au)(v2:Int):aqz Int:=rU N N v1 v2
theorem ah9(N:Nat):∀d:Nat,(∀{v1:au}{v2:Int},KO 196 [(aN v1),(ar v2)] ar (rU N d v1 v2)):=by
 intro d
 induction d with
 |zero=>intro v1 v2 r J;rw[rU]at J;cases J
 |succ d ih=>
  have aiE:= @ih;intro v1 v2;rw[rU];exact fw Tryz.func196 (gA [[],[]] (bB λh1=>gA [[(0,bF h1)],[],[(7,oL v1.bp gq)]] (gT lK 12 v1.bp λh3=>eM 1 [] [1,5,12,13,14] 1 (λv3(v7:Int)=>⟨27,[(1,(ar v2)),(5,(ar v7)),(12,(.d (.sl (dW v1.bp)))),(13,(ar (v1.bp.length:Int))),(14,(ar (v3:Int)))],[.cells (aN v1).cells]⟩) (λv3 v7 h4 f1=>gR [[],[(0,bF (bj h4))],[]]) (λv3 v5 v6 v7 h4 f1 aB=>aq λv8 h5=>gb aB (if(bl ((1:Int)+v8))>v7 then(bl ((1:Int)+v8))else v7) [[],[(0,bT (bk h4))],[(1,oE (fX (aW h4)))],[(13,cK aiE h5)],[(2,oq (bE h4 rfl h3))]] h4))))
theorem af0{N v1 v2}:KO 196 [(aN v1),(ar v2)] ar (Q0 N v1 v2):=(ah9 N N)
def Pm(N:Nat)(v1:au):aqz Int:=
 Option.bind (Q0 N v1 (41:Int)) λv2=>
 some v2
theorem ac5{N v1}:KO 166 [(aN v1)] ar (Pm N v1):=
 fw Tryz.func166 (aq λv2 h1=>gR [[],[(4,cK af0 h1)]])
def Jh(N:Nat)(v1:au):aqz au:=some v1
theorem X3{N v1 r}(J:Jh N v1=some r):ij Tryz.prog 168 [(aN v1)] (·=(.fn 197 [(.bJ [e7 r] 0 0)])):=by
 cases J;exact aiY v1
def vR(N:Nat):aqx au->Int->aqz Int
 |[],v3=>
  some v3
 |_::v5,v3=>
  bif (decide ((bl (v3+(1:Int)))>2000))then
   some (bl (v3+(1:Int)))
  else
   (λbq=>vR N v5 bq) (bl (v3+(1:Int)))
def Dq(N:Nat)(v1:au):aqz Int:=
 (Jh N v1).bind λv2=>
 vR N (cM v2) (0:Int)
def qQ(v1:au)(v3:Int)(l:aqx an):aqx an:= .cells (aN v1).cells:: .cells [(ar (bl (v3+(1:Int))))]::l
def DA(v1:au)(v3:Int)(l:aqx an):aqx an:= .cells (aN v1).cells:: .cells [(ar v3)]::l
def Tp(v1:au)(l:aqx an):aqx an:= .cells (aN v1).cells:: .cells [(ar (0:Int))]::l
theorem aen{N v1 r}(J:Dq N v1=some r):KF 167 [(aN v1)] (ar r):=by
 rw[Dq]at J;refine Ca Tryz.func167 rfl (by kernel_rfl) ?_;refine mJ [0] 0 (apU _) (s':=⟨12,[(0,(aN v1))],[]⟩) (by kernel_rfl) ?_;refine bW ?_;refine rg [] [(1,(.ptr 0 0))] [.cells (aN v1).cells] (by kernel_rfl) ?_;refine bW ?_;refine rg [] [(3,(.ptr 1 0))] (Tp v1 []) (by kernel_rfl) ?_;refine bW ?_;refine bW ?_;obtain⟨v2,h1,J⟩:=dw J;refine rg [(4,cL (X3 h1))] [(5,(.fn 197 [(.bJ [e7 v2] 0 0)]))] (Tp v1 []) (by kernel_rfl) ?_;refine ky ?_;refine mJ [3,5] 2 (apR rfl) (s':=⟨12,[(3,(.ptr 1 0)),(5,(.fn 197 [(.bJ [e7 v2] 0 0)]))],(Tp v1 [])⟩) (by kernel_rfl) ?_;refine SE (m:=2) (enc:=aN) (xs:=(cM v2)) (by kernel_rfl) (WT v2) (λ(v3:Int)=>(DA v1 v3 [])) (λ(v3:Int) l=>vR N l v3=some r) (0:Int) (by kernel_rfl) J (by rintro v3;rfl) (by rintro v3;kernel_rfl) (by kernel_rfl) rfl ?_ ?_
 ·rintro v3 v4 v5 J h2 kC j9
  try dsimp only at J
  rw[vR]at J;refine mJ [3] 3 (apU _) (s':=⟨12,[(3,(.ptr 1 0))],(DA v1 v3 [.lp .ready 6 kC j9 (eI 12 [(3,(.ptr 1 0)),(5,(.fn 197 [(.bJ [e7 v2] 0 0)]))])])⟩) (by kernel_rfl) ?_;refine jn ?_;refine dL ?_;refine⟨(DA v1 v3 []),[],rfl,(by kernel_rfl),?_⟩;refine mJ [3] 3 (apR rfl) (s':=⟨12,[(3,(.ptr 1 0))],(DA v1 v3 [.lp .busy 6 kC j9 (eI 12 [(3,(.ptr 1 0)),(5,(.fn 197 [(.bJ [e7 v2] 0 0)]))])])⟩) (by kernel_rfl) ?_;refine ky ?_;refine bW ?_;refine rg [] [] (qQ v1 v3 [.lp .busy 6 kC j9 (eI 12 [(3,(.ptr 1 0)),(5,(.fn 197 [(.bJ [e7 v2] 0 0)]))])]) (by kernel_rfl) ?_;refine bW ?_;refine rg [] [(10,(aM (decide ((bl (v3+(1:Int)))>2000))))] (qQ v1 v3 [.lp .busy 6 kC j9 (eI 12 [(3,(.ptr 1 0)),(5,(.fn 197 [(.bJ [e7 v2] 0 0)]))])]) (by kernel_rfl) ?_;rcases jQ (decide ((bl (v3+(1:Int)))>2000))with h3|h3
  ·replace J:=(fU h3).symm.trans J;refine jI (t:=(decide ((bl (v3+(1:Int)))>2000))) (by kernel_rfl) h3 ?_;refine wJ (anL rfl ?_);refine aiT (qQ v1 v3 []) rfl (by kernel_rfl) (by kernel_rfl) ?_;refine(CA rfl ?_);refine dL ?_;refine bW ?_;refine rg [] [(2,(ar (bl (v3+(1:Int)))))] (qQ v1 v3 [.gone]) (by kernel_rfl) ?_;refine gN ?_;have hr:=ap2 J;subst hr;exact mg (by kernel_rfl)
  replace J:=(jX h3).symm.trans J;refine jj (t:=(decide ((bl (v3+(1:Int)))>2000))) (by kernel_rfl) h3 ?_;refine jn ?_;refine jK ?_;refine Nw (qQ v1 v3 []) rfl (by kernel_rfl) (by kernel_rfl) ?_;exact⟨(bl (v3+(1:Int))),(by kernel_rfl),J⟩
 rintro v3 J
 try dsimp only at J
 rw[vR]at J;refine jK ?_;refine dL ?_;refine bW ?_;refine rg [] [(2,(ar v3))] (DA v1 v3 [.gone]) (by kernel_rfl) ?_;refine gN ?_;have hr:=ap2 J;subst hr;exact mg (by kernel_rfl)
def Ec(N:Nat)(v1:aR):aqz Bool:=
 Option.bind (bif (v1.xK.toInt==0)then some ((v1.xL.length:Int)==0)else some false) λv2=>
 some v2
theorem Vt{N v1}:KO 230 [(cE v1)] aM (Ec N v1):=
 fw Tryz.func230 (gA [[]] (gG (λv2=>[(2,(aM v2))]) (λ_=>[.cells (cE v1).cells]) (aw (λh1=>gE [(3,bT h1)] [(19,oL v1.xL eK)]) λh1=>gE [(3,bF h1)] []) λv2=>gR []))
def JL(N:Nat)(v1:bH):aqz Bool:=
 bif (bL v1.bR==bL (bs []))then
  some ((v1.bO.length:Int)==0)
 else
  (Ec N v1.aS).bind λv2=>
  some v2
theorem anN{N v1}:KO 233 [(fZ v1)] aM (JL N v1):=
 fw Tryz.func233 (gA [[],[]] (aw (λh1=>gR [[t0 h1],[(7,oL v1.bO dT)]]) λh1=>aq λv2 h2=>gR [[f0 h1],[(7,cK Vt h2)]]))
def To(N:Nat)(v1:bH):aqz Bool:=
 (JL N v1).bind λv2=>
 some (!v2)
theorem aer{N v1}:KO 232 [(fZ v1)] aM (To N v1):=
 fw Tryz.func232 (aq λv2 h1=>gR [[],[(4,cK anN h1)]])
def Jx(N:Nat):aqx bH->Nat->aqz Int
 |[],_=>
  some (-1:Int)
 |v4::v5,v2=>
  (To N v4).bind λv6=>
  bif v6 then
   some (v2:Int)
  else
   (Jx N v5 (v2+1))
def Qj(N:Nat)(v1:aqx bH):aqz Int:=
 Jx N v1 0
theorem aiN{N v1}:KP 255 [(.d (.sl (cZ v1))),(.fn 232 [])] [] ar (λ_=>[]) (Qj N v1):=
 fh 0 Tryz.func255 (gA [[],[(4,oL v1 fx)]] (gT lX 0 v1 λh2=>dK 1 [] [0,1,7,8] 0 (λv2=>⟨19,[(0,(.d (.sl (cZ v1)))),(1,(.fn 232 [])),(7,(ar (v1.length:Int))),(8,(ar (v2:Int)))],[]⟩) (λv2 h3 f1=>gH [[],[f0 (bj h3)],[]]) (λv2 v4 v5 h3 f1 aB=>aq λv6 h4=>gA [[],[t0 (bk h3)],[],[(10,oE (gx (aW h3))),(16,cK aer h4)]] (aw (λh5=>gH [[t0 h5],[]]) λh5=>gb aB () [[f0 h5],[(2,oq (bE h3 rfl h2))]] h3))))
def Kb(N:Nat)(v1:aqx bH):aqz Bool:=
 (Qj N v1).bind λv2=>
 some (decide (v2>=0))
theorem ag8{N v1}:KP 231 [(.d (.sl (cZ v1))),(.fn 232 [])] [] aM (λ_=>[]) (Kb N v1):=
 fh 0 Tryz.func231 (aq λv2 h1=>gH [[],[(7,oQ [(.d (.sl (cZ v1))),(.fn 232 [])] [] [] (aiN _ h1))]])
def J9(N:Nat)(v1:au):aqz Bool:=
 Option.bind (bif (v1.aJ==1)then some true else some (v1.aJ==12)) λv2=>
 Option.bind (bif (decide (v1.aJ<1))then some true else some (decide (v1.aJ>18))) λv3=>
 bif v3 then
  some false
 else
  Option.bind (bif (v1.aJ==1)then some false else some (!((v1.dM.xN.toInt==(0:Int64).toInt)&&((v1.dM.xD.toInt==(0:Int64).toInt)&&true)))) λv4=>
  bif v4 then
   some false
  else
   Option.bind (bif v2 then some false else some (!((v1.aO.b7==0)&&((v1.aO.cp==0)&&((v1.aO.cq==0)&&((v1.aO.cU==0)&&((v1.aO.cS==0)&&true))))))) λv5=>
   bif v5 then
    some false
   else
    Option.bind (bif (v1.aJ==2)then some false else (Ec N v1.aS).bind λv6=>
    some (!v6)) λv7=>
    bif v7 then
     some false
    else
     Option.bind (bif (v1.aJ==3)then some false else(bif (bL v1.ao==bL (bs []))then some (decide ((v1.xIdx.length:Int)>0))else some true)) λv8=>
     bif v8 then
      some false
     else
      (Kb N v1.xIdx).bind λv9=>
      some (!v9)
def xq(v1:au)(l:aqx an):aqx an:= .cells (aN v1).cells::l
theorem akN{N v1}:KO 199 [(aN v1)] aM (J9 N v1):=
 fw Tryz.func199 (gA [[]] (gG (λv2=>[(3,(aM (v1.aJ==1))),(4,(aM v2))]) (λ_=>(xq v1 [])) (aw (λh1=>gE [(6,bT h1)] []) λh1=>gE [(6,bF h1)] []) λv2=>gA [[]] (gG (λv3=>[(24,(aM v3))]) (λ_=>(xq v1 [])) (aw (λh3=>gE [(3,bT h3)] []) λh3=>gE [(3,bF h3)] []) λv3=>bB λh5=>gA [[f0 h5]] (gG (λv4=>[(33,(aM v4))]) (λ_=>(xq v1 [])) (aw (λh6=>gE [(2,bF (cb h6))] []) λh6=>gE [(2,bT (cW h6))] []) λv4=>bB λh8=>gA [[f0 h8]] (gG (λv5=>[(42,(aM v5))]) (λ_=>(xq v1 [])) (aw (λh9=>gE [(2,bF (cb h9))] []) λh9=>gE [(2,bT (cW h9))] []) λv5=>bB λbh=>gA [[f0 bh]] (gG (λv7=>[(51,(aM v7))]) (λ_=>(xq v1 [])) (aw (λbn=>gE [(2,bF (cb bn))] []) λbn=>aq λv6 b5=>gE [(2,bT (cW bn))] [(16,cK Vt b5)]) λv7=>bB λbK=>gA [[f0 bK]] (gG (λv8=>[(60,(aM v8))]) (λ_=>(xq v1 [])) (aw (λbV=>gE [(2,bF (cb bV)),(6,uN)] []) λbV=>bU (2,bT (cW bV)) (aw (λcA=>gE [(6,bF (cb cA))] [(28,oL v1.xIdx fx),(34,bF (cb cA))]) λcA=>gE [(6,bT (cW cA))] [(34,bT (cW cA))])) λv8=>bB λeu=>aq λv9 cH=>gR [[f0 eu],[(7,oQ [(.d (.sl (cZ v1.xIdx))),(.fn 232 [])] (xq v1 []) [] (ag8 _ cH))]])))))))
def Kr(N:Nat)(v1:bH):aqz Bool:=
 Option.bind (bif (bL v1.bR==bL (bs []))then some false else (pj N v1.bR).bind λv2=>
 some (!v2)) λv3=>
 some v3
theorem aim{N v1}:KO 234 [(fZ v1)] aM (Kr N v1):=
 fw Tryz.func234 (gA [[]] (gG (λv3=>[(2,(aM v3))]) (λ_=>[.cells (fZ v1).cells]) (aw (λh1=>gE [(3,bF (cb h1))] []) λh1=>aq λv2 h2=>gE [(3,bT (cW h1))] [(19,cK sB h2)]) λv3=>gR []))
def KK(N:Nat):aqx bH->Nat->aqz Int
 |[],_=>
  some (-1:Int)
 |v4::v5,v2=>
  (Kr N v4).bind λv6=>
  bif v6 then
   some (v2:Int)
  else
   (KK N v5 (v2+1))
def SH(N:Nat)(v1:aqx bH):aqz Int:=
 KK N v1 0
theorem afO{N v1}:KP 255 [(.d (.sl (cZ v1))),(.fn 234 [])] [] ar (λ_=>[]) (SH N v1):=
 fh 0 Tryz.func255 (gA [[],[(4,oL v1 fx)]] (gT lX 0 v1 λh2=>dK 1 [] [0,1,7,8] 0 (λv2=>⟨19,[(0,(.d (.sl (cZ v1)))),(1,(.fn 234 [])),(7,(ar (v1.length:Int))),(8,(ar (v2:Int)))],[]⟩) (λv2 h3 f1=>gH [[],[f0 (bj h3)],[]]) (λv2 v4 v5 h3 f1 aB=>aq λv6 h4=>gA [[],[t0 (bk h3)],[],[(10,oE (gx (aW h3))),(16,cK aim h4)]] (aw (λh5=>gH [[t0 h5],[]]) λh5=>gb aB () [[f0 h5],[(2,oq (bE h3 rfl h2))]] h3))))
def QW(N:Nat)(v1:aqx bH):aqz Bool:=
 (SH N v1).bind λv2=>
 some (decide (v2>=0))
theorem alW{N v1}:KP 231 [(.d (.sl (cZ v1))),(.fn 234 [])] [] aM (λ_=>[]) (QW N v1):=
 fh 0 Tryz.func231 (aq λv2 h1=>gH [[],[(7,oQ [(.d (.sl (cZ v1))),(.fn 234 [])] [] [] (afO _ h1))]])
def J3(N:Nat)(v1:au):aqz Bool:=
 Option.bind (bif (v1.aJ==3)then (pj N v1.ao).bind λv2=>
 some (!v2)else some false) λv3=>
 bif v3 then
  some false
 else
  (QW N v1.xIdx).bind λv4=>
  some (!v4)
theorem alp{N v1}:KO 200 [(aN v1)] aM (J3 N v1):=
 fw Tryz.func200 (gA [[]] (gG (λv3=>[(11,(aM v3))]) (λ_=>[.cells (aN v1).cells]) (aw (λh1=>aq λv2 h2=>gE [(3,bT h1)] [(19,cK sB h2)]) λh1=>gE [(3,bF h1)] []) λv3=>bB λh4=>aq λv4 h5=>gR [[f0 h4],[(7,oQ [(.d (.sl (cZ v1.xIdx))),(.fn 234 [])] [.cells (aN v1).cells] [] (alW _ h5))]]))
def Dm(N:Nat)(v1:Int)(v3:Bool):aqz Int:=
 bif v3 then
  some (1:Int)
 else
  bif (v1==11)then
   some (3:Int)
  else
   some (2:Int)
def GQ(N:Nat)(v1:Int)(v2:Bool):aqz Int:=
 bif v2 then
  some (0:Int)
 else
  bif (v1==8)then
   Dm N v1 (v1==8)
  else
   bif (v1==12)then
    Dm N v1 (v1==12)
   else
    Dm N v1 (v1==18)
def Hm(N:Nat)(v1:Int):aqz Int:=
 bif (v1==1)then
  GQ N v1 (v1==1)
 else
  bif (v1==2)then
   GQ N v1 (v1==2)
  else
   GQ N v1 (v1==3)
theorem ajB{N v1}:KO 235 [(ar v1)] ar (Hm N v1):=
 fw Tryz.func235 (eB 1 [[],[],[]] [3,4] 0 (λ(v2:Bool)=>⟨14,[(3,(ar v1)),(4,(aM v2))],[]⟩) (GQ N v1) (λf1 aB=>aw (λh6=>gm aB (v1==1) [[t0 h6]]) λh6=>gA [[f0 h6],[]] (aw (λh7=>gm aB (v1==2) [[t0 h7]]) λh7=>gm aB (v1==3) [[f0 h7],[]])) (λv2=>bB λh1=>eB 2 [[f0 h1],[]] [3,8] 0 (λ(v3:Bool)=>⟨14,[(3,(ar v1)),(8,(aM v3))],[]⟩) (Dm N v1) (λf2 ca=>aw (λh4=>gm ca (v1==8) [[t0 h4]]) λh4=>gA [[f0 h4],[]] (aw (λh5=>gm ca (v1==12) [[t0 h5]]) λh5=>gm ca (v1==18) [[f0 h5],[]])) (λv3=>dd λ_=>bB λh3=>gR [[f0 h3],[]])))
def PO(N:Nat)(v1:bH):aqz Bool:=
 some (decide ((v1.bO.length:Int)>6))
theorem aoX{N v1}:KO 236 [(fZ v1)] aM (PO N v1):=
 fw Tryz.func236 (gR [[],[(7,oL v1.bO dT)]])
def IZ(N:Nat):aqx bH->Nat->aqz Int
 |[],_=>
  some (-1:Int)
 |v4::v5,v2=>
  (PO N v4).bind λv6=>
  bif v6 then
   some (v2:Int)
  else
   (IZ N v5 (v2+1))
def NF(N:Nat)(v1:aqx bH):aqz Int:=
 IZ N v1 0
theorem aha{N v1}:KP 255 [(.d (.sl (cZ v1))),(.fn 236 [])] [] ar (λ_=>[]) (NF N v1):=
 fh 0 Tryz.func255 (gA [[],[(4,oL v1 fx)]] (gT lX 0 v1 λh2=>dK 1 [] [0,1,7,8] 0 (λv2=>⟨19,[(0,(.d (.sl (cZ v1)))),(1,(.fn 236 [])),(7,(ar (v1.length:Int))),(8,(ar (v2:Int)))],[]⟩) (λv2 h3 f1=>gH [[],[f0 (bj h3)],[]]) (λv2 v4 v5 h3 f1 aB=>aq λv6 h4=>gA [[],[t0 (bk h3)],[],[(10,oE (gx (aW h3))),(16,cK aoX h4)]] (aw (λh5=>gH [[t0 h5],[]]) λh5=>gb aB () [[f0 h5],[(2,oq (bE h3 rfl h2))]] h3))))
def QV(N:Nat)(v1:aqx bH):aqz Bool:=
 (NF N v1).bind λv2=>
 some (decide (v2>=0))
theorem amg{N v1}:KP 231 [(.d (.sl (cZ v1))),(.fn 236 [])] [] aM (λ_=>[]) (QV N v1):=
 fh 0 Tryz.func231 (aq λv2 h1=>gH [[],[(7,oQ [(.d (.sl (cZ v1))),(.fn 236 [])] [] [] (aha _ h1))]])
def HX(N:Nat)(v1:au):aqz Bool:=
 (Hm N v1.aJ).bind λv2=>
 Option.bind (bif ((v1.bp.length:Int) !=v2)then some true else some (decide ((v1.xIdx.length:Int)>6))) λv3=>
 bif v3 then
  some false
 else
  (QV N v1.xIdx).bind λv4=>
  some (!v4)
theorem ajJ{N v1}:KO 201 [(aN v1)] aM (HX N v1):=
 fw Tryz.func201 (gA [[]] (aq λv2 h1=>gG (λv3=>[(15,(aM v3))]) (λ_=>[.cells (aN v1).cells]) (cf (7,oL v1.bp gq) (cf (16,cK ajB h1) (aw (λh2=>gE [(7,bT h2)] []) λh2=>gE [(7,bF h2)] [(31,oL v1.xIdx fx)]))) λv3=>bB λh4=>aq λv4 h5=>gR [[f0 h4],[(7,oQ [(.d (.sl (cZ v1.xIdx))),(.fn 236 [])] [.cells (aN v1).cells] [] (amg _ h5))]]))
def CE(N:Nat)(v1:au):aqz Bool:=
 Option.bind (bif (decide ((13:Int)<=v1.aJ))then some (decide (v1.aJ<=18))else some false) λv2=>
 some v2
theorem Vl{N v1}:KO 141 [(aN v1)] aM (CE N v1):=
 fw Tryz.func141 (gA [[]] (gG (λv2=>[(2,(aM v2))]) (λ_=>[.cells (aN v1).cells]) (aw (λh1=>gE [(3,bT h1)] []) λh1=>gE [(3,bF h1)] []) λv2=>gR []))
def Fw(N:Nat)(v1:Int)(v2:Int)(v3:Bool):aqz Bool:=
 bif v3 then
  some true
 else
  Option.bind (bif (v1==11)then some (v2==0)else some false) λv4=>
  some v4
def I3(N:Nat)(v1:Int)(v2:Int):aqz Bool:=
 bif (v1==16)then
  Fw N v1 v2 (v1==16)
 else
  bif (v1==17)then
   Fw N v1 v2 (v1==17)
  else
   Fw N v1 v2 (v1==18)
theorem afW{N v1 v2}:KO 237 [(ar v1),(ar v2)] aM (I3 N v1 v2):=
 fw Tryz.func237 (eB 1 [[],[],[]] [0,1,6] 0 (λ(v3:Bool)=>⟨16,[(0,(ar v1)),(1,(ar v2)),(6,(aM v3))],[]⟩) (Fw N v1 v2) (λf1 aB=>aw (λh4=>gm aB (v1==16) [[t0 h4]]) λh4=>gA [[f0 h4],[]] (aw (λh5=>gm aB (v1==17) [[t0 h5]]) λh5=>gm aB (v1==18) [[f0 h5],[]])) (λv3=>bB λh1=>gA [[f0 h1]] (gG (λv4=>[(4,(aM v4))]) (λ_=>[]) (aw (λh2=>gE [(2,bT h2)] []) λh2=>gE [(2,bF h2)] []) λv4=>gR [])))
def H4(N:Nat)(v1:au):aqx au->Nat->aqz Bool
 |[],_=>
  some true
 |v7::v8,v5=>
  (CE N v7).bind λv9=>
  Option.bind (I3 N v1.aJ (v5:Int)) λv10=>
  bif (v9==v10)then
   (H4 N v1 v8 (v5+1))
  else
   some false
def Ke(N:Nat)(v1:au):aqz Bool:=
 Option.bind (bif (v1.aJ==1)then (qa N v1.aO).bind λv2=>
 some (v2 !=0)else(bif (v1.aJ==12)then (qa N v1.aO).bind λv3=>
 some (v3 !=0)else some false)) λv4=>
 bif v4 then
  some false
 else
  H4 N v1 v1.bp 0
theorem aiw{N v1}:KO 202 [(aN v1)] aM (Ke N v1):=
 fw Tryz.func202 (gA [[]] (gG (λv4=>[(18,(aM v4))]) (λ_=>[.cells (aN v1).cells]) (aw (λh1=>aq λv2 h2=>gE [(3,bT h1),(8,bT rfl)] [(34,cK xB h2)]) λh1=>bU (3,bF h1) (aw (λh3=>aq λv3 h4=>gE [(8,bT h3)] [(34,cK xB h4)]) λh3=>gE [(8,bF h3)] [])) λv4=>bB λh6=>gA [[f0 h6],[(7,oL v1.bp gq)]] (gT lK 20 v1.bp λh8=>dK 1 [] [1,20,21,22] 1 (λv5=>⟨35,[(1,(.ptr 0 0)),(20,(.d (.sl (dW v1.bp)))),(21,(ar (v1.bp.length:Int))),(22,(ar (v5:Int)))],[.cells (aN v1).cells]⟩) (λv5 h9 f1=>gR [[],[f0 (bj h9)],[]]) (λv5 v7 v8 h9 f1 aB=>aq λv9 aU=>aq λv10 bh=>gA [[],[t0 (bk h9)],[(4,oE (fX (aW h9)))],[(4,cK Vl aU),(16,cK afW bh)]] (ff λbn=>gb aB () [[f0 (cb bn)],[(2,oq (bE h9 rfl h8))]] h9)))))
def H0(N:Nat)(v1:Int):aqz Bool:=
 Option.bind (bif (decide (v1>=2))then some (decide (v1<=31))else some false) λv2=>
 some v2
theorem XN{N v1}:KO 271 [(ar v1)] aM (H0 N v1):=
 fw Tryz.func271 (gA [[]] (gG (λv2=>[(2,(aM v2))]) (λ_=>[]) (aw (λh1=>gE [(2,bT h1)] []) λh1=>gE [(2,bF h1)] []) λv2=>gR []))
def SV(N:Nat)(v1:Int):aqz Int64:=
 (H0 N v1).bind λv2=>
 bif v2 then
  bif (decide ((0:Int)<=(IntKind.u64.wrap (bl (v1-(1:Int))))))then
  some (-(Int64.ofInt ((1:Int)*2^(min ((IntKind.u64.wrap (bl (v1-(1:Int))))).toNat (IntKind.bits .i64)))))
  else none
 else
  some (0:Int64)
theorem ah2{N v1}:KO 256 [(ar v1)] cQ (SV N v1):=
 fw Tryz.func256 (aq λv2 h1=>gA [[],[(4,cK XN h1)]] (ff λh2=>aF λh3=>gR [[f0 (cb h2)],[(10,⟨_,_, .nn (b:=(IntKind.u64.wrap (bl (v1-(1:Int))))) (of_decide_eq_true h3)⟩),(11,⟨_,_, .eq (nk ((1:Int)*2^(min ((IntKind.u64.wrap (bl (v1-(1:Int))))).toNat (IntKind.bits .i64))))⟩),(14,⟨_,_, .eq (xy (Int64.ofInt ((1:Int)*2^(min ((IntKind.u64.wrap (bl (v1-(1:Int))))).toNat (IntKind.bits .i64)))))⟩)]]))
def QK(N:Nat)(v1:Int):aqz Int64:=
 (H0 N v1).bind λv2=>
 bif v2 then
  bif (decide ((0:Int)<=(IntKind.u64.wrap (bl (v1-(1:Int))))))then
  some ((Int64.ofInt ((1:Int)*2^(min ((IntKind.u64.wrap (bl (v1-(1:Int))))).toNat (IntKind.bits .i64))))-(1:Int64))
  else none
 else
  some (0:Int64)
theorem ams{N v1}:KO 257 [(ar v1)] cQ (QK N v1):=
 fw Tryz.func257 (aq λv2 h1=>gA [[],[(4,cK XN h1)]] (ff λh2=>aF λh3=>gR [[f0 (cb h2)],[(10,⟨_,_, .nn (b:=(IntKind.u64.wrap (bl (v1-(1:Int))))) (of_decide_eq_true h3)⟩),(11,⟨_,_, .eq (nk ((1:Int)*2^(min ((IntKind.u64.wrap (bl (v1-(1:Int))))).toNat (IntKind.bits .i64))))⟩),(14,⟨_,_, .eq (akn (Int64.ofInt ((1:Int)*2^(min ((IntKind.u64.wrap (bl (v1-(1:Int))))).toNat (IntKind.bits .i64)))) (1:Int64))⟩)]]))
def u6(N:Nat)(v1:bA)(v2:dx):aqz Bool:=
 (sQ N v1).bind λv3=>
 Option.bind (bif (v3==0)then(bif (v2.xD.toInt==1)then (SV N v1.cp).bind λv4=>
 (bif (decide (v2.xN.toInt>=v4.toInt))then (QK N v1.cp).bind λv5=>
 some (decide (v2.xN.toInt<=v5.toInt))else some false)else some false)else some false) λv6=>
 some v6
theorem aca{N v1 v2}:KO 238 [(dH v1),(aVal v2)] aM (u6 N v1 v2):=
 fw Tryz.func238 (gA [[]] (aq λv3 h1=>gG (λv6=>[(4,(aM v6))]) (λ_=>[.cells (dH v1).cells, .cells (aVal v2).cells]) (cf (4,cK SJ h1) (aw (λh2=>bU (3,bT h2) (aw (λh3=>aq λv4 h4=>bU (8,bT h3) (cf (40,cK ah2 h4) (aw (λh5=>aq λv5 h6=>gE [(16,bT h5)] [(64,cK ams h6)]) λh5=>gE [(16,bF h5)] []))) λh3=>gE [(8,bF h3),(16,bF rfl)] [])) λh2=>gE [(3,bF h2),(8,bF rfl),(16,bF rfl)] [])) λv6=>gR []))
def NR(N:Nat)(v1:Int64):aqz Bool:=
 Option.bind (bif (decide (v1.toInt>=(-2147483647:Int)))then some (decide (v1.toInt<=2147483647))else some false) λv2=>
 some v2
theorem ai5{N v1}:KO 239 [(cQ v1)] aM (NR N v1):=
 fw Tryz.func239 (gA [[]] (gG (λv2=>[(2,(aM v2))]) (λ_=>[]) (aw (λh1=>gE [(2,bT h1)] []) λh1=>gE [(2,bF h1)] []) λv2=>gR []))
def Sp(N:Nat)(v1:Int64):aqz Bool:=
 Option.bind (bif (decide (v1.toInt>=(-2147483647:Int)))then some (decide (v1.toInt<=2147483647))else some false) λv2=>
 some v2
theorem ai1{N v1}:KO 258 [(cQ v1)] aM (Sp N v1):=
 fw Tryz.func258 (gA [[]] (gG (λv2=>[(2,(aM v2))]) (λ_=>[]) (aw (λh1=>gE [(2,bT h1)] []) λh1=>gE [(2,bF h1)] []) λv2=>gR []))
def Ar(N:Nat)(v1:Int64):aqz Int:=
 bif (decide (v1.toInt<0))then
  some (IntKind.u64.wrap (0-(IntKind.u64.wrap v1.toInt)))
 else
  some (IntKind.u64.wrap v1.toInt)
theorem OS{N v1}:KO 260 [(cQ v1)] (λr=> .d (.v (.int .u64 r))) (Ar N v1):=
 fw Tryz.func260 (gA [[],[]] (bB λh1=>gR [[f0 h1],[]]))
def y8(N:Nat):Nat->Int->Int->aqz Int
 |0,_,_=>none
 |v3+1,v4,v5=>
  bif (v5 !=0)then
   (λbq fc=>y8 N v3 bq fc) v5 ((v4).tmod v5)
  else
   some v4
def Cl(N:Nat)(v1:Int)(v2:Int):aqz Int:=
 y8 N N v1 v2
theorem ZN{N v1 v2}:KO 259 [(.d (.v (.int .u64 v1))),(.d (.v (.int .u64 v2)))] (λr=> .d (.v (.int .u64 r))) (Cl N v1 v2):=
 fw Tryz.func259 (rT 1 [[]] [0,1] 0 (λ(v4:Int)(v5:Int)=>⟨12,[(0,(.d (.v (.int .u64 v4)))),(1,(.d (.v (.int .u64 v5))))],[]⟩) (y8 N) (λv3 v4 v5 f1 aB=>gA [[]] (lT λh1=>nB aB (v5,((v4).tmod v5)) [[t0 h1],[(10,⟨_,_, .nz (b:=v5) (bne_iff_ne.1 h1)⟩)]])))
def y6(N:Nat)(v1:dx):aqz Bool:=
 Option.bind (bif (decide (v1.xD.toInt>=1))then(bif (decide (v1.xD.toInt<=2147483647))then (Sp N v1.xN).bind λv2=>
 (bif v2 then (Ar N v1.xN).bind λv3=>
 Option.bind (Cl N v3 (IntKind.u64.wrap v1.xD.toInt)) λv4=>
 some (v4==1)else some false)else some false)else some false) λv5=>
 some v5
theorem Z4{N v1}:KO 240 [(aVal v1)] aM (y6 N v1):=
 fw Tryz.func240 (gA [[]] (gG (λv5=>[(2,(aM v5))]) (λ_=>[.cells (aVal v1).cells]) (aw (λh1=>bU (3,bT h1) (aw (λh2=>aq λv2 h3=>bU (8,bT h2) (cf (34,cK ai1 h3) (aw (λh4=>aq λv3 h5=>aq λv4 h6=>gE [(13,bT h4)] [(49,cK OS h5),(61,cK ZN h6)]) λh4=>gE [(13,bF h4)] []))) λh2=>gE [(8,bF h2),(13,bF rfl)] [])) λh1=>gE [(3,bF h1),(8,bF rfl),(13,bF rfl)] []) λv5=>gR []))
def wD(N:Nat)(v1:bA)(v2:dx):aqz Bool:=
 (qa N v1).bind λv3=>
 bif (v3 !=0)then
  some false
 else
  bif (v1.b7==2)then
   (u6 N v1 v2).bind λv4=>
   some v4
  else
   bif (v1.b7==3)then
    Option.bind (bif (v2.xD.toInt==1)then (NR N v2.xN).bind λv5=>
    some v5 else some false) λv6=>
    some v6
   else
    (y6 N v2).bind λv7=>
    some v7
theorem abt{N v1 v2}:KO 203 [(dH v1),(aVal v2)] aM (wD N v1 v2):=
 fw Tryz.func203 (aq λv3 h1=>gA [[],[(4,cK xB h1)]] (bB λh2=>gA [[f0 h2],[],[]] (aw (λh3=>aq λv4 h4=>gR [[t0 h3],[(7,cK aca h4)]]) λh3=>gA [[f0 h3],[]] (aw (λh5=>gA [[t0 h5]] (gG (λv6=>[(4,(aM v6))]) (λ_=>[.cells (dH v1).cells, .cells (aVal v2).cells]) (aw (λh6=>aq λv5 h7=>gE [(3,bT h6)] [(19,cK ai5 h7)]) λh6=>gE [(3,bF h6)] []) λv6=>gR [])) λh5=>aq λv7 h9=>gR [[f0 h5],[(4,cK Z4 h9)]]))))
def QQ(N:Nat)(v1:au):aqz au:=some v1
theorem ahX{N v1 r}(J:QQ N v1=some r):ij Tryz.prog 204 [(aN v1)] (·=(.fn 241 [(.bJ [e7 r] 0 0)])):=by
 cases J;exact ahL v1
def uM(N:Nat):aqx aR->aqz Int
 |[]=>
  some (0:Int)
 |v9::v10=>
  (qX N v9).bind λv11=>
  bif (v11 !=0)then
   some (1:Int)
  else
   (uM N v10)
def DF(N:Nat)(v1:au):aqz Int:=
 (J9 N v1).bind λv2=>
 bif v2 then
  (J3 N v1).bind λv3=>
  bif v3 then
   (HX N v1).bind λv4=>
   bif v4 then
    (Ke N v1).bind λv5=>
    bif v5 then
     Option.bind (bif (v1.aJ==1)then (wD N v1.aO v1.dM).bind λv6=>
     some (!v6)else some false) λv7=>
     bif v7 then
      some (1:Int)
     else
      (QQ N v1).bind λv8=>
      uM N (nE v8)
    else
     some (10:Int)
   else
    some (11:Int)
  else
   some (7:Int)
 else
  some (5:Int)
def ma(v1:au)(l:aqx an):aqx an:= .cells (aN v1).cells:: .cells [(ar (0:Int))]::l
def y9(v1:au)(l:aqx an):aqx an:= .cells (aN v1).cells::l
theorem anY{N v1 r}(J:DF N v1=some r):KF 169 [(aN v1)] (ar r):=by
 rw[DF]at J;refine Ca Tryz.func169 rfl (by kernel_rfl) ?_;refine mJ [0] 0 (apU _) (s':=⟨38,[(0,(aN v1))],[]⟩) (by kernel_rfl) ?_;refine bW ?_;refine rg [] [(1,(.ptr 0 0)),(2,(.ptr 1 0))] (ma v1 []) (by kernel_rfl) ?_;refine bW ?_;refine ky ?_;refine bW ?_;obtain⟨v2,h1,J⟩:=dw J;refine rg [(4,cK akN h1)] [(4,(aM (!v2)))] (ma v1 []) (by kernel_rfl) ?_;rcases jQ v2 with h2|h2
 ·replace J:=(fU h2).symm.trans J;refine jj (t:=(!v2)) (by kernel_rfl) (cb h2) ?_;refine bW ?_;obtain⟨v3,h3,J⟩:=dw J;refine rg [(4,cK alp h3)] [(8,(aM (!v3)))] (ma v1 []) (by kernel_rfl) ?_;rcases jQ v3 with h4|h4
  ·replace J:=(fU h4).symm.trans J;refine jj (t:=(!v3)) (by kernel_rfl) (cb h4) ?_;refine bW ?_;obtain⟨v4,h5,J⟩:=dw J;refine rg [(4,cK ajJ h5)] [(12,(aM (!v4)))] (ma v1 []) (by kernel_rfl) ?_;rcases jQ v4 with h6|h6
   ·replace J:=(fU h6).symm.trans J;refine jj (t:=(!v4)) (by kernel_rfl) (cb h6) ?_;refine bW ?_;obtain⟨v5,h7,J⟩:=dw J;refine rg [(4,cK aiw h7)] [(16,(aM (!v5)))] (ma v1 []) (by kernel_rfl) ?_;rcases jQ v5 with h8|h8
    ·replace J:=(fU h8).symm.trans J;refine jj (t:=(!v5)) (by kernel_rfl) (cb h8) ?_;refine bW ?_;obtain⟨v7,bh,J⟩:=dw J;refine rgE [(20,(aM v7))] (ma v1 []) ?_ ?_
     ·rcases jQ (v1.aJ==1)with h9|h9
      ·replace bh:=(fU h9).symm.trans bh;obtain⟨v6,aU,bh⟩:=dw bh;have he:=ap2 bh;subst he;exact⟨[(12,bT h9),(15,bT h9),(18,bT h9),(21,bT h9),(24,bT h9),(25,cK abt aU),(27,bT h9),(31,bT h9)],by kernel_rfl⟩
      replace bh:=(jX h9).symm.trans bh;have he:=ap2 bh;subst he;exact⟨[(12,bF h9),(15,bF h9),(18,bF h9),(21,bF h9),(24,bF h9),(27,bF h9),(31,bF h9)],by kernel_rfl⟩
     rcases jQ v7 with bn|bn
     ·replace J:=(fU bn).symm.trans J;refine jI (t:=v7) (by kernel_rfl) bn ?_;refine bW ?_;refine rg [] [] (y9 v1 [.cells [(ar (1:Int))]]) (by kernel_rfl) ?_;refine gN (lE (jN ?_));have hr:=ap2 J;subst hr;exact mg (by kernel_rfl)
     replace J:=(jX bn).symm.trans J;refine jj (t:=v7) (by kernel_rfl) bn ?_;refine jn ?_;refine jK ?_;refine dL ?_;refine bW ?_;refine bW ?_;obtain⟨v8,b5,J⟩:=dw J;refine rg [(4,cL (ahX b5))] [(33,(.fn 241 [(.bJ [e7 v8] 0 0)]))] (ma v1 []) (by kernel_rfl) ?_;refine ky ?_;refine mJ [2,33] 2 (apR rfl) (s':=⟨38,[(2,(.ptr 1 0)),(33,(.fn 241 [(.bJ [e7 v8] 0 0)]))],(ma v1 [])⟩) (by kernel_rfl) ?_;refine SE (m:=2) (enc:=cE) (xs:=(nE v8)) (by kernel_rfl) (aiS v8) (λ(_:Unit)=>(ma v1 [])) (λ(_:Unit) l=>uM N l=some r) () (by kernel_rfl) J (by rintro _;rfl) (by rintro _;kernel_rfl) (by kernel_rfl) rfl ?_ ?_
     ·rintro _ v9 v10 J bZ kC j9
      try dsimp only at J
      rw[uM]at J;refine mJ [2,34] 3 (apU _) (s':=⟨38,[(2,(.ptr 1 0)),(34,(cE v9))],(ma v1 [.lp .ready 34 kC j9 (eI 38 [(2,(.ptr 1 0)),(33,(.fn 241 [(.bJ [e7 v8] 0 0)]))])])⟩) (by kernel_rfl) ?_;refine re [] [(3,(.ptr 3 0))] (ma v1 [.lp .ready 34 kC j9 (eI 38 [(2,(.ptr 1 0)),(33,(.fn 241 [(.bJ [e7 v8] 0 0)]))]), .cells (cE v9).cells]) (by kernel_rfl) ?_;refine dL ?_;refine⟨(ma v1 []),[.cells (cE v9).cells],rfl,(by kernel_rfl),?_⟩;refine mJ [2,3] 4 (apR rfl) (s':=⟨38,[(2,(.ptr 1 0)),(3,(.ptr 3 0))],(ma v1 [.lp .busy 34 kC j9 (eI 38 [(2,(.ptr 1 0)),(33,(.fn 241 [(.bJ [e7 v8] 0 0)]))]), .cells (cE v9).cells])⟩) (by kernel_rfl) ?_;refine ky ?_;refine bW ?_;obtain⟨v11,bK,J⟩:=dw J;refine rg [(4,cK xS bK)] [(37,(aM (v11 !=0)))] (ma v1 [.lp .busy 34 kC j9 (eI 38 [(2,(.ptr 1 0)),(33,(.fn 241 [(.bJ [e7 v8] 0 0)]))]), .cells (cE v9).cells]) (by kernel_rfl) ?_;rcases jQ (v11 !=0)with bV|bV
      ·replace J:=(fU bV).symm.trans J;refine jI (t:=(v11 !=0)) (by kernel_rfl) bV ?_;refine bW ?_;refine rg [] [] (y9 v1 [.cells [(ar (1:Int))], .lp .busy 34 kC j9 (eI 38 [(2,(.ptr 1 0)),(33,(.fn 241 [(.bJ [e7 v8] 0 0)]))]), .cells (cE v9).cells]) (by kernel_rfl) ?_;refine gN (lE ?_);refine Y0 (y9 v1 [.cells [(ar (1:Int))]]) rfl (by kernel_rfl) (by kernel_rfl) ?_;refine(lE (jN ?_));have hr:=ap2 J;subst hr;exact mg (by kernel_rfl)
      replace J:=(jX bV).symm.trans J;refine jj (t:=(v11 !=0)) (by kernel_rfl) bV ?_;refine jn ?_;refine jK ?_;refine Nw (ma v1 []) rfl (by kernel_rfl) (by kernel_rfl) ?_;exact⟨(),(by kernel_rfl),J⟩
     rintro _ J
     try dsimp only at J
     rw[uM]at J;refine jK ?_;refine dL ?_;refine bW ?_;refine rg [] [] (ma v1 [.gone]) (by kernel_rfl) ?_;refine gN ?_;have hr:=ap2 J;subst hr;exact mg (by kernel_rfl)
    replace J:=(jX h8).symm.trans J;refine jI (t:=(!v5)) (by kernel_rfl) (cW h8) ?_;refine bW ?_;refine rg [] [] (y9 v1 [.cells [(ar (10:Int))]]) (by kernel_rfl) ?_;refine gN (lE (jN ?_));have hr:=ap2 J;subst hr;exact mg (by kernel_rfl)
   replace J:=(jX h6).symm.trans J;refine jI (t:=(!v4)) (by kernel_rfl) (cW h6) ?_;refine bW ?_;refine rg [] [] (y9 v1 [.cells [(ar (11:Int))]]) (by kernel_rfl) ?_;refine gN (lE (jN ?_));have hr:=ap2 J;subst hr;exact mg (by kernel_rfl)
  replace J:=(jX h4).symm.trans J;refine jI (t:=(!v3)) (by kernel_rfl) (cW h4) ?_;refine bW ?_;refine rg [] [] (y9 v1 [.cells [(ar (7:Int))]]) (by kernel_rfl) ?_;refine gN (lE (jN ?_));have hr:=ap2 J;subst hr;exact mg (by kernel_rfl)
 replace J:=(jX h2).symm.trans J;refine jI (t:=(!v2)) (by kernel_rfl) (cW h2) ?_;refine bW ?_;refine rg [] [] (y9 v1 [.cells [(ar (5:Int))]]) (by kernel_rfl) ?_;refine gN (lE (jN ?_));have hr:=ap2 J;subst hr;exact mg (by kernel_rfl)
end Go.Proofs.YtmkmibahjanejaaGreatDoor
