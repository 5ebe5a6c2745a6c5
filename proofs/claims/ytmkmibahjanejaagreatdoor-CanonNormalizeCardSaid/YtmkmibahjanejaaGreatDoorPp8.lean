/-
  Part 8 of the proof: AbsWs, AbsDl, AbsTm, CpD, SortM.
-/
import Derived.Test.YtmkmibahjanejaaGreatDoorPp7
import Derived.Test.YtmkmibahjanejaaGreatDoorProg
import Derived.WalkKit
import Derived.Shelf.SlSortCmp.NoneTotal
namespace Go.Proofs.YtmkmibahjanejaaGreatDoor
open Go.RowKit
set_option linter.unusedSimpArgs false
set_option linter.unusedVariables false
structure DL{α:Type}(f:List α->List (List D))(k:Nat):Prop where
 len:∀l,(f l).length=l.length
 all:∀l,∀c∈f l,c.length=k
 app:∀a b,f a++f b=f (a++b)
section
variable {P:agN} {α:Type} {f:agK α->agK (agK D)} {k cq:Nat}
theorem Dx{n:Nat}(hb:0<cq)(h:Nat.ble (n*cq) 140737488355328=true):n<=maxLen/\n*cq<=140737488355328:=by
 have h1:=af3 h;have h2:n*1<=n*cq:=Nat.mul_le_mul_left n hb;refine⟨?_,h1⟩;unfold maxLen;omega
def oA(F:DL f k)(A B:agK α)(h:Nat.ble ((A.length+B.length)*cq) 140737488355328=true)(hb:0<cq:=by decide):Ob P:=
 ⟨_,_, .app (xs:=f A) (ys:=f B) (zs:=f (A++B)) (len:=A.length) (n:=(A++B).length) (F.len A).symm (F.all A) (F.all B) (by rw[F.len,F.len];exact(Dx hb h).1) (by rw[F.len,F.len];exact(Dx hb h).2) (F.app A B) (by rw[F.len,F.len,afW])⟩
def oZ(F:DL f k)(B:agK α)(h:Nat.ble ((0+B.length)*cq) 140737488355328=true)(hb:0<cq:=by decide):Ob P:=
 ⟨_,_, .app (xs:=[]) (ys:=f B) (zs:=f B) (len:=0) (n:=B.length) rfl (λ_ hc=>absurd hc agC) (F.all B) (by rw[F.len];exact(Dx hb h).1) (by rw[F.len];exact(Dx hb h).2) rfl (by rw[F.len];exact agf _)⟩
end
section
variable {P:agN} {f:FuncId} {dB:agK J} {H H':agK aj} {r:J}
def oQ(lg:agK J)(h:agK aj)(l:agK Nat)(hc:b5 P f dB H λr1 h1=>r1=r/\h1=H)(ha:lg=dB.map (J.ay (rn l 0)):=by kernel_rfl)(hd:nL l=true:=by kernel_rfl)(hb:l.map (λj=>h[j]?)=H.map (λB=>some (B.ay (rn l 0))):=by kernel_rfl)(hl:(dB.all (J.aA H.length)&&H.all (aj.aA H.length)&&r.aA H.length)=true:=by kernel_rfl):Ob P:=⟨_,_, .rq ha hd hb hl hc⟩
def oR(lg:agK J)(h:agK aj)(l:agK Nat)(hc:b5 P f dB H λr1 h1=>r1=r/\h1=H')(ha:lg=dB.map (J.ay (rn l h.length)):=by kernel_rfl)(hd:nL l=true:=by kernel_rfl)(hb:l.map (λj=>h[j]?)=H.map (λB=>some (B.ay (rn l h.length))):=by kernel_rfl)(hl:(dB.all (J.aA H.length)&&H.all (aj.aA H.length))=true:=by kernel_rfl):Ob P:=⟨_,_, .k9 ha hd hb hl hc⟩
end
section
variable {P:agN} {r:agM Nat} {N0:Nat} {Q:Exit->St->Prop} {w0:WO}
theorem Cm{α:Type}{f:agK α->agK (agK D)}{z:Nat}(F:DL f z)(k:Nat)(l:agK α)(h:l.length<=maxLen->GW P r N0 Q w0)(hx:(aQ (wS w0).t k).ep=some (f l):=by kernel_rfl):GW P r N0 Q w0:=
 WI k (f l) hx λe=>h (uF (F.len l) e)
theorem Ym{α:Type}{f:agK α->agK (agK D)}{z:Nat}(F:DL f z)(b i:Nat)(l:agK α)(h:l.length<=maxLen->GW P r N0 Q w0)(hx:(((wS w0).h[b]?).bind λB=>match B with| .cells cs=>(cs[i]?).bind J.ep|_=>none)=some (f l):=by kernel_rfl):GW P r N0 Q w0:=
 Cu b i (f l) hx λe=>h (uF (F.len l) e)
structure nK{α ι R:Type}(k:Nat)(live:List Nat)(m:Nat)(L:List α)(st:Nat->ι->St)(G:List α->Nat->ι->Option R)(rr:R)(n:Nat)(x:α)(l:List α)(i:ι)(f:St->Prop):Prop where
 h:EA k live m (λz:Nat×List α×ι=>st z.1 z.2.2) (λz=>L.drop z.1=z.2.1/\G z.2.1 z.1 z.2.2=some rr) (λz=>z.2.1.length) (n,x::l,i) f
structure qm{ι R:Type}(k:Nat)(live:List Nat)(m:Nat)(st:ι->St)(G:Nat->ι->Option R)(rr:R)(d:Nat)(f:St->Prop):Prop where
 h:∀i,EA k live m (λz:Nat×ι=>st z.2) (λz=>G z.1 z.2=some rr) (λz=>z.1) (d+1,i) f
theorem LY(hm:P.follows .mixedOrders=true){α ι R:Type}{rr:R}(k:Nat)(ar:agK (agK (Nat×Ob P)))(live:agK Nat)(m:Nat)(L:agK α)(st:Nat->ι->St)(G:agK α->Nat->ι->agM R)(i0:ι)(hI:G L 0 i0=some rr)
 (nil:∀n i,L.drop n=[]->G [] n i=some rr->∀f:St->Prop,GW P r N0 Q (fj k f (st n i) (wk P w0 ar)))
 (cons:∀n x l i,L.drop n=x::l->G (x::l) n i=some rr->∀f:St->Prop,nK k live m L st G rr n x l i f->GW P r N0 Q (fj k f (st n i) (wk P w0 ar)))
 (hN:N0<=m) (e:kI live m (wk P w0 ar)=some (st 0 i0,cQ ar)):GW P r N0 Q w0:=by
 refine KT hm k ar live m (λz:Nat×agK α×ι=>st z.1 z.2.2) (λz=>L.drop z.1=z.2.1/\G z.2.1 z.1 z.2.2=some rr) (λz=>z.2.1.length) (0,L,i0) ⟨rfl,hI⟩ (λz hz f hf=> ?_) hN e;obtain⟨n,l,i⟩:=z;obtain⟨h1,h2⟩:=hz;cases l with
 |nil=>exact nil n i h1 h2 f
 |cons x l=>exact cons n x l i h1 h2 f ⟨hf⟩
theorem adW(hm:P.follows .mixedOrders=true){α ι R:Type}{rr:R}{live:agK Nat}{m k:Nat}{L:agK α}{st:Nat->ι->St}{G:agK α->Nat->ι->agM R}{n:Nat}{x:α}{l:agK α}{i:ι}{f:St->Prop}(hf:nK k live m L st G rr n x l i f)(j:ι)(ar:agK (agK (Nat×Ob P)))(hd:L.drop n=x::l)(hI:G l (n+1) j=some rr)(e1:fsOf k (wK w0)=[f])(e:mw k live m (wk P w0 ar)=some (st (n+1) j,cQ ar)):GW P r N0 Q w0:=
 Ku hm hf.h (n+1,l,j) ar ⟨pL hd,hI⟩ (agI _) e1 e
theorem Rf(hm:P.follows .mixedOrders=true){ι R:Type}{rr:R}(k:Nat)(ar:agK (agK (Nat×Ob P)))(live:agK Nat)(m:Nat)(st:ι->St)(G:Nat->ι->agM R)(d:Nat)(i0:ι)(hI:G d i0=some rr)(h0:∀i,G 0 i=none)
 (succ:∀d i,G (d+1) i=some rr->∀f:St->Prop,qm k live m st G rr d f->GW P r N0 Q (fj k f (st i) (wk P w0 ar)))
 (hN:N0<=m) (e:kI live m (wk P w0 ar)=some (st i0,cQ ar)):GW P r N0 Q w0:=by
 refine KT hm k ar live m (λz:Nat×ι=>st z.2) (λz=>G z.1 z.2=some rr) (λz=>z.1) (d,i0) hI (λz hz f hf=> ?_) hN e;obtain⟨d,i⟩:=z;cases d with
 |zero=>exact absurd ((h0 i).symm.trans hz) (by simp)
 |succ d=>exact succ d i hz f ⟨λj=>⟨λs' i' h1 h2 h3=>hf.h s' i' h1 h2 h3⟩⟩
theorem U4(hm:P.follows .mixedOrders=true){ι R:Type}{rr:R}{live:agK Nat}{m k:Nat}{st:ι->St}{G:Nat->ι->agM R}{d:Nat}{f:St->Prop}(hf:qm k live m st G rr d f)(j:ι)(ar:agK (agK (Nat×Ob P)))(hI:G d j=some rr)(e1:fsOf k (wK w0)=[f])(e:mw k live m (wk P w0 ar)=some (st j,cQ ar)):GW P r N0 Q w0:=
 Ku hm (hf.h j) (d,j) ar hI (agI _) e1 e
theorem FP{P:agN}{f:FuncId}{fn:Func}{args:agK J}{R:J}(hf:P.funcs[f]?=some fn)(hw:GW P none 0 (iM P fn R) (ug fn args []))(hb:fn.body.isSome=true:=by kernel_rfl)(hn:(fn.name== "runtime.NumGoroutine")=false:=by kernel_rfl):gj P f args (·=R):=TU hf hb hn hw
theorem YH{P:agN}{f:FuncId}{fn:Func}{args:agK J}{h H:agK aj}{R:J}(m:Nat)(hf:P.funcs[f]?=some fn)(hw:GW P none h.length (qJ P fn m R H) (ug fn args h))(hb:fn.body.isSome=true:=by kernel_rfl)(hn:(fn.name== "runtime.NumGoroutine")=false:=by kernel_rfl)(hm:h.length<=m:=by exact af3 rfl):b5 P f args h λr1 h1=>r1=R/\h1=H:=XX m hf hb hn hm hw
variable {α A B C D' R:Type} {rr:R}
theorem wl0(hm:P.follows .mixedOrders=true)(k:Nat)(ar:agK (agK (Nat×Ob P)))(live:agK Nat)(m:Nat)(L:agK α)(st:Nat->St)(G:agK α->Nat->agM R)(hI:G L 0=some rr)
 (nil:∀n,L.drop n=[]->G [] n=some rr->∀f:St->Prop,GW P r N0 Q (fj k f (st n) (wk P w0 ar)))
 (cons:∀n x l,L.drop n=x::l->G (x::l) n=some rr->∀f:St->Prop,nK k live m L (λn(_:Unit)=>st n) (λl n _=>G l n) rr n x l () f->GW P r N0 Q (fj k f (st n) (wk P w0 ar)))
 (hN:N0<=m:=by exact af3 rfl) (e:kI live m (wk P w0 ar)=some (st 0,cQ ar):=by kernel_rfl):GW P r N0 Q w0:=
 LY hm k ar live m L (λn(_:Unit)=>st n) (λl n _=>G l n) () hI (λn _=>nil n) (λn x l _=>cons n x l) hN e
theorem KB(hm:P.follows .mixedOrders=true)(k:Nat)(ar:agK (agK (Nat×Ob P)))(live:agK Nat)(m:Nat)(L:agK α)(st:Nat->A->St)(G:agK α->Nat->A->agM R)(a0:A)(hI:G L 0 a0=some rr)
 (nil:∀n a,L.drop n=[]->G [] n a=some rr->∀f:St->Prop,GW P r N0 Q (fj k f (st n a) (wk P w0 ar)))
 (cons:∀n x l a,L.drop n=x::l->G (x::l) n a=some rr->∀f:St->Prop,nK k live m L st G rr n x l a f->GW P r N0 Q (fj k f (st n a) (wk P w0 ar)))
 (hN:N0<=m:=by exact af3 rfl) (e:kI live m (wk P w0 ar)=some (st 0 a0,cQ ar):=by kernel_rfl):GW P r N0 Q w0:=
 LY hm k ar live m L st G a0 hI nil cons hN e
theorem Zs(hm:P.follows .mixedOrders=true)(k:Nat)(ar:agK (agK (Nat×Ob P)))(live:agK Nat)(m:Nat)(L:agK α)(st:Nat->A->B->St)(G:agK α->Nat->A->B->agM R)(a0:A)(b0:B)(hI:G L 0 a0 b0=some rr)
 (nil:∀n a b,L.drop n=[]->G [] n a b=some rr->∀f:St->Prop,GW P r N0 Q (fj k f (st n a b) (wk P w0 ar)))
 (cons:∀n x l a b,L.drop n=x::l->G (x::l) n a b=some rr->∀f:St->Prop,nK k live m L (λn(i:A×B)=>st n i.1 i.2) (λl n i=>G l n i.1 i.2) rr n x l (a,b) f->GW P r N0 Q (fj k f (st n a b) (wk P w0 ar)))
 (hN:N0<=m:=by exact af3 rfl) (e:kI live m (wk P w0 ar)=some (st 0 a0 b0,cQ ar):=by kernel_rfl):GW P r N0 Q w0:=
 LY hm k ar live m L (λn(i:A×B)=>st n i.1 i.2) (λl n i=>G l n i.1 i.2) (a0,b0) hI (λn i=>nil n i.1 i.2) (λn x l i=>cons n x l i.1 i.2) hN e
theorem wb(hm:P.follows .mixedOrders=true){ι:Type}{live:agK Nat}{m k:Nat}{L:agK α}{st:Nat->ι->St}{G:agK α->Nat->ι->agM R}{n:Nat}{x:α}{l:agK α}{i:ι}{f:St->Prop}(hf:nK k live m L st G rr n x l i f)(j:ι)(ar:agK (agK (Nat×Ob P)))(hd:L.drop n=x::l)(hI:G l (n+1) j=some rr)(e1:fsOf k (wK w0)=[f]:=by kernel_rfl)(e:mw k live m (wk P w0 ar)=some (st (n+1) j,cQ ar):=by kernel_rfl):GW P r N0 Q w0:=adW hm hf j ar hd hI e1 e
theorem wf1(hm:P.follows .mixedOrders=true)(k:Nat)(ar:agK (agK (Nat×Ob P)))(live:agK Nat)(m:Nat)(st:A->St)(G:Nat->A->agM R)(d:Nat)(a0:A)(hI:G d a0=some rr)
 (succ:∀d a,G (d+1) a=some rr->∀f:St->Prop,qm k live m st G rr d f->GW P r N0 Q (fj k f (st a) (wk P w0 ar))) (h0:∀a,G 0 a=none:=by intros;rfl)
 (hN:N0<=m:=by exact af3 rfl) (e:kI live m (wk P w0 ar)=some (st a0,cQ ar):=by kernel_rfl):GW P r N0 Q w0:=
 Rf hm k ar live m st G d a0 hI h0 succ hN e
theorem wf2(hm:P.follows .mixedOrders=true)(k:Nat)(ar:agK (agK (Nat×Ob P)))(live:agK Nat)(m:Nat)(st:A->B->St)(G:Nat->A->B->agM R)(d:Nat)(a0:A)(b0:B)(hI:G d a0 b0=some rr)
 (succ:∀d a b,G (d+1) a b=some rr->∀f:St->Prop,qm k live m (λ(i:A×B)=>st i.1 i.2) (λd i=>G d i.1 i.2) rr d f->GW P r N0 Q (fj k f (st a b) (wk P w0 ar))) (h0:∀a b,G 0 a b=none:=by intros;rfl)
 (hN:N0<=m:=by exact af3 rfl) (e:kI live m (wk P w0 ar)=some (st a0 b0,cQ ar):=by kernel_rfl):GW P r N0 Q w0:=
 Rf hm k ar live m (λ(i:A×B)=>st i.1 i.2) (λd i=>G d i.1 i.2) d (a0,b0) hI (λi=>h0 i.1 i.2) (λd i=>succ d i.1 i.2) hN e
theorem wbf(hm:P.follows .mixedOrders=true){ι:Type}{live:agK Nat}{m k:Nat}{st:ι->St}{G:Nat->ι->agM R}{d:Nat}{f:St->Prop}(hf:qm k live m st G rr d f)(j:ι)(ar:agK (agK (Nat×Ob P)))(hI:G d j=some rr)(e1:fsOf k (wK w0)=[f]:=by kernel_rfl)(e:mw k live m (wk P w0 ar)=some (st j,cQ ar):=by kernel_rfl):GW P r N0 Q w0:=U4 hm hf j ar hI e1 e
def vb(g:Nat)(t:agM Nat):agK Oper->Nat->agK Nat
 |[],_=>[]
 |o::l,j=>match o.guard with
  |some (g',_)=>bif g'==g then(3*j)::vb g t l (j+1)else vb g t l (j+1)
  |none=>match o.op,t with
   | .pick (.tmp c) _ _,some t'=>bif c==t' then(3*j+1)::vb g t l (j+1)else vb g t l (j+1)
   |_,_=>vb g t l (j+1)
def abC(l:agK Oper)(g:Nat):agM Nat:=match l[g]? with
 |some o=>o.dst
 |none=>none
def FL:WO->agK Oper
 |some (.at (.region _ ops _) _ _,_)=>ops.toList
 |_=>[]
noncomputable def Cj(ops:agK Oper)(sp si:agK (Nat×Ob P)):agK (Nat×Ob P):=so (sp.foldr (λx t=>os (vb x.1 (abC ops x.1) ops 0) x.2 t) si)
theorem MD(hm:P.follows .mixedOrders=true)(Δ:agK (Nat×J))(h':agK aj)(e:∃sp si:agK (Nat×Ob P),Cl P (Δ.map (·.1)) (jC (Cj (FL (wk P w0 [])) sp si)) (wk P w0 [])=some (Δ,h',jW (Cj (FL (wk P w0 [])) sp si)))(k:GW P r N0 Q (vp Δ h' (wk P w0 [])))(e0:rZ (wk P w0 [])=some []:=by kernel_rfl):GW P r N0 Q w0:=
 Vg hm Δ h' (let ⟨_,_,h⟩:=e;⟨_,h⟩) k e0
theorem wj0(hm:P.follows .mixedOrders=true)(rr:R)(k:Nat)(ar:agK (agK (Nat×Ob P)))(live:agK Nat)(m:Nat)(st:St)(G:agM R)
 (br:∀f:St->Prop,vg k live m (λ(_:Unit)=>st) (λ_=>G=some rr) f->GW P r N0 Q (u5 k f (wk P w0 ar)))
 (rest:G=some rr->GW P r N0 Q (wM st (wk P w0 ar))) (hN:N0<=m:=by exact af3 rfl) (e:qf (wk P w0 ar)=some (cQ ar):=by kernel_rfl):GW P r N0 Q w0:=
 My hm k ar live m (λ(_:Unit)=>st) (λ_=>G=some rr) br (λ_=>rest) hN e
theorem We(hm:P.follows .mixedOrders=true)(rr:R)(k:Nat)(ar:agK (agK (Nat×Ob P)))(live:agK Nat)(m:Nat)(st:A->St)(G:A->agM R)
 (br:∀f:St->Prop,vg k live m st (λa=>G a=some rr) f->GW P r N0 Q (u5 k f (wk P w0 ar)))
 (rest:∀a,G a=some rr->GW P r N0 Q (wM (st a) (wk P w0 ar))) (hN:N0<=m:=by exact af3 rfl) (e:qf (wk P w0 ar)=some (cQ ar):=by kernel_rfl):GW P r N0 Q w0:=
 My hm k ar live m st (λa=>G a=some rr) br rest hN e
def tr(i j n:Nat):Nat:=bif n==i then j else bif n==j then i else n
end
theorem dU:DL bD 1:=⟨λ_=>dI,λ_=>D9,λ_ _=>X4⟩
theorem acP:DL lP 1:=⟨λ_=>E2,λ_=>Uz,λ_ _=>Yk⟩
theorem ku:DL cw 2:=⟨λ_=>dO,λ_=>rD,λ_ _=>aaY⟩
theorem R8:DL kX 5:=⟨λ_=>Wv,λ_=>abl,λ_ _=>Vb⟩
theorem rB:DL ft 3:=⟨λ_=>jr,λ_=>Zw,λ_ _=>aff⟩
theorem j9:DL cV 2:=⟨λ_=>dC,λ_=>T4,λ_ _=>UL⟩
theorem ji:DL dD 3:=⟨λ_=>dW,λ_=>ae2,λ_ _=>Yv⟩
theorem OC:DL lX 1:=⟨λ_=>J5,λ_=>Z2,λ_ _=>XQ⟩
theorem lW:DL gq 7:=⟨λ_=>gv,λ_=>Un,λ_ _=>XH⟩
theorem jO:DL cE 4:=⟨λ_=>ee,λ_=>abt,λ_ _=>XK⟩
theorem jM:DL et 13:=⟨λ_=>eX,λ_=>WE,λ_ _=>abK⟩
theorem lT:DL eI 22:=⟨λ_=>fF,λ_=>H3,λ_ _=>acU⟩
abbrev KF(f:FuncId)(args:agK J)(R:J):Prop:=gj Tryz.prog f args (·=R)
abbrev KH(f:FuncId)(args:agK J)(h:agK aj)(R:J)(H:agK aj):Prop:=b5 Tryz.prog f args h λr1 h1=>r1=R/\h1=H
def KO{α:Type}(f:FuncId)(args:agK J)(en:α->J)(o:agM α):Prop:=∀r:α,o=some r->KF f args (en r)
def KP{α:Type}(f:FuncId)(args:agK J)(h:agK aj)(en:α->J)(eh:α->agK aj)(o:agM α):Prop:=∀r:α,o=some r->KH f args h (en r) (eh r)
def cK{α:Type}{f:FuncId}{args:agK J}{en:α->J}{o:agM α}{r:α}(k:KO f args en o)(h:o=some r):Ob Tryz.prog:=cL (k r h)
def IE{α:Type}(o:agM α)(G:α->Prop):Prop:=∀v,o=some v->G v
section
variable {α β:Type} {x:agM α} {G:α->Prop}
theorem aq{x:agM β}{f:β->agM α}(k:∀a,x=some a->IE (f a) G):IE (Option.bind x f) G:=λv h=>
 have ⟨a,h1,h2⟩:=gL h
 k a h1 v h2
theorem bq{c:Bool}(k:c=true->IE x G):IE (bif c then x else none) G:=λv h=>
 have ⟨h1,h2⟩:=wC h
 k h1 v h2
theorem au{c:Bool}{a b:agM α}(t:c=true->IE a G)(f:c=false->IE b G):IE (bif c then a else b) G:=λv h=>bc h (λi j=>t i v j) λi j=>f i v j
theorem gE{α β γ:Type}{Φ:α->β->γ->Prop}{x:γ}(a:α)(b:β)(k:Φ a b x:=by kernel_rfl):IE (some x) λy=>∃a b,Φ a b y:=λv h=>sj h▸⟨a,b,k⟩
theorem bS{α β γ:Type}{Φ:α->agK β->γ->Prop}{o:agM γ}(x:β)(k:IE o λy=>∃a b,Φ a (x::b) y):IE o λy=>∃a b,Φ a b y:=λv h=>
 have ⟨a,b,c⟩:=k v h
 ⟨a,x::b,c⟩
theorem bt{α β γ:Type}{Φ:agK α->β->γ->Prop}{o:agM γ}(x:α)(k:IE o λy=>∃a b,Φ (x::a) b y):IE o λy=>∃a b,Φ a b y:=λv h=>
 have ⟨a,b,c⟩:=k v h
 ⟨x::a,b,c⟩
end
section
variable {α β:Type} {o:agM α} {x y:α} {r:agM Nat} {N0:Nat} {Q:α->Exit->St->Prop} {w0:WO}
theorem gA(ar:agK (agK (Nat×Ob Tryz.prog)))(k:IE o λq=>q=y->GW Tryz.prog r N0 (Q q) (wk Tryz.prog w0 ar))(e:rZ (wk Tryz.prog w0 ar)=some (cQ ar):=by kernel_rfl):IE o λq=>q=y->GW Tryz.prog r N0 (Q q) w0:=λv h q=>uh dG ar (k v h q) e
theorem gR{en:α->J}{fn:Func}(ar:agK (agK (Nat×Ob Tryz.prog)))(e:oe Tryz.prog fn.results.toList (wk Tryz.prog w0 ar)=some (en x,cQ ar):=by kernel_rfl):IE (some x) λq=>q=y->GW Tryz.prog r N0 (iM Tryz.prog fn (en q)) w0:=λv h _=>sj h▸wr dG ar e
theorem gH{en:α->J}{eh:α->agK aj}{fn:Func}{m:Nat}(ar:agK (agK (Nat×Ob Tryz.prog)))(e:F1 Tryz.prog fn.results.toList m (wk Tryz.prog w0 ar)=some ((en x,eh x),cQ ar):=by kernel_rfl):IE (some x) λq=>q=y->GW Tryz.prog r N0 (qJ Tryz.prog fn m (en q) (eh q)) w0:=λv h _=>sj h▸wrH dG ar e
theorem gG{x:agM β}{f:β->agM α}(Δ:β->agK (Nat×J))(h':β->agK aj)(e:IE x λv=>∃sp si:agK (Nat×Ob Tryz.prog),Cl Tryz.prog ((Δ v).map (·.1)) (jC (Cj (FL (wk Tryz.prog w0 [])) sp si)) (wk Tryz.prog w0 [])=some (Δ v,h' v,jW (Cj (FL (wk Tryz.prog w0 [])) sp si)))(k:∀v,IE (f v) λq=>q=y->GW Tryz.prog r N0 (Q q) (vp (Δ v) (h' v) (wk Tryz.prog w0 [])))(e0:rZ (wk Tryz.prog w0 [])=some []:=by kernel_rfl):IE (Option.bind x f) λq=>q=y->GW Tryz.prog r N0 (Q q) w0:=λv h q=>
 have ⟨a,h1,h2⟩:=gL h
 MD dG (Δ a) (h' a) (e a h1) (k a v h2 q) e0
theorem bJ{c:Bool}{b:agM α}{en:α->J}{fn:Func}(f:c=false->IE b λq=>q=y->GW Tryz.prog r N0 (iM Tryz.prog fn (en q)) w0)(e:∀h:c=true,oe Tryz.prog fn.results.toList (wk Tryz.prog w0 [[(0,bT h)],[]])=some (en x,cQ (P:=Tryz.prog) [[(0,bT h)],[]]):=by intro h;kernel_rfl):IE (bif c then some x else b) λq=>q=y->GW Tryz.prog r N0 (iM Tryz.prog fn (en q)) w0:=au (λh=>gR [[(0,bT h)],[]] (e h)) (f)
theorem Jf{c:Bool}{b:agM α}{en:α->J}{fn:Func}(f:c=false->IE b λq=>q=y->GW Tryz.prog r N0 (iM Tryz.prog fn (en q)) w0)(e:∀h:c=true,oe Tryz.prog fn.results.toList (wk Tryz.prog w0 [[(0,bF (b9 h))],[]])=some (en x,cQ (P:=Tryz.prog) [[(0,bF (b9 h))],[]]):=by intro h;kernel_rfl):IE (bif c then some x else b) λq=>q=y->GW Tryz.prog r N0 (iM Tryz.prog fn (en q)) w0:=au (λh=>gR [[(0,bF (b9 h))],[]] (e h)) (f)
theorem kO{c:Bool}{b:agM α}{en:α->J}{fn:Func}(f:c=true->IE b λq=>q=y->GW Tryz.prog r N0 (iM Tryz.prog fn (en q)) w0)(e:∀h:c=false,oe Tryz.prog fn.results.toList (wk Tryz.prog w0 [[(0,bF h)],[]])=some (en x,cQ (P:=Tryz.prog) [[(0,bF h)],[]]):=by intro h;kernel_rfl):IE (bif c then b else some x) λq=>q=y->GW Tryz.prog r N0 (iM Tryz.prog fn (en q)) w0:=au (f) (λh=>gR [[(0,bF h)],[]] (e h))
theorem eJ{c:Bool}{b:agM α}{en:α->J}{fn:Func}(f:c=true->IE b λq=>q=y->GW Tryz.prog r N0 (iM Tryz.prog fn (en q)) w0)(e:∀h:c=false,oe Tryz.prog fn.results.toList (wk Tryz.prog w0 [[(0,bT (dm h))],[]])=some (en x,cQ (P:=Tryz.prog) [[(0,bT (dm h))],[]]):=by intro h;kernel_rfl):IE (bif c then b else some x) λq=>q=y->GW Tryz.prog r N0 (iM Tryz.prog fn (en q)) w0:=au (f) (λh=>gR [[(0,bT (dm h))],[]] (e h))
theorem fW{c:Bool}{b:agM α}{en:α->J}{fn:Func}(f:∀h:c=false,IE b λq=>q=y->GW Tryz.prog r N0 (iM Tryz.prog fn (en q)) (wk Tryz.prog w0 [[(0,bF h)],[]]))(e:∀h:c=true,oe Tryz.prog fn.results.toList (wk Tryz.prog w0 [[(0,bT h)],[]])=some (en x,cQ (P:=Tryz.prog) [[(0,bT h)],[]]):=by intro h;kernel_rfl)(e2:∀h:c=false,rZ (wk Tryz.prog w0 [[(0,bF h)],[]])=some (cQ (P:=Tryz.prog) [[(0,bF h)],[]]):=by intro h;kernel_rfl):IE (bif c then some x else b) λq=>q=y->GW Tryz.prog r N0 (iM Tryz.prog fn (en q)) w0:=au (λh=>gR [[(0,bT h)],[]] (e h)) (λh=>gA [[(0,bF h)],[]] (f h) (e2 h))
def t0{c:Bool}(h:c=true):Nat×Ob Tryz.prog:=(0,bT h)
def f0{c:Bool}(h:c=false):Nat×Ob Tryz.prog:=(0,bF h)
theorem li{w1:WO}(f:∀q,GW Tryz.prog r N0 (Q q) w1->GW Tryz.prog r N0 (Q q) w0)(k:IE o λq=>q=y->GW Tryz.prog r N0 (Q q) w1):IE o λq=>q=y->GW Tryz.prog r N0 (Q q) w0:=λv h q=>f v (k v h q)
theorem HC{w1:WO}{p:Prop}(f:∀q,(p->GW Tryz.prog r N0 (Q q) w1)->GW Tryz.prog r N0 (Q q) w0)(k:p->IE o λq=>q=y->GW Tryz.prog r N0 (Q q) w1):IE o λq=>q=y->GW Tryz.prog r N0 (Q q) w0:=λv h q=>f v λa=>k a v h q
theorem gT{β:Type}{f:agK β->agK (agK D)}{z:Nat}(F:DL f z)(k:Nat)(l:agK β)(h:l.length<=maxLen->IE o λq=>q=y->GW Tryz.prog r N0 (Q q) w0)(hx:(aQ (wS w0).t k).ep=some (f l):=by kernel_rfl):IE o λq=>q=y->GW Tryz.prog r N0 (Q q) w0:=λv h2 q=>Cm F k l (λa=>h a v h2 q) hx
theorem gB{β:Type}{f:agK β->agK (agK D)}{z:Nat}(F:DL f z)(b i:Nat)(l:agK β)(h:l.length<=maxLen->IE o λq=>q=y->GW Tryz.prog r N0 (Q q) w0)(hx:(((wS w0).h[b]?).bind λB=>match B with| .cells cs=>(cs[i]?).bind J.ep|_=>none)=some (f l):=by kernel_rfl):IE o λq=>q=y->GW Tryz.prog r N0 (Q q) w0:=λv h2 q=>Ym F b i l (λa=>h a v h2 q) hx
theorem fw{f:FuncId}{fn:Func}{args:agK J}{en:α->J}(hf:Tryz.prog.funcs[f]?=some fn)(hw:∀{y},IE o λq=>q=y->GW Tryz.prog none 0 (iM Tryz.prog fn (en q)) (ug fn args []))(hb:fn.body.isSome=true:=by kernel_rfl)(hn:(fn.name== "runtime.NumGoroutine")=false:=by kernel_rfl):KO f args en o:=λr h=>FP hf (hw r h rfl) hb hn
theorem fh{f:FuncId}{fn:Func}{args:agK J}{h:agK aj}{en:α->J}{eh:α->agK aj}(m:Nat)(hf:Tryz.prog.funcs[f]?=some fn)(hw:∀{y},IE o λq=>q=y->GW Tryz.prog none h.length (qJ Tryz.prog fn m (en q) (eh q)) (ug fn args h))(hb:fn.body.isSome=true:=by kernel_rfl)(hn:(fn.name== "runtime.NumGoroutine")=false:=by kernel_rfl)(hm:h.length<=m:=by exact af3 rfl):KP f args h en eh o:=λr q=>YH m hf (hw r q rfl) hb hn hm
end
section
variable {α A B C D' R:Type} {rr:R} {r:agM Nat} {N0:Nat} {Q:R->Exit->St->Prop} {w0:WO}
theorem dc(k:Nat)(ar:agK (agK (Nat×Ob Tryz.prog)))(live:agK Nat)(m:Nat){L:agK α}(st:Nat->St){G:agK α->Nat->agM R}
 (nil:∀n,L.drop n=[]->∀f:St->Prop,IE (G [] n) λq=>q=rr->GW Tryz.prog r N0 (Q q) (fj k f (st n) (wk Tryz.prog w0 ar)))
 (cons:∀n x l,L.drop n=x::l->∀f:St->Prop,nK k live m L (λn(_:Unit)=>st n) (λl n _=>G l n) rr n x l () f->IE (G (x::l) n) λq=>q=rr->GW Tryz.prog r N0 (Q q) (fj k f (st n) (wk Tryz.prog w0 ar)))
 (hN:N0<=m:=by exact af3 rfl) (e:kI live m (wk Tryz.prog w0 ar)=some (st 0,cQ ar):=by kernel_rfl):IE (G L 0) λq=>q=rr->GW Tryz.prog r N0 (Q q) w0:=λv h q=>
 wl0 dG k ar live m L st G (q▸h) (λn a2 b2 f=>q▸nil n a2 f rr b2 rfl) (λn x l a2 b2 f c2=>q▸cons n x l a2 f c2 rr b2 rfl) hN e
theorem eY(k:Nat)(ar:agK (agK (Nat×Ob Tryz.prog)))(live:agK Nat)(m:Nat){L:agK α}(st:Nat->A->St){G:agK α->Nat->A->agM R}{a0:A}
 (nil:∀n a,L.drop n=[]->∀f:St->Prop,IE (G [] n a) λq=>q=rr->GW Tryz.prog r N0 (Q q) (fj k f (st n a) (wk Tryz.prog w0 ar)))
 (cons:∀n x l a,L.drop n=x::l->∀f:St->Prop,nK k live m L st G rr n x l a f->IE (G (x::l) n a) λq=>q=rr->GW Tryz.prog r N0 (Q q) (fj k f (st n a) (wk Tryz.prog w0 ar)))
 (hN:N0<=m:=by exact af3 rfl) (e:kI live m (wk Tryz.prog w0 ar)=some (st 0 a0,cQ ar):=by kernel_rfl):IE (G L 0 a0) λq=>q=rr->GW Tryz.prog r N0 (Q q) w0:=λv h q=>
 KB dG k ar live m L st G a0 (q▸h) (λn a1 a2 b2 f=>q▸nil n a1 a2 f rr b2 rfl) (λn x l a1 a2 b2 f c2=>q▸cons n x l a1 a2 f c2 rr b2 rfl) hN e
theorem FQ(k:Nat)(ar:agK (agK (Nat×Ob Tryz.prog)))(live:agK Nat)(m:Nat){L:agK α}(st:Nat->A->B->St){G:agK α->Nat->A->B->agM R}{a0:A}{b0:B}
 (nil:∀n a b,L.drop n=[]->∀f:St->Prop,IE (G [] n a b) λq=>q=rr->GW Tryz.prog r N0 (Q q) (fj k f (st n a b) (wk Tryz.prog w0 ar)))
 (cons:∀n x l a b,L.drop n=x::l->∀f:St->Prop,nK k live m L (λn(i:A×B)=>st n i.1 i.2) (λl n i=>G l n i.1 i.2) rr n x l (a,b) f->IE (G (x::l) n a b) λq=>q=rr->GW Tryz.prog r N0 (Q q) (fj k f (st n a b) (wk Tryz.prog w0 ar)))
 (hN:N0<=m:=by exact af3 rfl) (e:kI live m (wk Tryz.prog w0 ar)=some (st 0 a0 b0,cQ ar):=by kernel_rfl):IE (G L 0 a0 b0) λq=>q=rr->GW Tryz.prog r N0 (Q q) w0:=λv h q=>
 Zs dG k ar live m L st G a0 b0 (q▸h) (λn a1 b1 a2 b2 f=>q▸nil n a1 b1 a2 f rr b2 rfl) (λn x l a1 b1 a2 b2 f c2=>q▸cons n x l a1 b1 a2 f c2 rr b2 rfl) hN e
theorem gb{ι:Type}{live:agK Nat}{m k:Nat}{L:agK α}{st:Nat->ι->St}{G:agK α->Nat->ι->agM R}{n:Nat}{x:α}{l:agK α}{i:ι}{f:St->Prop}(hf:nK k live m L st G rr n x l i f)(j:ι)(ar:agK (agK (Nat×Ob Tryz.prog)))(hd:L.drop n=x::l)(e1:fsOf k (wK w0)=[f]:=by kernel_rfl)(e:mw k live m (wk Tryz.prog w0 ar)=some (st (n+1) j,cQ ar):=by kernel_rfl):IE (G l (n+1) j) λq=>q=rr->GW Tryz.prog r N0 (Q q) w0:=λv h q=>wb dG hf j ar hd (q▸h) e1 e
theorem BY(k:Nat)(ar:agK (agK (Nat×Ob Tryz.prog)))(live:agK Nat)(m:Nat)(st:A->St)(G:Nat->A->agM R){d:Nat}{a0:A}
 (succ:∀d a,∀f:St->Prop,qm k live m st G rr d f->IE (G (d+1) a) λq=>q=rr->GW Tryz.prog r N0 (Q q) (fj k f (st a) (wk Tryz.prog w0 ar))) (h0:∀a,G 0 a=none:=by intros;rfl)
 (hN:N0<=m:=by exact af3 rfl) (e:kI live m (wk Tryz.prog w0 ar)=some (st a0,cQ ar):=by kernel_rfl):IE (G d a0) λq=>q=rr->GW Tryz.prog r N0 (Q q) w0:=λv h q=>wf1 dG k ar live m st G d a0 (q▸h) (λd a1 b2 f c2=>q▸succ d a1 f c2 rr b2 rfl) h0 hN e
theorem DS(k:Nat)(ar:agK (agK (Nat×Ob Tryz.prog)))(live:agK Nat)(m:Nat)(st:A->B->St)(G:Nat->A->B->agM R){d:Nat}{a0:A}{b0:B}
 (succ:∀d a b,∀f:St->Prop,qm k live m (λ(i:A×B)=>st i.1 i.2) (λd i=>G d i.1 i.2) rr d f->IE (G (d+1) a b) λq=>q=rr->GW Tryz.prog r N0 (Q q) (fj k f (st a b) (wk Tryz.prog w0 ar))) (h0:∀a b,G 0 a b=none:=by intros;rfl)
 (hN:N0<=m:=by exact af3 rfl) (e:kI live m (wk Tryz.prog w0 ar)=some (st a0 b0,cQ ar):=by kernel_rfl):IE (G d a0 b0) λq=>q=rr->GW Tryz.prog r N0 (Q q) w0:=λv h q=>wf2 dG k ar live m st G d a0 b0 (q▸h) (λd a1 b1 b2 f c2=>q▸succ d a1 b1 f c2 rr b2 rfl) h0 hN e
theorem qn{ι:Type}{live:agK Nat}{m k:Nat}{st:ι->St}{G:Nat->ι->agM R}{d:Nat}{f:St->Prop}(hf:qm k live m st G rr d f)(j:ι)(ar:agK (agK (Nat×Ob Tryz.prog)))(e1:fsOf k (wK w0)=[f]:=by kernel_rfl)(e:mw k live m (wk Tryz.prog w0 ar)=some (st j,cQ ar):=by kernel_rfl):IE (G d j) λq=>q=rr->GW Tryz.prog r N0 (Q q) w0:=λv h q=>wbf dG hf j ar (q▸h) e1 e
theorem l7{o:agM R}(k:Nat)(ar:agK (agK (Nat×Ob Tryz.prog)))(live:agK Nat)(m:Nat)(st:A->St)(G:A->agM R)
 (br:∀f:St->Prop,vg k live m st (λa=>G a=some rr) f->IE o λq=>q=rr->GW Tryz.prog r N0 (Q q) (u5 k f (wk Tryz.prog w0 ar)))
 (rest:∀a,IE (G a) λq=>q=rr->GW Tryz.prog r N0 (Q q) (wM (st a) (wk Tryz.prog w0 ar))) (hN:N0<=m:=by exact af3 rfl) (e:qf (wk Tryz.prog w0 ar)=some (cQ ar):=by kernel_rfl):IE o λq=>q=rr->GW Tryz.prog r N0 (Q q) w0:=λv h q=>We dG rr k ar live m st G (λf a=>br f a v h q) (λa1 b2=>q▸rest a1 rr b2 rfl) hN e
theorem gm{ι:Type}{live:agK Nat}{m k:Nat}{st:ι->St}{G:ι->agM R}{f:St->Prop}(hf:vg k live m st (λi=>G i=some rr) f)(i:ι)(ar:agK (agK (Nat×Ob Tryz.prog)))(e1:fsOf k (wK w0)=[f]:=by kernel_rfl)(e:mw k live m (wk Tryz.prog w0 ar)=some (st i,cQ ar):=by kernel_rfl):IE (G i) λq=>q=rr->GW Tryz.prog r N0 (Q q) w0:=λv h q=>S7 dG hf i ar (q▸h) e1 e
structure BX{α ι R:Type}(k:Nat)(live:List Nat)(m:Nat)(ks:List Nat)(kn:List (Nat×Nat))(L:List α)(st:Nat->ι->St)(G:List α->Nat->ι->Option R)(rr:R)(n:Nat)(x:α)(l:List α)(i:ι)(f:St->Prop):Prop where
 h:Iz k live m ks kn (λz:Nat×List α×ι=>st z.1 z.2.2) (λz=>L.drop z.1=z.2.1/\G z.2.1 z.1 z.2.2=some rr) (λz=>z.2.1.length) (n,x::l,i) f
theorem hJ(k:Nat)(ar:agK (agK (Nat×Ob Tryz.prog)))(live:agK Nat)(m:Nat)(ks:agK Nat)(kn:agK (Nat×Nat)){L:agK α}(st:Nat->A->St){G:agK α->Nat->A->agM R}{a0:A}
 (nil:∀n a,L.drop n=[]->∀f:St->Prop,IE (G [] n a) λq=>q=rr->GW Tryz.prog r N0 (Q q) (fj k f (st n a) (wk Tryz.prog w0 ar)))
 (cons:∀n x l a,L.drop n=x::l->∀f:St->Prop,BX k live m ks kn L st G rr n x l a f->IE (G (x::l) n a) λq=>q=rr->GW Tryz.prog r N0 (Q q) (fj k f (st n a) (wk Tryz.prog w0 ar)))
 (hN:N0<=m:=by exact af3 rfl) (e8:agK (VE m):=[]) (e0:rp m (wk Tryz.prog w0 ar)=e8.map VE.x:=by kernel_rfl) (e:zJ live m ks kn (wk Tryz.prog w0 ar)=some (st 0 a0,cQ ar):=by kernel_rfl):IE (G L 0 a0) λq=>q=rr->GW Tryz.prog r N0 (Q q) w0:=λv h q=>
 abg dG k ar live m ks kn (λz:Nat×agK α×A=>st z.1 z.2.2) (λz=>L.drop z.1=z.2.1/\G z.2.1 z.1 z.2.2=some rr) (λz=>z.2.1.length) (0,L,a0) ⟨rfl,q▸h⟩ (λz hz f hf=>by
  obtain⟨n,l,i⟩:=z;obtain⟨h1,h2⟩:=hz;rw[q];cases l with
  |nil=>exact nil n i h1 f rr h2 rfl
  |cons x l=>exact cons n x l i h1 f ⟨hf⟩ rr h2 rfl) hN e8 e0 e
theorem ZG(k:Nat)(ar:agK (agK (Nat×Ob Tryz.prog)))(live:agK Nat)(m:Nat)(ks:agK Nat)(kn:agK (Nat×Nat)){L:agK α}(st:Nat->St){G:agK α->Nat->agM R}
 (nil:∀n,L.drop n=[]->∀f:St->Prop,IE (G [] n) λq=>q=rr->GW Tryz.prog r N0 (Q q) (fj k f (st n) (wk Tryz.prog w0 ar)))
 (cons:∀n x l,L.drop n=x::l->∀f:St->Prop,BX k live m ks kn L (λn(_:Unit)=>st n) (λl n _=>G l n) rr n x l () f->IE (G (x::l) n) λq=>q=rr->GW Tryz.prog r N0 (Q q) (fj k f (st n) (wk Tryz.prog w0 ar)))
 (hN:N0<=m:=by exact af3 rfl) (e8:agK (VE m):=[]) (e0:rp m (wk Tryz.prog w0 ar)=e8.map VE.x:=by kernel_rfl) (e:zJ live m ks kn (wk Tryz.prog w0 ar)=some (st 0,cQ ar):=by kernel_rfl):IE (G L 0) λq=>q=rr->GW Tryz.prog r N0 (Q q) w0:=
 hJ k ar live m ks kn (λn(_:Unit)=>st n) (G:=(λl n _=>G l n)) (a0:=()) (λn i=>nil n) (λn x l i=>cons n x l) hN e8 e0 e
theorem Z4(k:Nat)(ar:agK (agK (Nat×Ob Tryz.prog)))(live:agK Nat)(m:Nat)(ks:agK Nat)(kn:agK (Nat×Nat)){L:agK α}(st:Nat->A->B->St){G:agK α->Nat->A->B->agM R}{a0:A}{b0:B}
 (nil:∀n a b,L.drop n=[]->∀f:St->Prop,IE (G [] n a b) λq=>q=rr->GW Tryz.prog r N0 (Q q) (fj k f (st n a b) (wk Tryz.prog w0 ar)))
 (cons:∀n x l a b,L.drop n=x::l->∀f:St->Prop,BX k live m ks kn L (λn(i:A×B)=>st n i.1 i.2) (λl n i=>G l n i.1 i.2) rr n x l (a,b) f->IE (G (x::l) n a b) λq=>q=rr->GW Tryz.prog r N0 (Q q) (fj k f (st n a b) (wk Tryz.prog w0 ar)))
 (hN:N0<=m:=by exact af3 rfl) (e8:agK (VE m):=[]) (e0:rp m (wk Tryz.prog w0 ar)=e8.map VE.x:=by kernel_rfl) (e:zJ live m ks kn (wk Tryz.prog w0 ar)=some (st 0 a0 b0,cQ ar):=by kernel_rfl):IE (G L 0 a0 b0) λq=>q=rr->GW Tryz.prog r N0 (Q q) w0:=
 hJ k ar live m ks kn (λn(i:A×B)=>st n i.1 i.2) (G:=(λl n i=>G l n i.1 i.2)) (a0:=(a0,b0)) (λn i=>nil n i.1 i.2) (λn x l i=>cons n x l i.1 i.2) hN e8 e0 e
theorem gS{ι:Type}{live:agK Nat}{m k:Nat}{ks:agK Nat}{kn:agK (Nat×Nat)}{L:agK α}{st:Nat->ι->St}{G:agK α->Nat->ι->agM R}{n:Nat}{x:α}{l:agK α}{i:ι}{f:St->Prop}(hf:BX k live m ks kn L st G rr n x l i f)(j:ι)(ar:agK (agK (Nat×Ob Tryz.prog)))(hd:L.drop n=x::l)(e1:fsOf k (wK w0)=[f]:=by kernel_rfl)(e8:agK (VE m):=[])(e0:rp m (wk Tryz.prog w0 ar)=e8.map VE.x:=by kernel_rfl)(e:vI k live m ks kn (wk Tryz.prog w0 ar)=some (st (n+1) j,cQ ar):=by kernel_rfl):IE (G l (n+1) j) λq=>q=rr->GW Tryz.prog r N0 (Q q) w0:=λv h q=>
 aex dG hf.h (n+1,l,j) ar ⟨pL hd,q▸h⟩ (agI _) e1 e8 e0 e
theorem YF{o:agM R}(k:Nat)(ar:agK (agK (Nat×Ob Tryz.prog)))(live:agK Nat)(m:Nat)(ks:agK Nat)(kn:agK (Nat×Nat))(st:A->St)(G:A->agM R)
 (br:∀f:St->Prop,FJ k live m ks kn st (λi=>G i=some rr) f->IE o λq=>q=rr->GW Tryz.prog r N0 (Q q) (u5 k f (wk Tryz.prog w0 ar)))
 (rest:∀a,IE (G a) λq=>q=rr->GW Tryz.prog r N0 (Q q) (wM (st a) (wk Tryz.prog w0 ar))) (hN:N0<=m:=by exact af3 rfl) (e:qf (wk Tryz.prog w0 ar)=some (cQ ar):=by kernel_rfl):IE o λq=>q=rr->GW Tryz.prog r N0 (Q q) w0:=λv h q=>
 Zq dG k ar live m ks kn st (λi=>G i=some rr) (λf a=>br f a v h q) (λi hi=>q▸rest i rr hi rfl) hN e
theorem MC{ι:Type}{live:agK Nat}{m k:Nat}{ks:agK Nat}{kn:agK (Nat×Nat)}{st:ι->St}{G:ι->agM R}{f:St->Prop}(hf:FJ k live m ks kn st (λi=>G i=some rr) f)(i:ι)(ar:agK (agK (Nat×Ob Tryz.prog)))(e1:fsOf k (wK w0)=[f]:=by kernel_rfl)(e8:agK (VE m):=[])(e0:rp m (wk Tryz.prog w0 ar)=e8.map VE.x:=by kernel_rfl)(e:vI k live m ks kn (wk Tryz.prog w0 ar)=some (st i,cQ ar):=by kernel_rfl):IE (G i) λq=>q=rr->GW Tryz.prog r N0 (Q q) w0:=λv h q=>
 afm dG hf i ar (q▸h) e8 e0 e1 e
end
set_option maxRecDepth 100000
def BG:Code->Code
 | .seq x _=>x
 |_=> .skip
def pM:Code->Code
 | .seq _ y=>y
 |_=> .skip
def Bn:Code->Code
 | .block _ c=>c
 | .loop c=>c
 |_=> .skip
def DC:Code->agK Oper
 | .region _ ops _=>ops.toList
 |_=>[]
noncomputable def Q0:Code:=BG (pM (pM (Tryz.f24.body.getD .skip)))
noncomputable def mu:agK Oper:=DC (BG Q0)
noncomputable def SI:Code:=Bn (Bn (pM Q0))
noncomputable def oD:agK Oper:=DC (BG SI)
noncomputable def OD:Code:=Bn (pM (pM SI))
noncomputable def sf:agK Oper:=DC (BG OD)
noncomputable def Jg:agK Oper:=DC (pM OD)
noncomputable def w5:Code:= .loop (.seq (.region 3 oD.toArray false) (.seq (.cond (.tmp 18) .skip (.exit 0)) (.block 1 (.seq (.region 4 sf.toArray false) (.region 5 Jg.toArray false)))))
noncomputable def AX:Oper:=mu.getD 2 default
noncomputable def yq:Oper:=oD.getD 0 default
noncomputable def AZ:Oper:=sf.getD 0 default
theorem W1:mu=mu.take 2++[AX]:=by kernel_rfl
theorem VL:oD=yq::oD.drop 1:=by kernel_rfl
theorem abZ:sf=AZ::sf.drop 1:=by kernel_rfl
def Z3:agK J:=[(bu (bs [])),(an (0:Int)),(an (0:Int)),(an (0:Int)),(an (0:Int)),(an (0:Int)),(.d (.sl [])),(.d (.sl [])),(an (0:Int)),(an (0:Int)),(bu (bs [])),(cD (0:Int64)),(cD (0:Int64)),(an (0:Int)),(an (0:Int)),(an (0:Int)),(an (0:Int)),(an (0:Int)),(cD (0:Int64)),(.d (.sl [])),(.d (.sl [])),(.d (.sl []))]
def wP(v1:aT)(v3:agK (agL×agL))(B0 B5:aj)(l:agK aj):agK aj:=B0:: .map (aZ v3):: .cells (ej v1).cells:: .cells [(.mp 0),(.mp 1)]:: .cells Z3::B5:: .cells [(.mp 5),(.mp 1)]::l
def wu(l:agK (Nat×J)):agK (Nat×J):=(2, .ptr 2 0)::(3, .ptr 3 0)::(4, .ptr 4 0)::(5, .ptr 6 0)::l
def Bp(v1:aT)(v3 e:agK (agL×agL))(i:agK Nat×agK (agL×agL)):St:=⟨62,wu [(16, .ptr 7 0)],wP v1 v3 (.eE (aZ e)) (.map (aZ i.2)) [.it ((aZ e).length,i.1) [.mp 0]]⟩
def Iw(v1:aT)(v3 e:agK (agL×agL))(i:agK Nat×agK (agL×agL)):St:=⟨62,(18,aJ false)::(17, .bp [aJ false])::wu [(16, .ptr 7 0)],wP v1 v3 (.eE (aZ e)) (.map (aZ i.2)) [.it ((aZ e).length,i.1) [.mp 0]]⟩
theorem DK:yq.op= .next (.tmp 16) false/\yq.guard=none/\yq.dst=some 17:=by refine⟨?_,?_,?_⟩<;>kernel_rfl
theorem JX:AZ.op= .entry (.tmp 16)/\AZ.guard=none/\AZ.dst=some 19:=by refine⟨?_,?_,?_⟩<;>kernel_rfl
theorem HU:AX.op= .range 76 (.tmp 15)/\AX.guard=none/\AX.dst=some 16:=by refine⟨?_,?_,?_⟩<;>kernel_rfl
theorem adX{e:agK (agL×agL)}{b:Nat}{p:agL×D}(h:(aZ e)[b]?=some p):∃q,e[b]?=some q/\p=(q.1, .v (.string q.2)):=by
 unfold aZ at h;rw[af2]at h;cases hq:e[b]? with
 |none=>rw[hq]at h;cases h
 |some q=>rw[hq]at h;cases h;exact⟨q,rfl,rfl⟩
section
variable {r:agM Nat} {N0:Nat}
theorem aaT(v1:aT)(v3 e:agK (agL×agL))(seen:agK Nat)(kN:agK (agL×agL))(hr:∀b q,e[b]?=some q->b ∉ seen->(aZ kN).length<maxLen){Q:Exit->St->Prop}
 (hq:∀b q s1,e[b]?=some q->b ∉ seen->gr s1 [2,3,4,5,16] 8=some (Bp v1 v3 e (seen++[b],q::kN))->Q .normal s1)
 (hx:(∀b,b<(aZ e).length->b∈seen)->∀K,aX Tryz.prog r N0 (.exit 0) (fA K Q) (Iw v1 v3 e (seen,kN))):
 aX Tryz.prog r N0 (Bn w5) Q (Bp v1 v3 e (seen,kN)):=by
 show aX Tryz.prog r N0 (.seq (.region 3 oD.toArray false) (.seq (.cond (.tmp 18) .skip (.exit 0)) (.block 1 (.seq (.region 4 sf.toArray false) (.region 5 Jg.toArray false))))) Q _;refine bA (er ?_);rw[show(oD.toArray).toList=yq::oD.drop 1 from VL];refine Nw DK.2.1 ?_;unfold rC;rw[DK.1];refine⟨rfl,λb p hb hs=> ?_,λdw=> ?_⟩
 ·obtain⟨q,dZ,rfl⟩:=adX hb;rw[DK.2.2];refine DB (s1:=⟨62,(18,aJ true)::(17, .bp [aJ true,bu q.1,bu q.2])::wu [(16, .ptr 7 0)],wP v1 v3 (.eE (aZ e)) (.map (aZ kN)) [.it ((aZ e).length,seen++[b]) [.mp 0]]⟩) (oD.drop 1) 1 [] (ps:=[]) (by kernel_rfl) (λ_ h=>by cases h) ?_;refine bA (xc (t:=true) rfl (λ_=>gQ ?_) λh=>by cases h);refine iS (bA (er ?_));rw[show(sf.toArray).toList=AZ::sf.drop 1 from abZ];refine Nw JX.2.1 ?_;unfold rC;rw[JX.1];refine⟨rfl,seen,b,_,rfl,hb,?_⟩;rw[JX.2.2];refine DB (s1:=⟨62,(7,bu q.2)::(6,bu q.1)::(21,bu q.2)::(20,bu q.1)::(19, .bp [bu q.1,bu q.2])::(18,aJ true)::(17, .bp [aJ true,bu q.1,bu q.2])::wu [(16, .ptr 7 0)],wP v1 v3 (.eE (aZ e)) (.map (aZ kN)) [.it ((aZ e).length,seen++[b]) [.mp 0]]⟩) (sf.drop 1) 1 [] (ps:=[]) (by kernel_rfl) (λ_ h=>by cases h) ?_;refine er ?_;have lA:(Sd.lt (aZ kN).length).ok:=hr b q dZ hs;refine DB (s1:=⟨62,(25,bu q.2)::(24,bu q.1)::(23, .mp 5)::(22, .ptr 6 0)::(7,bu q.2)::(6,bu q.1)::(21,bu q.2)::(20,bu q.1)::(19, .bp [bu q.1,bu q.2])::(18,aJ true)::(17, .bp [aJ true,bu q.1,bu q.2])::wu [(16, .ptr 7 0)],wP v1 v3 (.eE (aZ e)) (.map (aZ (q::kN))) [.it ((aZ e).length,seen++[b]) [.mp 0]]⟩) Jg 0 (jC [(13,(⟨_,_, .sd (o:= .none) lA⟩:Ob Tryz.prog))]) (ps:=jW [(13,(⟨_,_, .sd (o:= .none) lA⟩:Ob Tryz.prog))]) (by kernel_rfl) (tc _) ?_
  exact hq b q _ dZ hs (by kernel_rfl)
 ·rw[DK.2.2];refine DB (s1:=Iw v1 v3 e (seen,kN)) (oD.drop 1) 1 [] (ps:=[]) (by kernel_rfl) (λ_ h=>by cases h) ?_;exact bA (xc (t:=false) rfl (λh=>by cases h) λ_=>hx dw _)
structure yt(e:List (ByteArray×ByteArray))(i:List Nat×List (ByteArray×ByteArray)):Prop where
 nd:i.1.Nodup
 lt:∀b∈i.1,b<e.length
 len:i.2.length=i.1.length
 mem:∀q,q∈i.2↔∃b∈i.1,e[b]?=some q
theorem L4{l:agK Nat}{n:Nat}(h:l.Nodup)(hl:∀b∈l,b<n):l.length<=n:=by
 have:=List.Nodup.length_le_of_subset h (l₂:=List.range n) λb hb=>List.mem_range.2 (hl b hb)
 simpa using this
theorem yt.step{e:agK (agL×agL)}{i:agK Nat×agK (agL×agL)}(h:yt e i){b:Nat}{q:agL×agL}(hb:e[b]?=some q)(hs:b ∉ i.1):yt e (i.1++[b],q::i.2):=by
 refine⟨?_,λx hx=> ?_,by simp [h.len],λy=> ?_⟩
 ·refine List.nodup_append.2 ⟨h.nd,by simp,λx hx y hy=> ?_⟩;rintro rfl;rw[List.mem_singleton]at hy;exact hs (hy▸hx)
 ·rcases agy.1 hx with hx|hx
  ·exact h.lt x hx
  ·rw[List.mem_singleton]at hx;subst hx;exact(afV.1 hb).1
 ·rw[agq,h.mem];constructor
  ·rintro(rfl|⟨x,hx,ex⟩)
   ·exact⟨b,by simp,hb⟩
   ·exact⟨x,by simp [hx],ex⟩
  ·rintro⟨x,hx,ex⟩;rcases agy.1 hx with hx|hx
   ·exact .inr ⟨x,hx,ex⟩
   ·rw[List.mem_singleton]at hx;subst hx;rw[hb]at ex;cases ex
    exact .inl rfl
theorem W0(hN:N0<=8)(v1:aT)(v3 e:agK (agL×agL))(hm:(aZ e).length<=maxLen){Q:Exit->St->Prop}{s:St}(h0:gr s [2,3,4,5,16] 8=some (Bp v1 v3 e ([],[])))
 (hx:∀i,yt e i->(∀b,b<(aZ e).length->b∈i.1)->∀K1 K2,aX Tryz.prog r N0 (.exit 0) (fA K1 (fA K2 Q)) (Iw v1 v3 e i)):aX Tryz.prog r N0 w5 Q s:=by
 show aX Tryz.prog r N0 (.loop (Bn w5)) Q s;have hlen:(aZ e).length=e.length:=by unfold aZ;rw[af0]
 refine Pl [2,3,4,5,16] 8 (Bp v1 v3 e) (yt e) (λi=>e.length-i.1.length) ([],[]) hN h0 ⟨List.nodup_nil,λ_ h=>(by cases h),rfl,λq=>(by simp)⟩ λi hi=> ?_;obtain⟨seen,kN⟩:=i;have az:∀b q,e[b]?=some q->b ∉ seen->seen.length<e.length:=λb q hb hs=>by
  have:=L4 (hi.step hb hs).nd (hi.step hb hs).lt;simp at this;omega
 refine aaT v1 v3 e seen kN (λb q hb hs=> ?_) (λb q s1 hb hs hc=>⟨_,hc,hi.step hb hs,?_⟩) λdw K=> ?_
 ·have h1:=az b q hb hs;have h2:kN.length=seen.length:=hi.len;unfold aZ;rw[af0];omega
 ·have h1:=az b q hb hs;simp only[afW,afY,af7];omega
 ·exact hx (seen,kN) hi dw K _
theorem OT:∀{l:agK (agL×D)}{x:agL},dk l x=none->∀d,(x,d)∉ l
 |(k,e)::l,x,h,d,hm=>by
  rw[pZ]at h;split at h
  ·cases h
  ·next hk=>
   rcases agq.1 hm with hm|hm
   ·cases hm;exact hk rfl
   ·exact OT h d hm
theorem abF{a b:agK (agL×D)}(hn:(a.map (·.1)).Nodup)(h:∀p,p∈b↔p∈a)(x:agL):dk b x=dk a x:=by
 cases hb:dk b x with
 |some d=>exact(EJ hn ((h _).1 (xv hb))).symm
 |none=>
  cases ha:dk a x with
  |none=>rfl
  |some d=>exact absurd ((h _).2 (xv ha)) (OT hb d)
theorem aeV{da:agK (agL×D)}{v:agK (agL×agL)}(h:∀x,dk da x=dk (aZ v) x)(hn:(da.map (·.1)).Nodup):∃e,da=aZ e:=by
 have key:∀l:agK (agL×D),(∀p∈l,p∈da)->∃e,l=aZ e:=by
  intro l
  induction l with
  |nil=>exact λ_=>⟨[],rfl⟩
  |cons p l ih=>
   intro hl;obtain⟨e,rfl⟩:=ih λq hq=>hl q (af4 _ hq);obtain⟨k,d⟩:=p;have h1:=EJ hn (hl (k,d) af1);rw[h]at h1;have h2:=xv h1;unfold aZ at h2;obtain⟨q,_,eq⟩:=List.mem_map.1 h2;cases eq
   exact⟨q::e,rfl⟩
 exact key da λ_ h=>h
noncomputable def yf:Code:=pM (pM (pM (Tryz.f24.body.getD .skip)))
noncomputable def Da(v1:aT)(v2 v3:agK (agL×agL)):WO:=wk Tryz.prog (ug Tryz.f24 [(ej v1),(.agg [(.mp 0),(.mp 1)])] [.map (aZ v2), .map (aZ v3)]) [[],[]]
noncomputable def pO(v1:aT)(v2 v3:agK (agL×agL)):St:=wS (Da v1 v2 v3)
def J3(v1:aT)(v2 v3:agK (agL×agL)):St:=⟨62,wu [],wP v1 v3 (.map (aZ v2)) (.map (aZ v2)) []⟩
theorem adP(v1:aT)(v2 v3:agK (agL×agL)):Da v1 v2 v3=some (.at (.region 2 mu.toArray false) [.S (.block 0 w5), .S yf] (pO v1 v2 v3),[]):=by kernel_rfl
theorem VU(v1:aT)(v2 v3:agK (agL×agL)):(pO v1 v2 v3).h[0]?=some (.map (aZ v2)):=by kernel_rfl
noncomputable def Iy(v1:aT)(v2 v3 e:agK (agL×agL)):St:=match iK Tryz.prog mu.toArray false (mu.take 2) 0 [] ⟨(pO v1 v2 v3).n,(pO v1 v2 v3).t,(pO v1 v2 v3).h.set 0 (.eE (aZ e))⟩with
 |some (s,_)=>s
 |none=>⟨0,[],[]⟩
theorem ac6(v1:aT)(v2 v3 e:agK (agL×agL)):iK Tryz.prog mu.toArray false (mu.take 2) 0 [] ⟨(pO v1 v2 v3).n,(pO v1 v2 v3).t,(pO v1 v2 v3).h.set 0 (.eE (aZ e))⟩=some (Iy v1 v2 v3 e,[]):=by kernel_rfl
theorem acp(v1:aT)(v2 v3 e:agK (agL×agL)):ev (Iy v1 v2 v3 e) (.tmp 15)= .mp 0:=by kernel_rfl
theorem afl(v1:aT)(v2 v3 e:agK (agL×agL)):(Iy v1 v2 v3 e).h[0]?=some (.eE (aZ e)):=by kernel_rfl
theorem VQ:pA Tryz.prog 76=some (9,9):=by kernel_rfl
theorem WX{Q:Exit->St->Prop}(hN:N0<=7)(v1:aT)(v2 v3:agK (agL×agL))(k:GW Tryz.prog r N0 Q (some (.at yf [] (J3 v1 v2 v3),[]))):GW Tryz.prog r N0 Q (Da v1 v2 v3):=by
 rw[adP];constructor
 show aX Tryz.prog r N0 (.region 2 mu.toArray false) (fA (λs=>aX Tryz.prog r N0 (.block 0 w5) (fA (λs=>aX Tryz.prog r N0 yf Q s) Q) s) (fA (λs=>aX Tryz.prog r N0 yf Q s) Q)) (pO v1 v2 v3);refine Yh 0 (aZ v2) (VU v1 v2 v3) λda e1 e2 e3 e4=> ?_;obtain⟨e,rfl⟩:=aeV e1 e2;refine er ?_;rw[show(mu.toArray).toList=mu.take 2++[AX]from W1];refine Xj _ (ac6 v1 v2 v3 e) HU.2.1 ?_;unfold rC;rw[HU.1];simp only[VQ,acp,afl,HU.2.2];refine iS (W0 (by omega) v1 v3 e e4 (by kernel_rfl) λi hi dw K1 K2=> ?_);have hlen:(aZ e).length=e.length:=by unfold aZ;rw[af0]
 have Av:(aZ i.2).length=i.2.length:=by unfold aZ;rw[af0]
 have iF:∀p,p∈aZ i.2↔p∈aZ e:=by
  intro p;unfold aZ;rw[List.mem_map,List.mem_map];constructor
  ·rintro⟨q,hq,rfl⟩;obtain⟨b,_,hb⟩:=(hi.mem q).1 hq;exact⟨q,af8 hb,rfl⟩
  ·rintro⟨q,hq,rfl⟩;obtain⟨b,hb,eb⟩:=List.getElem_of_mem hq;exact⟨q,(hi.mem q).2 ⟨b,dw b (by omega),by rw[afZ hb,eb]⟩,rfl⟩
 have hle:i.2.length<=e.length:=by rw[hi.len];exact L4 hi.nd hi.lt
 refine V7 0 (aZ v2) (aZ e) rfl (λx=>(e1 x).symm) e3 ?_;refine WQ 5 (aZ v2) (aZ i.2) rfl (λx=>by rw[abF e2 iF,e1]) (by omega) ?_;refine jG [2,3,4,5] 7 hN (s':=J3 v1 v2 v3) (by kernel_rfl) ?_;exact qQ k.run
theorem adt{Q:Exit->St->Prop}(v1:aT)(v2 v3:agK (agL×agL))(k:GW Tryz.prog r N0 Q (some (.at yf [] (J3 v1 v2 v3),[])))(hN:N0<=7:=by exact af3 rfl):GW Tryz.prog r N0 Q (Da v1 v2 v3):=WX hN v1 v2 v3 k
end
end Go.Proofs.YtmkmibahjanejaaGreatDoor
namespace Go.Proofs.YtmkmibahjanejaaGreatDoor
open Go.RowKit Go.Shelf Go.Sort
set_option maxRecDepth 100000
set_option linter.unusedVariables false
set_option linter.unusedSimpArgs false
instance:Inhabited aR:=⟨⟨ByteArray.empty,0⟩⟩
def jx(x:aR):agK agO:=[.string x.ak, .int .i64 x.cO.toInt]
def jz(x y:aR):Int:=if bL x.ak<bL y.ak then-1 else if bL y.ak<bL x.ak then 1 else 0
theorem Xv(a:agL)(w:agP):Calls Tryz.prog 103 #[.string a] w λe w'=>e= .returned (.bool false)/\w'=w:=by
 go_enter Tryz.func103,Tryz.ntmps103
 go_wp2
 go_ret
 exact⟨by simp,rfl⟩
theorem Za(a b:agL)(w:agP):Sem.run Tryz.prog (binOp .gtr 9 (.string a) (.string b)) w= .ok (.bool (Op.bytesLess b.toList a.toList)) w:=by
 have e:(!Op.bytesLess a.toList b.toList&& !a.toList==b.toList)=Op.bytesLess b.toList a.toList:=by
  have hl:∀c:agL,c.toList=bL c:=λc=>Lib.toList_data c;rw[bytesLess_eq,bytesLess_eq,hl,hl];by_cases h1:bL a<bL b
  ·have h2:¬bL b<bL a:=λh=>List.lt_irrefl _ (List.lt_trans h1 h);simp [h1,h2]
  ·by_cases h3:bL a=bL b
   ·have h2:¬bL b<bL a:=by rw[h3];exact List.lt_irrefl _
    simp [h2,h3]
   ·have h2:bL b<bL a:=Classical.byContradiction λh=>h3 (List.le_antisymm (List.not_lt.1 h) (List.not_lt.1 h1));simp [h1,h2,h3]
 simp [binOp,Op.stringOp,e]
theorem EP(a b:agL):Op.bytesLess a.toList b.toList=decide (bL a<bL b):=by rw[bytesLess_eq,Lib.toList_data,Lib.toList_data];rfl
theorem ael{x y:aR}(h:¬bL x.ak<bL y.ak)(h2:(!x.ak.toList==y.ak.toList)=true):Ending.returned (Value.int .i64 (jz x y))= .returned (.int .i64 1):=by
 have h3:bL y.ak<bL x.ak:=Classical.byContradiction λk=>by
  rw[Lib.toList_data,Lib.toList_data,Bool.not_eq_true',beq_eq_false_iff_ne]at h2;exact h2 (List.le_antisymm (List.not_lt.1 k) (List.not_lt.1 h))
 unfold jz;rw[if_neg h,if_pos h3]
theorem afq{x y:aR}(h:¬bL x.ak<bL y.ak)(h2:(!x.ak.toList==y.ak.toList)=false):Ending.returned (Value.int .i64 (jz x y))= .returned (.int .i64 0):=by
 have h3:¬bL y.ak<bL x.ak:=λk=>by
  rw[Lib.toList_data,Lib.toList_data,Bool.not_eq_false',beq_iff_eq]at h2;have e:bL x.ak=bL y.ak:=h2;rw[e]at k;exact List.lt_irrefl _ k
 unfold jz;rw[if_neg h,if_neg h3]
theorem ad5(x y:aR)(w:agP):Calls Tryz.prog 54 #[.string x.ak, .string y.ak] w λe w'=>e= .returned (.int .i64 (jz x y))/\w'=w:=by
 go_enter Tryz.func54,Tryz.ntmps54
 go_wp2_with (go_at_call 103;refine(Xv _ _).mono ?_;rintro e w' ⟨rfl,rfl⟩)
 ·next h=>
  rw[EP,decide_eq_true_iff]at h
  go_ret
  exact⟨by unfold jz;rw[if_pos h];rfl,rfl⟩
 all_goals
  have h:Op.bytesLess x.ak.toList y.ak.toList=false:=by assumption
  rw[EP,decide_eq_false_iff_not]at h;first
  |(have h2:(!x.ak.toList==y.ak.toList)=true:=by assumption
    go_ret
    exact⟨(ael h h2).symm,rfl⟩)
  |(have h2:(!x.ak.toList==y.ak.toList)=false:=by assumption
    go_ret
    exact⟨(afq h h2).symm,rfl⟩)
  |(rw[Za]
    simp only[Result.andThen];rw[Oper.upon_value]
    go_wp2
    ·next h2=>
     rw[EP,decide_eq_true_iff]at h2
     go_ret
     exact⟨by unfold jz;rw[if_neg h,if_pos h2];rfl,rfl⟩
    ·next h2=>
     rw[EP,decide_eq_false_iff_not]at h2
     go_ret
     exact⟨by unfold jz;rw[if_neg h,if_neg h2];rfl,rfl⟩)
theorem abo(x y:aR)(W:agP):Calls Tryz.prog 53 #[.agg (jx x).toArray, .agg (jx y).toArray] W λe w'=>e= .returned (.int .i64 (jz x y))/\∃q UC,w'=grow (W.drewN q) UC:=by
 unfold jx
 go_enter Tryz.func53,Tryz.ntmps53
 go_wp2_with (go_at_call 54;refine(ad5 x y _).mono ?_;rintro e w' ⟨rfl,rfl⟩)
 go_ret
 exact⟨rfl,0,_,by rw[alloc_eq_grow,alloc_eq_grow,grow_grow];rfl⟩
theorem aak(b6 off size:Nat)(w:agP):CmpLays Tryz.prog 53 #[] jx 2 jz b6 off size w:=
 λ_ _ _ _ x y=>abo x y _
theorem DM(x y:aR):ltOf jz x y=decide (bL x.ak<bL y.ak):=by
 unfold ltOf jz;by_cases h1:bL x.ak<bL y.ak
 ·simp [h1]
 ·by_cases h2:bL y.ak<bL x.ak<;>simp [h1,h2]
theorem aea:SWO (ltOf jz) where
 irrefl x:=by rw[DM];exact agE (List.lt_irrefl _)
 trans x y z h1 h2:=by rw[DM,decide_eq_true_iff]at*;exact List.lt_trans h1 h2
 ntrans x y z h1 h2:=by rw[DM,decide_eq_false_iff_not]at*;exact λh=>h1 (by
  rw[List.not_lt]at*;exact absurd h (List.not_lt.2 (List.le_trans h2 h1)))
def acE:Ren where
 f:=fun
  |6=>52
  |15=>102
  |14=>101
  |28=>151
  |29=>152
  |20=>143
  |21=>144
  |22=>145
  |23=>146
  |24=>147
  |25=>148
  |26=>149
  |27=>150
  |46=>183
  |47=>184
  |48=>185
  |49=>186
  |50=>187
  |57=>220
  |n=>n
 t:=fun
  |22=>50
  |24=>115
  |25=>119
  |3=>3
  |39=>165
  |0=>0
  |53=>204
  |55=>74
  |4=>4
  |46=>197
  |45=>196
  |50=>201
  |5=>5
  |9=>9
  |66=>229
  |70=>233
  |76=>249
  |77=>250
  |n=>n
 g:=λn=>n
theorem kH{P:agN}{i:Nat}{f:Func}(n:String)(h:(n== "runtime.NumGoroutine")=false)(h2:P.funcs[i]?=some {f with name:=n}):Bears P i f:=⟨n,h,h2⟩
theorem RF:SlLaysF0.n6 Tryz.prog acE:=by
 constructor
 case f6=>exact kH "slices.SortFunc[[]brocade/api.Mono,brocade/api.Mono]" (by kernel_rfl) (by kernel_rfl)
 case f14=>exact kH "slices.pdqsortCmpFunc[brocade/api.Mono]" (by kernel_rfl) (by kernel_rfl)
 case f20=>exact kH "slices.insertionSortCmpFunc[brocade/api.Mono]" (by kernel_rfl) (by kernel_rfl)
 case f21=>exact kH "slices.heapSortCmpFunc[brocade/api.Mono]" (by kernel_rfl) (by kernel_rfl)
 case f22=>exact kH "slices.breakPatternsCmpFunc[brocade/api.Mono]" (by kernel_rfl) (by kernel_rfl)
 case f23=>exact kH "slices.choosePivotCmpFunc[brocade/api.Mono]" (by kernel_rfl) (by kernel_rfl)
 case f24=>exact kH "slices.reverseRangeCmpFunc[brocade/api.Mono]" (by kernel_rfl) (by kernel_rfl)
 case f25=>exact kH "slices.partialInsertionSortCmpFunc[brocade/api.Mono]" (by kernel_rfl) (by kernel_rfl)
 case f26=>exact kH "slices.partitionEqualCmpFunc[brocade/api.Mono]" (by kernel_rfl) (by kernel_rfl)
 case f27=>exact kH "slices.partitionCmpFunc[brocade/api.Mono]" (by kernel_rfl) (by kernel_rfl)
 case f46=>exact kH "slices.siftDownCmpFunc[brocade/api.Mono]" (by kernel_rfl) (by kernel_rfl)
 case f49=>exact kH "slices.medianAdjacentCmpFunc[brocade/api.Mono]" (by kernel_rfl) (by kernel_rfl)
 case f50=>exact kH "slices.medianCmpFunc[brocade/api.Mono]" (by kernel_rfl) (by kernel_rfl)
 case f57=>exact kH "slices.order2CmpFunc[brocade/api.Mono]" (by kernel_rfl) (by kernel_rfl)
 all_goals first|kernel_rfl|(intro w;rfl)
theorem adm{w:agP}{g:Nat}{cur:Array agO}{e:TypeId}{xs:agK aR}(hb:w.heap[g]?=some (.cells cur e (0,0)))(hc:∀(i j:Nat)(x:aR)(v:agO),xs[i]?=some x->(jx x)[j]?=some v->cur[i*2+j]?=some v):HoldsK jx 2 w g 0 xs.toArray:=by
 intro t ht;rw[size_flatK]at ht;have hl:t / 2<xs.length:=by simp at ht;omega
 have h2:t%2<2:=Nat.mod_lt _ (by omega);refine⟨?_,by simp [World.frozen?,hb]⟩;rw[get_flatK _ _ _ _ ht];have hx:xs[t / 2]?=some xs[t / 2]:=afZ hl;have hd:xs.toArray[t / 2]! =xs[t / 2]:=by simp [hl]
 rw[hd];have he:(jx xs[t / 2])[t%2]?=some (jx xs[t / 2])[t%2]! :=by
   have hle:(jx xs[t / 2]).length=2:=rfl;rw[afZ (by omega),getElem!_pos _ _ (by omega)]
 have:=hc _ _ _ _ hx he;rw[show t / 2*2+t%2=0+t from by omega]at this;simp only[World.cell?,hb,Option.isSome_none,Bool.false_eq_true,if_false];exact this
theorem Vh{w:agP}{g n:Nat}{os:Array Obj}{cur:Array agO}{e:TypeId}{fr:Nat×Nat}(F:Array agO)(hb:w.heap[g]?=some (.cells cur e fr)):
 (grow (putRow id (Sort.ahead w n) g 0 F) os).heap[g]?=some (.cells (putCells id 0 F cur) e fr):=by
 have hg:g<w.heap.size:=(aga.1 hb).1;rw[heap_grow_old _ _ (by simpa using hg)];simp [putRow,mapBlock,Sort.ahead,Array.getElem?_modify,hb,onCells]
theorem UK{w:agP}{g n:Nat}{os:Array Obj}(F:Array agO):w.grownBy (grow (putRow id (Sort.ahead w n) g 0 F) os) (some g):=by
 refine⟨rfl,rfl,rfl,by simp,λk hk bQ=> ?_⟩;rw[heap_grow_old _ _ (by simpa using hk)];have:g≠k:=λe=>bQ (by rw[e]);simp [putRow,mapBlock,Sort.ahead,Array.getElem?_modify,this]
def qk(x y:aR):Bool:=Op.bytesLess (bL x.ak) (bL y.ak)
def s8(x:aR):agK aR->agK aR
 |[]=>[x]
 |y::l=>bif qk x y then x::y::l else y::s8 x l
def gW:agK aR->agK aR
 |[]=>[]
 |x::l=>s8 x (gW l)
def o0:agK aR->Bool
 |[]=>true
 |[_]=>true
 |x::y::l=>qk x y&&o0 (y::l)
theorem FA(x y:aR):qk x y=decide (bL x.ak<bL y.ak):=by unfold qk;rw[bytesLess_eq]
theorem IY(x:aR):∀l,(s8 x l).Perm (x::l)
 |[]=> .refl _
 |y::l=>by
  unfold s8;cases qk x y
  ·exact((IY x l).cons y).trans (.swap x y l)
  ·exact .refl _
theorem tR:∀l,(gW l).Perm l
 |[]=> .refl _
 |x::l=>by unfold gW;exact(IY x _).trans ((tR l).cons x)
theorem RH:∀l,o0 l=true->l.Pairwise λa b=>bL a.ak<bL b.ak
 |[],_=> .nil
 |[_],_=>by simp
 |x::y::l,h=>by
  unfold o0 at h;rw[afX,FA,decide_eq_true_iff]at h;have ih:=RH (y::l) h.2;refine .cons (λz hz=> ?_) ih;rcases agq.1 hz with rfl|hz
  ·exact h.1
  ·exact List.lt_trans h.1 ((List.pairwise_cons.1 ih).1 z hz)
theorem LH{R:aR->aR->Prop}(PW:∀a b,R a b->R b a->False):∀(l m:agK aR),l.Perm m->l.Pairwise R->m.Pairwise R->l=m
 |[],m,h,_,_=>h.symm.eq_nil.symm
 |a::l,[],h,_,_=>absurd h.length_eq (by simp)
 |a::l,b::m,h,h1,h2=>by
  obtain⟨p1,p2⟩:=List.pairwise_cons.1 h1;obtain⟨q1,q2⟩:=List.pairwise_cons.1 h2;by_cases e:a=b
  ·subst e;rw[LH PW l m (List.Perm.cons_inv h) p2 q2]
  ·exfalso;have ha:a∈m:=by
    rcases agq.1 (h.subset (af1))with h'|h'
    ·exact absurd h' e
    ·exact h'
   have hb:b∈l:=by
    rcases agq.1 (h.symm.subset (af1))with h'|h'
    ·exact absurd h'.symm e
    ·exact h'
   exact PW a b (p1 b hb) (q1 a ha)
theorem abB(xs:agK aR)(bh:o0 (gW xs)=true)(d':Array aR)(hp:PermIn 0 xs.toArray.size xs.toArray d')(hs:SortedIn (ltOf jz) 0 xs.toArray.size d'):d'.toList=gW xs:=by
 obtain⟨h1,_,h3⟩:=hp;have e1:d'.extract 0 xs.toArray.size=d':=by rw[<-h1];simp
 have e2:xs.toArray.extract 0 xs.toArray.size=xs.toArray:=by simp
 rw[e1,e2]at h3;have Ni:d'.toList.Perm xs:=h3;have hq:=RH _ bh;have bQ:(gW xs).Pairwise λa b=>bL a.ak≠bL b.ak:=hq.imp λh e=>by rw[e]at h;exact List.lt_irrefl _ h
 have hd:d'.toList.Pairwise λa b=>bL a.ak≠bL b.ak:=((Ni.trans (tR xs).symm).pairwise_iff λh e=>h e.symm).2 bQ;have kA:d'.toList.Pairwise λa b=>bL a.ak<bL b.ak:=by
  rw[List.pairwise_iff_getElem]at hd ⊢;intro i j hi hj lq;have fI:j<xs.toArray.size:=by rw[<-h1];simpa using hj
  have cy:i<d'.size:=by simpa using hi
  have:=hs i j (Nat.zero_le _) lq fI;rw[getElem!_pos d' i cy,getElem!_pos d' j (by rw[h1];exact fI),DM,decide_eq_false_iff_not]at this;have hn:=hd i j hi hj lq;rw[Array.getElem_toList,Array.getElem_toList]at hn ⊢;exact Classical.byContradiction λh=>hn (List.le_antisymm (List.not_lt.1 this) (List.not_lt.1 h))
 exact LH (λa b h1 h2=>List.lt_irrefl _ (List.lt_trans h1 h2)) _ _ (Ni.trans (tR xs).symm) kA hq
theorem Yu(g cap L:Nat)(xs:agK aR)(cur:Array agO)(e0:TypeId)(w:agP)(hb:w.heap[g]?=some (.cells cur e0 (0,0)))(hL:xs.length=L)(h0:L≠0)(eN:L*2<=cur.size)(hc:∀(i j:Nat)(x:aR)(v:agO),xs[i]?=some x->(jx x)[j]?=some v->cur[i*2+j]?=some v)(eQ:L<4611686018427387904)(bh:o0 (gW xs)=true):
 Calls Tryz.prog 52 #[.slice (some ⟨g,0,none⟩) L cap, .func (.func 53) #[] #[]] w λe w'=>e= .returned (.tuple #[])/\w.grownBy w' (some g)/\∃jf,w'.heap[g]?=some (.cells jf e0 (0,0))/\jf.size=cur.size/\∀(i j:Nat)(x:aR)(v:agO),(gW xs)[i]?=some x->(jx x)[j]?=some v->jf[i*2+j]?=some v:=by
 have hg:g<w.heap.size:=(aga.1 hb).1;have vY:xs.toArray.size=L:=by simpa using hL
 have eg:∀args w,(callFunc 53 args).run Tryz.prog w= .ok (.enter 53 args) w:=enters_of Tryz.func53 (by kernel_rfl) rfl;have h:Calls Tryz.prog 52 #[.slice (some ⟨g,0,none⟩) xs.toArray.size cap, .func (.func 53) #[] #[]] w λe w'=>
     e= .returned (.tuple #[])/\∃d' n os,PermIn 0 xs.toArray.size xs.toArray d'/\SortedIn (ltOf jz) 0 xs.toArray.size d'/\w'=sortWorldK jx 2 w g 0 n d' os:=
  AnyQ.slices_SortFunc RF 2 (by intro w;rfl) (by intro w;rfl) jx (λ_=>rfl) (λx v hv=>by simp [jx]at hv;rcases hv with rfl|rfl<;>rfl) jz aea 53 #[] g 0 cap xs.toArray w eg (aak g 0 _ w) (adm hb hc) hg (by rw[vY];exact eQ)
 rw[vY]at h;refine h.mono λe w' hp=> ?_;obtain⟨rfl,d',n,os,p1,p2,rfl⟩:=hp;have hd:=abB xs bh d' (by rw[vY];exact p1) (by rw[vY];exact p2);have oz:d'.size=L:=by rw[<-vY];exact vY▸p1.1
 refine⟨rfl,UK _,_,Vh _ hb,by simp [putCells],λi j x v hx hv=> ?_⟩;have hj:j<2:=(afV.1 hv).1;rw[<-hd]at hx;have hi:i<d'.size:=by have:=(afV.1 hx).1;simpa using this
 have az:i*2+j<d'.size*2:=by omega
 have qo:d'[i]! =x:=by
  rw[getElem!_pos d' i hi];have:=(afV.1 hx).2
  simpa using this
 have hF:(flatK jx 2 d')[i*2+j]! =v:=by
  rw[get_flatK _ _ _ _ az,show(i*2+j)/ 2=i by omega,show(i*2+j)%2=j by omega,qo];rw[List.getElem!_eq_getElem?_getD,hv];rfl
 rw[putCells,Array.getElem?_mapIdx,agi (by omega)];simp only[Option.map_some,id];rw[if_pos ⟨Nat.zero_le _,by rw[size_flatK];omega⟩,Nat.sub_zero,hF]
theorem adv(p:agM Addr)(cap:Nat)(fv:agO)(w:agP):Calls Tryz.prog 52 #[.slice p 0 cap,fv] w λe w'=>e= .returned (.tuple #[])/\w'=w:=
 AnyF.slices_SortFunc_none RF p cap fv w
theorem adj{xs:agK aR}{L:Nat}(hL:xs.length=L)(eQ:L<4611686018427387904)(bh:o0 (gW xs)=true):
 b5 Tryz.prog 52 [.vec 0 0 L L 2, .fn 53 []] [.vec 115 2 (bW (cw xs))] λr1 h1=>r1= .bp []/\h1=[.vec 115 2 (bW (cw (gW xs)))]:=by
 refine⟨by kernel_rfl,λG w vs hinv XG hr=> ?_⟩;have uP:([aj.vec 115 2 (bW (cw xs))]:agK aj)[0]?=some (.vec 115 2 (bW (cw xs))):=rfl;have lN:(bW (cw xs)).length=L:=by rw[ze,dO,hL]
 obtain⟨v0,v1,rfl⟩:∃v0 v1,vs= #[v0,v1]:=by
  obtain⟨l⟩:=vs
  match l,XG with
  |[a,b],_=>exact⟨a,b,rfl⟩
 have r0:=hr 0 v0 _ rfl rfl;have r1:=hr 1 v1 _ rfl rfl;obtain rfl:v1= .func (.func 53) #[] #[]:=by
  cases r1 with|fn _ us _ hl _=>
  obtain⟨l⟩:=us
  match l,hl with
  |[],_=>rfl
 obtain⟨vM,⟨A,cc,rfl,q2,q3,q4,q5⟩,_⟩:=r0.rG hinv uP lN;have PJ:∀(G':Gh)(w':agP),ax G' w' (.tuple #[]) (.bp []):=λG' w'=> .bp #[] [] rfl λi u c h=>by simp at h
 by_cases h0:L=0
 ·subst h0;obtain rfl:xs=[]:=List.eq_nil_of_length_eq_zero hL;refine(adv A cc _ w).mono λe w' hp=> ?_;obtain⟨rfl,rfl⟩:=hp;exact⟨_,G,_,_,rfl,a7.refl _ _ _,af6 _,hinv,PJ _ _,rfl,rfl⟩
 ·obtain⟨g,cap,s1,rfl,s3⟩:=q5 (by omega);obtain⟨g',A6,cur,t1,t2,t3,t4,t5,t6,t7,t8,t9⟩:=Al hinv uP (λe=>by rw[e]at lN;simp at lN;omega);rw[t2,lN]at s1;cases s1
  have X8:cc=cap:=by omega
  subst X8;rw[lN]at t5;have hg:g<w.heap.size:=(aga.1 t4).1;have hc:∀(i j:Nat)(x:aR)(v:agO),xs[i]?=some x->(jx x)[j]?=some v->cur[i*2+j]?=some v:=by
   intro i j x v hx hv;have hi:i<xs.length:=(afV.1 hx).1;have hj:j<2:=(afV.1 hv).1;have az:i*2+j<cur.size:=by omega
   have hu:cur[i*2+j]?=some cur[i*2+j]:=agi az;have hd:((gO x).map J.d)[j]?=some (.d (.v v)):=by
    match j,hv with
    |0,hv=>cases hv;rfl
    |1,hv=>cases hv;rfl
   have:=(t9 i j _ _ _ (aaO (iY hx)) hd hu).val;rw[hu,this]
  have hw:=Yu g cc L xs cur 115 w t4 hL h0 (by omega) hc eQ bh;rw[show(⟨g,0*2,none⟩:Addr)=⟨g,0,none⟩from rfl];refine hw.mono λe w' hp=> ?_;obtain⟨rfl,gb,jf,dZ,bR,fy⟩:=hp;have bQ:∀b o,G.S b o->some b≠some g:=λb o hs e=>by cases e;exact t8 o hs
  have hE:a7 G.N G w G w':=
   ⟨gb.size,λ_ _ h=>h,λb o hs=>by
    unfold World.cell?;rw[gb.block b (hinv.S b o hs) (bQ b o hs)],λ_ _=>rfl,λ_ _=> .inl ⟨rfl,rfl⟩,fi rfl,λb hb=>gb.block b (hinv.z b hb) (λe=>by cases e;exact t3 hb),gb.os,gb.tape,gb.output,λb o hs=> .inl hs⟩
  obtain⟨f1,f2,f3,_⟩:=hinv.b6 0 _ uP;have Ep:(gW xs).length=xs.length:=(tR xs).length_eq;have C1:(bW (cw (gW xs))).length=(bW (cw xs)).length:=by rw[ze,ze,dO,dO,Ep]
  have hI:bg G w' [.vec 115 2 (bW (cw (gW xs)))]:=by
   refine⟨hinv.len,λb hb=>agk (hinv.z b hb) gb.size,λb o hs=>agk (hinv.S b o hs) gb.size,λn C hC=> ?_,λm n b h1 h2=> ?_,hinv.gl.aG hE⟩
   ·match n,hC with
    |0,hC=>
     cases hC
     refine⟨by rw[C1];exact f1,by rw[C1];exact f2,λc hc=> ?_, .inr ⟨g,cc,jf,t1,by rw[C1,t2],t3,dZ,by rw[C1,lN];exact t5,t6,by rw[bR,t7],t8,λi j c x u hx hd hu=> ?_⟩⟩
     ·unfold bW at hc;obtain⟨c',fy,rfl⟩:=List.mem_map.1 hc;rw[af0,rD c' fy]
     ·unfold bW at hx;rw[af2,kC,af2]at hx;cases hq:(gW xs)[i]? with
      |none=>rw[hq]at hx;cases hx
      |some y=>
       rw[hq]at hx;cases hx
       match j,hd with
       |0,hd=>cases hd;rw[fy i 0 y _ hq rfl]at hu;cases hu;exact .d (.v _)
       |1,hd=>cases hd;rw[fy i 1 y _ hq rfl]at hu;cases hu;exact .d (.v _)
    |n+1,hC=>simp at hC
   ·match m,n,h1,h2 with
    |0,0,_,_=>rfl
    |m+1,_,h1,_=>simp [bj]at h1
    |0,n+1,_,h2=>simp [bj]at h2
  exact⟨_,_,_,_,rfl,hE,af6 _,hI,PJ _ _,rfl,rfl⟩
end Go.Proofs.YtmkmibahjanejaaGreatDoor
