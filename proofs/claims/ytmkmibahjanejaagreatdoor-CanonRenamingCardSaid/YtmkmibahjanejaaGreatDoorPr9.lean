/-
  Part 9 of the proof: AbsWs, AbsDl, AbsTm, CpD, SortM, Bld, Fmt, PK1.
-/
import Derived.Test.YtmkmibahjanejaaGreatDoorPr8
import Derived.Test.YtmkmibahjanejaaGreatDoorProg
import Derived.WalkKit
import Derived.Shelf.SlSortCmp.NoneTotal
import Derived.Lib.Builder
import Derived.Lib.UnsafeStr
import Derived.Deep.AppendSrc
import Derived.Shelf.Strconv.Itoa1
import Derived.Shelf.Strconv.Itoa2
import Derived.Lib.ItoaMem
import Derived.Lib.AppendIntMem
import Derived.BigCall
import Derived.BigGuard
namespace Go.Proofs.YtmkmibahjanejaaGreatDoor
open Go.RowKit
set_option linter.unusedSimpArgs false
set_option linter.unusedVariables false
structure DL{α:Type}(f:List α->List (List D))(k:Nat):Prop where
 len:∀l,(f l).length=l.length
 all:∀l,∀c∈f l,c.length=k
 app:∀a b,f a++f b=f (a++b)
section
variable {P:apK} {α:Type} {f:apH α->apH (apH D)} {k cX:Nat}
theorem Lg{n:Nat}(hb:0<cX)(h:Nat.ble (n*cX) 140737488355328=true):n<=maxLen/\n*cX<=140737488355328:=by
 have h1:=ao0 h;have h2:n*1<=n*cX:=Nat.mul_le_mul_left n hb;refine⟨?_,h1⟩;unfold maxLen;omega
def oA(F:DL f k)(A B:apH α)(h:Nat.ble ((A.length+B.length)*cX) 140737488355328=true)(hb:0<cX:=by decide):Ob P:=
 ⟨_,_, .app (xs:=f A) (ys:=f B) (zs:=f (A++B)) (len:=A.length) (n:=(A++B).length) (F.len A).symm (F.all A) (F.all B) (by rw[F.len,F.len];exact(Lg hb h).1) (by rw[F.len,F.len];exact(Lg hb h).2) (F.app A B) (by rw[F.len,F.len,aoT])⟩
def oZ(F:DL f k)(B:apH α)(h:Nat.ble ((0+B.length)*cX) 140737488355328=true)(hb:0<cX:=by decide):Ob P:=
 ⟨_,_, .app (xs:=[]) (ys:=f B) (zs:=f B) (len:=0) (n:=B.length) rfl (λ_ hc=>absurd hc apz) (F.all B) (by rw[F.len];exact(Lg hb h).1) (by rw[F.len];exact(Lg hb h).2) rfl (by rw[F.len];exact apc _)⟩
end
section
variable {P:apK} {f:FuncId} {eX:apH AV} {H H':apH an} {r:AV}
def oQ(n9:apH AV)(h:apH an)(l:apH Nat)(hc:cx P f eX H λr1 h1=>r1=r/\h1=H)(ha:n9=eX.map (AV.aK (rn l 0)):=by kernel_rfl)(hd:rO l=true:=by kernel_rfl)(hb:l.map (λj=>h[j]?)=H.map (λB=>some (B.aK (rn l 0))):=by kernel_rfl)(hl:(eX.all (AV.aP H.length)&&H.all (an.aP H.length)&&r.aP H.length)=true:=by kernel_rfl):Ob P:=⟨_,_, .rq ha hd hb hl hc⟩
def oR(n9:apH AV)(h:apH an)(l:apH Nat)(hc:cx P f eX H λr1 h1=>r1=r/\h1=H')(ha:n9=eX.map (AV.aK (rn l h.length)):=by kernel_rfl)(hd:rO l=true:=by kernel_rfl)(hb:l.map (λj=>h[j]?)=H.map (λB=>some (B.aK (rn l h.length))):=by kernel_rfl)(hl:(eX.all (AV.aP H.length)&&H.all (an.aP H.length))=true:=by kernel_rfl):Ob P:=⟨_,_, .nB ha hd hb hl hc⟩
end
section
variable {P:apK} {r:apJ Nat} {N0:Nat} {Q:Exit->St->Prop} {w0:WO}
theorem BZ{α:Type}{f:apH α->apH (apH D)}{z:Nat}(F:DL f z)(k:Nat)(l:apH α)(h:l.length<=maxLen->GW P r N0 Q w0)(hx:(bp (wS w0).t k).fA=some (f l):=by kernel_rfl):GW P r N0 Q w0:=
 afP k (f l) hx λe=>h (Ls (F.len l) e)
theorem ahN{α:Type}{f:apH α->apH (apH D)}{z:Nat}(F:DL f z)(b i:Nat)(l:apH α)(h:l.length<=maxLen->GW P r N0 Q w0)(hx:(((wS w0).h[b]?).bind λB=>match B with| .cells cs=>(cs[i]?).bind AV.fA|_=>none)=some (f l):=by kernel_rfl):GW P r N0 Q w0:=
 U2 b i (f l) hx λe=>h (Ls (F.len l) e)
structure rp{α ι R:Type}(k:Nat)(live:List Nat)(m:Nat)(L:List α)(st:Nat->ι->St)(G:List α->Nat->ι->Option R)(rr:R)(n:Nat)(x:α)(l:List α)(i:ι)(f:St->Prop):Prop where
 h:Kq k live m (λz:Nat×List α×ι=>st z.1 z.2.2) (λz=>L.drop z.1=z.2.1/\G z.2.1 z.1 z.2.2=some rr) (λz=>z.2.1.length) (n,x::l,i) f
structure vx{ι R:Type}(k:Nat)(live:List Nat)(m:Nat)(st:ι->St)(G:Nat->ι->Option R)(rr:R)(d:Nat)(f:St->Prop):Prop where
 h:∀i,Kq k live m (λz:Nat×ι=>st z.2) (λz=>G z.1 z.2=some rr) (λz=>z.1) (d+1,i) f
theorem Si(hm:P.follows .mixedOrders=true){α ι R:Type}{rr:R}(k:Nat)(ay:apH (apH (Nat×Ob P)))(live:apH Nat)(m:Nat)(L:apH α)(st:Nat->ι->St)(G:apH α->Nat->ι->apJ R)(i0:ι)(hI:G L 0 i0=some rr)
 (nil:∀n i,L.drop n=[]->G [] n i=some rr->∀f:St->Prop,GW P r N0 Q (inLoop k f (st n i) (wk P w0 ay)))
 (cons:∀n x l i,L.drop n=x::l->G (x::l) n i=some rr->∀f:St->Prop,rp k live m L st G rr n x l i f->GW P r N0 Q (inLoop k f (st n i) (wk P w0 ay)))
 (hN:N0<=m) (e:ng live m (wk P w0 ay)=some (st 0 i0,dH ay)):GW P r N0 Q w0:=by
 refine QM hm k ay live m (λz:Nat×apH α×ι=>st z.1 z.2.2) (λz=>L.drop z.1=z.2.1/\G z.2.1 z.1 z.2.2=some rr) (λz=>z.2.1.length) (0,L,i0) ⟨rfl,hI⟩ (λz hz f hf=> ?_) hN e;obtain⟨n,l,i⟩:=z;obtain⟨h1,h2⟩:=hz;cases l with
 |nil=>exact nil n i h1 h2 f
 |cons x l=>exact cons n x l i h1 h2 f ⟨hf⟩
theorem aj3(hm:P.follows .mixedOrders=true){α ι R:Type}{rr:R}{live:apH Nat}{m k:Nat}{L:apH α}{st:Nat->ι->St}{G:apH α->Nat->ι->apJ R}{n:Nat}{x:α}{l:apH α}{i:ι}{f:St->Prop}(hf:rp k live m L st G rr n x l i f)(j:ι)(ay:apH (apH (Nat×Ob P)))(hd:L.drop n=x::l)(hI:G l (n+1) j=some rr)(e1:jQ k (wK w0)=[f])(e:qe k live m (wk P w0 ay)=some (st (n+1) j,dH ay)):GW P r N0 Q w0:=
 N9 hm hf.h (n+1,l,j) ay ⟨sf hd,hI⟩ (apF _) e1 e
theorem ZJ(hm:P.follows .mixedOrders=true){ι R:Type}{rr:R}(k:Nat)(ay:apH (apH (Nat×Ob P)))(live:apH Nat)(m:Nat)(st:ι->St)(G:Nat->ι->apJ R)(d:Nat)(i0:ι)(hI:G d i0=some rr)(h0:∀i,G 0 i=none)
 (succ:∀d i,G (d+1) i=some rr->∀f:St->Prop,vx k live m st G rr d f->GW P r N0 Q (inLoop k f (st i) (wk P w0 ay)))
 (hN:N0<=m) (e:ng live m (wk P w0 ay)=some (st i0,dH ay)):GW P r N0 Q w0:=by
 refine QM hm k ay live m (λz:Nat×ι=>st z.2) (λz=>G z.1 z.2=some rr) (λz=>z.1) (d,i0) hI (λz hz f hf=> ?_) hN e;obtain⟨d,i⟩:=z;cases d with
 |zero=>exact absurd ((h0 i).symm.trans hz) (by simp)
 |succ d=>exact succ d i hz f ⟨λj=>⟨λs' i' h1 h2 h3=>hf.h s' i' h1 h2 h3⟩⟩
theorem amH(hm:P.follows .mixedOrders=true){ι R:Type}{rr:R}{live:apH Nat}{m k:Nat}{st:ι->St}{G:Nat->ι->apJ R}{d:Nat}{f:St->Prop}(hf:vx k live m st G rr d f)(j:ι)(ay:apH (apH (Nat×Ob P)))(hI:G d j=some rr)(e1:jQ k (wK w0)=[f])(e:qe k live m (wk P w0 ay)=some (st j,dH ay)):GW P r N0 Q w0:=
 N9 hm (hf.h j) (d,j) ay hI (apF _) e1 e
theorem Qi{P:apK}{f:FuncId}{fn:Func}{args:apH AV}{R:AV}(hf:P.funcs[f]?=some fn)(hw:GW P none 0 (kQ P fn R) (yd fn args []))(hb:fn.body.isSome=true:=by kernel_rfl)(hn:(fn.name== "runtime.NumGoroutine")=false:=by kernel_rfl):ic P f args (·=R):=ani hf hb hn hw
theorem S3{P:apK}{f:FuncId}{fn:Func}{args:apH AV}{h H:apH an}{R:AV}(m:Nat)(hf:P.funcs[f]?=some fn)(hw:GW P none h.length (tW P fn m R H) (yd fn args h))(hb:fn.body.isSome=true:=by kernel_rfl)(hn:(fn.name== "runtime.NumGoroutine")=false:=by kernel_rfl)(hm:h.length<=m:=by exact ao0 rfl):cx P f args h λr1 h1=>r1=R/\h1=H:=aoj m hf hb hn hm hw
variable {α A B C D' R:Type} {rr:R}
theorem wl0(hm:P.follows .mixedOrders=true)(k:Nat)(ay:apH (apH (Nat×Ob P)))(live:apH Nat)(m:Nat)(L:apH α)(st:Nat->St)(G:apH α->Nat->apJ R)(hI:G L 0=some rr)
 (nil:∀n,L.drop n=[]->G [] n=some rr->∀f:St->Prop,GW P r N0 Q (inLoop k f (st n) (wk P w0 ay)))
 (cons:∀n x l,L.drop n=x::l->G (x::l) n=some rr->∀f:St->Prop,rp k live m L (λn(_:Unit)=>st n) (λl n _=>G l n) rr n x l () f->GW P r N0 Q (inLoop k f (st n) (wk P w0 ay)))
 (hN:N0<=m:=by exact ao0 rfl) (e:ng live m (wk P w0 ay)=some (st 0,dH ay):=by kernel_rfl):GW P r N0 Q w0:=
 Si hm k ay live m L (λn(_:Unit)=>st n) (λl n _=>G l n) () hI (λn _=>nil n) (λn x l _=>cons n x l) hN e
theorem IP(hm:P.follows .mixedOrders=true)(k:Nat)(ay:apH (apH (Nat×Ob P)))(live:apH Nat)(m:Nat)(L:apH α)(st:Nat->A->St)(G:apH α->Nat->A->apJ R)(a0:A)(hI:G L 0 a0=some rr)
 (nil:∀n a,L.drop n=[]->G [] n a=some rr->∀f:St->Prop,GW P r N0 Q (inLoop k f (st n a) (wk P w0 ay)))
 (cons:∀n x l a,L.drop n=x::l->G (x::l) n a=some rr->∀f:St->Prop,rp k live m L st G rr n x l a f->GW P r N0 Q (inLoop k f (st n a) (wk P w0 ay)))
 (hN:N0<=m:=by exact ao0 rfl) (e:ng live m (wk P w0 ay)=some (st 0 a0,dH ay):=by kernel_rfl):GW P r N0 Q w0:=
 Si hm k ay live m L st G a0 hI nil cons hN e
theorem wl2(hm:P.follows .mixedOrders=true)(k:Nat)(ay:apH (apH (Nat×Ob P)))(live:apH Nat)(m:Nat)(L:apH α)(st:Nat->A->B->St)(G:apH α->Nat->A->B->apJ R)(a0:A)(b0:B)(hI:G L 0 a0 b0=some rr)
 (nil:∀n a b,L.drop n=[]->G [] n a b=some rr->∀f:St->Prop,GW P r N0 Q (inLoop k f (st n a b) (wk P w0 ay)))
 (cons:∀n x l a b,L.drop n=x::l->G (x::l) n a b=some rr->∀f:St->Prop,rp k live m L (λn(i:A×B)=>st n i.1 i.2) (λl n i=>G l n i.1 i.2) rr n x l (a,b) f->GW P r N0 Q (inLoop k f (st n a b) (wk P w0 ay)))
 (hN:N0<=m:=by exact ao0 rfl) (e:ng live m (wk P w0 ay)=some (st 0 a0 b0,dH ay):=by kernel_rfl):GW P r N0 Q w0:=
 Si hm k ay live m L (λn(i:A×B)=>st n i.1 i.2) (λl n i=>G l n i.1 i.2) (a0,b0) hI (λn i=>nil n i.1 i.2) (λn x l i=>cons n x l i.1 i.2) hN e
theorem wb(hm:P.follows .mixedOrders=true){ι:Type}{live:apH Nat}{m k:Nat}{L:apH α}{st:Nat->ι->St}{G:apH α->Nat->ι->apJ R}{n:Nat}{x:α}{l:apH α}{i:ι}{f:St->Prop}(hf:rp k live m L st G rr n x l i f)(j:ι)(ay:apH (apH (Nat×Ob P)))(hd:L.drop n=x::l)(hI:G l (n+1) j=some rr)(e1:jQ k (wK w0)=[f]:=by kernel_rfl)(e:qe k live m (wk P w0 ay)=some (st (n+1) j,dH ay):=by kernel_rfl):GW P r N0 Q w0:=aj3 hm hf j ay hd hI e1 e
theorem wf1(hm:P.follows .mixedOrders=true)(k:Nat)(ay:apH (apH (Nat×Ob P)))(live:apH Nat)(m:Nat)(st:A->St)(G:Nat->A->apJ R)(d:Nat)(a0:A)(hI:G d a0=some rr)
 (succ:∀d a,G (d+1) a=some rr->∀f:St->Prop,vx k live m st G rr d f->GW P r N0 Q (inLoop k f (st a) (wk P w0 ay))) (h0:∀a,G 0 a=none:=by intros;rfl)
 (hN:N0<=m:=by exact ao0 rfl) (e:ng live m (wk P w0 ay)=some (st a0,dH ay):=by kernel_rfl):GW P r N0 Q w0:=
 ZJ hm k ay live m st G d a0 hI h0 succ hN e
theorem wf2(hm:P.follows .mixedOrders=true)(k:Nat)(ay:apH (apH (Nat×Ob P)))(live:apH Nat)(m:Nat)(st:A->B->St)(G:Nat->A->B->apJ R)(d:Nat)(a0:A)(b0:B)(hI:G d a0 b0=some rr)
 (succ:∀d a b,G (d+1) a b=some rr->∀f:St->Prop,vx k live m (λ(i:A×B)=>st i.1 i.2) (λd i=>G d i.1 i.2) rr d f->GW P r N0 Q (inLoop k f (st a b) (wk P w0 ay))) (h0:∀a b,G 0 a b=none:=by intros;rfl)
 (hN:N0<=m:=by exact ao0 rfl) (e:ng live m (wk P w0 ay)=some (st a0 b0,dH ay):=by kernel_rfl):GW P r N0 Q w0:=
 ZJ hm k ay live m (λ(i:A×B)=>st i.1 i.2) (λd i=>G d i.1 i.2) d (a0,b0) hI (λi=>h0 i.1 i.2) (λd i=>succ d i.1 i.2) hN e
theorem wbf(hm:P.follows .mixedOrders=true){ι:Type}{live:apH Nat}{m k:Nat}{st:ι->St}{G:Nat->ι->apJ R}{d:Nat}{f:St->Prop}(hf:vx k live m st G rr d f)(j:ι)(ay:apH (apH (Nat×Ob P)))(hI:G d j=some rr)(e1:jQ k (wK w0)=[f]:=by kernel_rfl)(e:qe k live m (wk P w0 ay)=some (st j,dH ay):=by kernel_rfl):GW P r N0 Q w0:=amH hm hf j ay hI e1 e
def Au(g:Nat)(t:apJ Nat):apH Oper->Nat->apH Nat
 |[],_=>[]
 |o::l,j=>match o.guard with
  |some (g',_)=>bif g'==g then(3*j)::Au g t l (j+1)else Au g t l (j+1)
  |none=>match o.op,t with
   | .pick (.tmp c) _ _,some t'=>bif c==t' then(3*j+1)::Au g t l (j+1)else Au g t l (j+1)
   |_,_=>Au g t l (j+1)
def am6(l:apH Oper)(g:Nat):apJ Nat:=match l[g]? with
 |some o=>o.dst
 |none=>none
def Jg:WO->apH Oper
 |some (.at (.region _ ops _) _ _,_)=>ops.toList
 |_=>[]
noncomputable def H9(ops:apH Oper)(sp si:apH (Nat×Ob P)):apH (Nat×Ob P):=so (sp.foldr (λx t=>os (Au x.1 (am6 ops x.1) ops 0) x.2 t) si)
theorem aaB(hm:P.follows .mixedOrders=true)(Δ:apH (Nat×AV))(h':apH an)(e:∃sp si:apH (Nat×Ob P),J3 P (Δ.map (·.1)) (iX (H9 (Jg (wk P w0 [])) sp si)) (wk P w0 [])=some (Δ,h',jP (H9 (Jg (wk P w0 [])) sp si)))(k:GW P r N0 Q (wI Δ h' (wk P w0 [])))(e0:ur (wk P w0 [])=some []:=by kernel_rfl):GW P r N0 Q w0:=
 afx hm Δ h' (let ⟨_,_,h⟩:=e;⟨_,h⟩) k e0
theorem wj0(hm:P.follows .mixedOrders=true)(rr:R)(k:Nat)(ay:apH (apH (Nat×Ob P)))(live:apH Nat)(m:Nat)(st:St)(G:apJ R)
 (br:∀f:St->Prop,A7 k live m (λ(_:Unit)=>st) (λ_=>G=some rr) f->GW P r N0 Q (Bg k f (wk P w0 ay)))
 (rest:G=some rr->GW P r N0 Q (Aq st (wk P w0 ay))) (hN:N0<=m:=by exact ao0 rfl) (e:vZ (wk P w0 ay)=some (dH ay):=by kernel_rfl):GW P r N0 Q w0:=
 aa2 hm k ay live m (λ(_:Unit)=>st) (λ_=>G=some rr) br (λ_=>rest) hN e
theorem wj1(hm:P.follows .mixedOrders=true)(rr:R)(k:Nat)(ay:apH (apH (Nat×Ob P)))(live:apH Nat)(m:Nat)(st:A->St)(G:A->apJ R)
 (br:∀f:St->Prop,A7 k live m st (λa=>G a=some rr) f->GW P r N0 Q (Bg k f (wk P w0 ay)))
 (rest:∀a,G a=some rr->GW P r N0 Q (Aq (st a) (wk P w0 ay))) (hN:N0<=m:=by exact ao0 rfl) (e:vZ (wk P w0 ay)=some (dH ay):=by kernel_rfl):GW P r N0 Q w0:=
 aa2 hm k ay live m st (λa=>G a=some rr) br rest hN e
def tr(i j n:Nat):Nat:=bif n==i then j else bif n==j then i else n
end
theorem gi:DL cw 1:=⟨λ_=>fK,λ_=>Ut,λ_ _=>ah2⟩
theorem akH:DL oF 1:=⟨λ_=>JB,λ_=>ad9,λ_ _=>an5⟩
theorem nU:DL c9 2:=⟨λ_=>fG,λ_=>u4,λ_ _=>akw⟩
theorem Hy:DL ja 2:=⟨λ_=>xp,λ_=>ahq,λ_ _=>anI⟩
theorem ajO:DL o7 5:=⟨λ_=>akP,λ_=>ahW,λ_ _=>akG⟩
theorem ajd:DL rV 2:=⟨λ_=>Ud,λ_=>an2,λ_ _=>alp⟩
theorem wP:DL gU 3:=⟨λ_=>mH,λ_=>agp,λ_ _=>afA⟩
theorem pv:DL dE 2:=⟨λ_=>gj,λ_=>akZ,λ_ _=>anC⟩
theorem mO:DL dL 3:=⟨λ_=>eG,λ_=>adX,λ_ _=>aiF⟩
theorem abW:DL oU 1:=⟨λ_=>OG,λ_=>ajs,λ_ _=>acH⟩
theorem pV:DL iR 7:=⟨λ_=>ky,λ_=>af7,λ_ _=>akt⟩
theorem rW:DL cQ 4:=⟨λ_=>jD,λ_=>agP,λ_ _=>ae5⟩
theorem pD:DL dU 13:=⟨λ_=>j0,λ_=>adC,λ_ _=>al2⟩
theorem qa:DL gK 22:=⟨λ_=>kp,λ_=>Vs,λ_ _=>alI⟩
abbrev KF(f:FuncId)(args:apH AV)(R:AV):Prop:=ic Tryz.prog f args (·=R)
abbrev KH(f:FuncId)(args:apH AV)(h:apH an)(R:AV)(H:apH an):Prop:=cx Tryz.prog f args h λr1 h1=>r1=R/\h1=H
def KO{α:Type}(f:FuncId)(args:apH AV)(en:α->AV)(o:apJ α):Prop:=∀r:α,o=some r->KF f args (en r)
def KP{α:Type}(f:FuncId)(args:apH AV)(h:apH an)(en:α->AV)(eh:α->apH an)(o:apJ α):Prop:=∀r:α,o=some r->KH f args h (en r) (eh r)
def cK{α:Type}{f:FuncId}{args:apH AV}{en:α->AV}{o:apJ α}{r:α}(k:KO f args en o)(h:o=some r):Ob Tryz.prog:=cL (k r h)
def IE{α:Type}(o:apJ α)(G:α->Prop):Prop:=∀v,o=some v->G v
section
variable {α β:Type} {x:apJ α} {G:α->Prop}
theorem au{x:apJ β}{f:β->apJ α}(k:∀a,x=some a->IE (f a) G):IE (Option.bind x f) G:=λv h=>
 have ⟨a,h1,h2⟩:=dv h
 k a h1 v h2
theorem bl{c:Bool}(k:c=true->IE x G):IE (bif c then x else none) G:=λv h=>
 have ⟨h1,h2⟩:=qW h
 k h1 v h2
theorem aC{c:Bool}{a b:apJ α}(t:c=true->IE a G)(f:c=false->IE b G):IE (bif c then a else b) G:=λv h=>bc h (λi j=>t i v j) λi j=>f i v j
theorem gE{α β γ:Type}{Φ:α->β->γ->Prop}{x:γ}(a:α)(b:β)(k:Φ a b x:=by kernel_rfl):IE (some x) λy=>∃a b,Φ a b y:=λv h=>sj h▸⟨a,b,k⟩
theorem c8{α β γ:Type}{Φ:α->apH β->γ->Prop}{o:apJ γ}(x:β)(k:IE o λy=>∃a b,Φ a (x::b) y):IE o λy=>∃a b,Φ a b y:=λv h=>
 have ⟨a,b,c⟩:=k v h
 ⟨a,x::b,c⟩
theorem dn{α β γ:Type}{Φ:apH α->β->γ->Prop}{o:apJ γ}(x:α)(k:IE o λy=>∃a b,Φ (x::a) b y):IE o λy=>∃a b,Φ a b y:=λv h=>
 have ⟨a,b,c⟩:=k v h
 ⟨x::a,b,c⟩
end
section
variable {α β:Type} {o:apJ α} {x y:α} {r:apJ Nat} {N0:Nat} {Q:α->Exit->St->Prop} {w0:WO}
theorem gA(ay:apH (apH (Nat×Ob Tryz.prog)))(k:IE o λq=>q=y->GW Tryz.prog r N0 (Q q) (wk Tryz.prog w0 ay))(e:ur (wk Tryz.prog w0 ay)=some (dH ay):=by kernel_rfl):IE o λq=>q=y->GW Tryz.prog r N0 (Q q) w0:=λv h q=>wM dO ay (k v h q) e
theorem gR{en:α->AV}{fn:Func}(ay:apH (apH (Nat×Ob Tryz.prog)))(e:ue Tryz.prog fn.results.toList (wk Tryz.prog w0 ay)=some (en x,dH ay):=by kernel_rfl):IE (some x) λq=>q=y->GW Tryz.prog r N0 (kQ Tryz.prog fn (en q)) w0:=λv h _=>sj h▸wr dO ay e
theorem gH{en:α->AV}{eh:α->apH an}{fn:Func}{m:Nat}(ay:apH (apH (Nat×Ob Tryz.prog)))(e:Hd Tryz.prog fn.results.toList m (wk Tryz.prog w0 ay)=some ((en x,eh x),dH ay):=by kernel_rfl):IE (some x) λq=>q=y->GW Tryz.prog r N0 (tW Tryz.prog fn m (en q) (eh q)) w0:=λv h _=>sj h▸KJ dO ay e
theorem gG{x:apJ β}{f:β->apJ α}(Δ:β->apH (Nat×AV))(h':β->apH an)(e:IE x λv=>∃sp si:apH (Nat×Ob Tryz.prog),J3 Tryz.prog ((Δ v).map (·.1)) (iX (H9 (Jg (wk Tryz.prog w0 [])) sp si)) (wk Tryz.prog w0 [])=some (Δ v,h' v,jP (H9 (Jg (wk Tryz.prog w0 [])) sp si)))(k:∀v,IE (f v) λq=>q=y->GW Tryz.prog r N0 (Q q) (wI (Δ v) (h' v) (wk Tryz.prog w0 [])))(e0:ur (wk Tryz.prog w0 [])=some []:=by kernel_rfl):IE (Option.bind x f) λq=>q=y->GW Tryz.prog r N0 (Q q) w0:=λv h q=>
 have ⟨a,h1,h2⟩:=dv h
 aaB dO (Δ a) (h' a) (e a h1) (k a v h2 q) e0
theorem cF{c:Bool}{b:apJ α}{en:α->AV}{fn:Func}(f:c=false->IE b λq=>q=y->GW Tryz.prog r N0 (kQ Tryz.prog fn (en q)) w0)(e:∀h:c=true,ue Tryz.prog fn.results.toList (wk Tryz.prog w0 [[(0,bT h)],[]])=some (en x,dH (P:=Tryz.prog) [[(0,bT h)],[]]):=by intro h;kernel_rfl):IE (bif c then some x else b) λq=>q=y->GW Tryz.prog r N0 (kQ Tryz.prog fn (en q)) w0:=aC (λh=>gR [[(0,bT h)],[]] (e h)) (f)
theorem gyN{c:Bool}{b:apJ α}{en:α->AV}{fn:Func}(f:c=false->IE b λq=>q=y->GW Tryz.prog r N0 (kQ Tryz.prog fn (en q)) w0)(e:∀h:c=true,ue Tryz.prog fn.results.toList (wk Tryz.prog w0 [[(0,bF (dw h))],[]])=some (en x,dH (P:=Tryz.prog) [[(0,bF (dw h))],[]]):=by intro h;kernel_rfl):IE (bif c then some x else b) λq=>q=y->GW Tryz.prog r N0 (kQ Tryz.prog fn (en q)) w0:=aC (λh=>gR [[(0,bF (dw h))],[]] (e h)) (f)
theorem rH{c:Bool}{b:apJ α}{en:α->AV}{fn:Func}(f:c=true->IE b λq=>q=y->GW Tryz.prog r N0 (kQ Tryz.prog fn (en q)) w0)(e:∀h:c=false,ue Tryz.prog fn.results.toList (wk Tryz.prog w0 [[(0,bF h)],[]])=some (en x,dH (P:=Tryz.prog) [[(0,bF h)],[]]):=by intro h;kernel_rfl):IE (bif c then b else some x) λq=>q=y->GW Tryz.prog r N0 (kQ Tryz.prog fn (en q)) w0:=aC (f) (λh=>gR [[(0,bF h)],[]] (e h))
theorem mm{c:Bool}{b:apJ α}{en:α->AV}{fn:Func}(f:c=true->IE b λq=>q=y->GW Tryz.prog r N0 (kQ Tryz.prog fn (en q)) w0)(e:∀h:c=false,ue Tryz.prog fn.results.toList (wk Tryz.prog w0 [[(0,bT (eC h))],[]])=some (en x,dH (P:=Tryz.prog) [[(0,bT (eC h))],[]]):=by intro h;kernel_rfl):IE (bif c then b else some x) λq=>q=y->GW Tryz.prog r N0 (kQ Tryz.prog fn (en q)) w0:=aC (f) (λh=>gR [[(0,bT (eC h))],[]] (e h))
theorem gJ{c:Bool}{b:apJ α}{en:α->AV}{fn:Func}(f:∀h:c=false,IE b λq=>q=y->GW Tryz.prog r N0 (kQ Tryz.prog fn (en q)) (wk Tryz.prog w0 [[(0,bF h)],[]]))(e:∀h:c=true,ue Tryz.prog fn.results.toList (wk Tryz.prog w0 [[(0,bT h)],[]])=some (en x,dH (P:=Tryz.prog) [[(0,bT h)],[]]):=by intro h;kernel_rfl)(e2:∀h:c=false,ur (wk Tryz.prog w0 [[(0,bF h)],[]])=some (dH (P:=Tryz.prog) [[(0,bF h)],[]]):=by intro h;kernel_rfl):IE (bif c then some x else b) λq=>q=y->GW Tryz.prog r N0 (kQ Tryz.prog fn (en q)) w0:=aC (λh=>gR [[(0,bT h)],[]] (e h)) (λh=>gA [[(0,bF h)],[]] (f h) (e2 h))
def t0{c:Bool}(h:c=true):Nat×Ob Tryz.prog:=(0,bT h)
def f0{c:Bool}(h:c=false):Nat×Ob Tryz.prog:=(0,bF h)
theorem li{w1:WO}(f:∀q,GW Tryz.prog r N0 (Q q) w1->GW Tryz.prog r N0 (Q q) w0)(k:IE o λq=>q=y->GW Tryz.prog r N0 (Q q) w1):IE o λq=>q=y->GW Tryz.prog r N0 (Q q) w0:=λv h q=>f v (k v h q)
theorem liH{w1:WO}{p:Prop}(f:∀q,(p->GW Tryz.prog r N0 (Q q) w1)->GW Tryz.prog r N0 (Q q) w0)(k:p->IE o λq=>q=y->GW Tryz.prog r N0 (Q q) w1):IE o λq=>q=y->GW Tryz.prog r N0 (Q q) w0:=λv h q=>f v λa=>k a v h q
theorem gT{β:Type}{f:apH β->apH (apH D)}{z:Nat}(F:DL f z)(k:Nat)(l:apH β)(h:l.length<=maxLen->IE o λq=>q=y->GW Tryz.prog r N0 (Q q) w0)(hx:(bp (wS w0).t k).fA=some (f l):=by kernel_rfl):IE o λq=>q=y->GW Tryz.prog r N0 (Q q) w0:=λv h2 q=>BZ F k l (λa=>h a v h2 q) hx
theorem gB{β:Type}{f:apH β->apH (apH D)}{z:Nat}(F:DL f z)(b i:Nat)(l:apH β)(h:l.length<=maxLen->IE o λq=>q=y->GW Tryz.prog r N0 (Q q) w0)(hx:(((wS w0).h[b]?).bind λB=>match B with| .cells cs=>(cs[i]?).bind AV.fA|_=>none)=some (f l):=by kernel_rfl):IE o λq=>q=y->GW Tryz.prog r N0 (Q q) w0:=λv h2 q=>ahN F b i l (λa=>h a v h2 q) hx
theorem fw{f:FuncId}{fn:Func}{args:apH AV}{en:α->AV}(hf:Tryz.prog.funcs[f]?=some fn)(hw:∀{y},IE o λq=>q=y->GW Tryz.prog none 0 (kQ Tryz.prog fn (en q)) (yd fn args []))(hb:fn.body.isSome=true:=by kernel_rfl)(hn:(fn.name== "runtime.NumGoroutine")=false:=by kernel_rfl):KO f args en o:=λr h=>Qi hf (hw r h rfl) hb hn
theorem fh{f:FuncId}{fn:Func}{args:apH AV}{h:apH an}{en:α->AV}{eh:α->apH an}(m:Nat)(hf:Tryz.prog.funcs[f]?=some fn)(hw:∀{y},IE o λq=>q=y->GW Tryz.prog none h.length (tW Tryz.prog fn m (en q) (eh q)) (yd fn args h))(hb:fn.body.isSome=true:=by kernel_rfl)(hn:(fn.name== "runtime.NumGoroutine")=false:=by kernel_rfl)(hm:h.length<=m:=by exact ao0 rfl):KP f args h en eh o:=λr q=>S3 m hf (hw r q rfl) hb hn hm
end
section
variable {α A B C D' R:Type} {rr:R} {r:apJ Nat} {N0:Nat} {Q:R->Exit->St->Prop} {w0:WO}
theorem fu(k:Nat)(ay:apH (apH (Nat×Ob Tryz.prog)))(live:apH Nat)(m:Nat){L:apH α}(st:Nat->St){G:apH α->Nat->apJ R}
 (nil:∀n,L.drop n=[]->∀f:St->Prop,IE (G [] n) λq=>q=rr->GW Tryz.prog r N0 (Q q) (inLoop k f (st n) (wk Tryz.prog w0 ay)))
 (cons:∀n x l,L.drop n=x::l->∀f:St->Prop,rp k live m L (λn(_:Unit)=>st n) (λl n _=>G l n) rr n x l () f->IE (G (x::l) n) λq=>q=rr->GW Tryz.prog r N0 (Q q) (inLoop k f (st n) (wk Tryz.prog w0 ay)))
 (hN:N0<=m:=by exact ao0 rfl) (e:ng live m (wk Tryz.prog w0 ay)=some (st 0,dH ay):=by kernel_rfl):IE (G L 0) λq=>q=rr->GW Tryz.prog r N0 (Q q) w0:=λv h q=>
 wl0 dO k ay live m L st G (q▸h) (λn a2 b2 f=>q▸nil n a2 f rr b2 rfl) (λn x l a2 b2 f c2=>q▸cons n x l a2 f c2 rr b2 rfl) hN e
theorem gn(k:Nat)(ay:apH (apH (Nat×Ob Tryz.prog)))(live:apH Nat)(m:Nat){L:apH α}(st:Nat->A->St){G:apH α->Nat->A->apJ R}{a0:A}
 (nil:∀n a,L.drop n=[]->∀f:St->Prop,IE (G [] n a) λq=>q=rr->GW Tryz.prog r N0 (Q q) (inLoop k f (st n a) (wk Tryz.prog w0 ay)))
 (cons:∀n x l a,L.drop n=x::l->∀f:St->Prop,rp k live m L st G rr n x l a f->IE (G (x::l) n a) λq=>q=rr->GW Tryz.prog r N0 (Q q) (inLoop k f (st n a) (wk Tryz.prog w0 ay)))
 (hN:N0<=m:=by exact ao0 rfl) (e:ng live m (wk Tryz.prog w0 ay)=some (st 0 a0,dH ay):=by kernel_rfl):IE (G L 0 a0) λq=>q=rr->GW Tryz.prog r N0 (Q q) w0:=λv h q=>
 IP dO k ay live m L st G a0 (q▸h) (λn a1 a2 b2 f=>q▸nil n a1 a2 f rr b2 rfl) (λn x l a1 a2 b2 f c2=>q▸cons n x l a1 a2 f c2 rr b2 rfl) hN e
theorem Wu(k:Nat)(ay:apH (apH (Nat×Ob Tryz.prog)))(live:apH Nat)(m:Nat){L:apH α}(st:Nat->A->B->St){G:apH α->Nat->A->B->apJ R}{a0:A}{b0:B}
 (nil:∀n a b,L.drop n=[]->∀f:St->Prop,IE (G [] n a b) λq=>q=rr->GW Tryz.prog r N0 (Q q) (inLoop k f (st n a b) (wk Tryz.prog w0 ay)))
 (cons:∀n x l a b,L.drop n=x::l->∀f:St->Prop,rp k live m L (λn(i:A×B)=>st n i.1 i.2) (λl n i=>G l n i.1 i.2) rr n x l (a,b) f->IE (G (x::l) n a b) λq=>q=rr->GW Tryz.prog r N0 (Q q) (inLoop k f (st n a b) (wk Tryz.prog w0 ay)))
 (hN:N0<=m:=by exact ao0 rfl) (e:ng live m (wk Tryz.prog w0 ay)=some (st 0 a0 b0,dH ay):=by kernel_rfl):IE (G L 0 a0 b0) λq=>q=rr->GW Tryz.prog r N0 (Q q) w0:=λv h q=>
 wl2 dO k ay live m L st G a0 b0 (q▸h) (λn a1 b1 a2 b2 f=>q▸nil n a1 b1 a2 f rr b2 rfl) (λn x l a1 b1 a2 b2 f c2=>q▸cons n x l a1 b1 a2 f c2 rr b2 rfl) hN e
theorem gb{ι:Type}{live:apH Nat}{m k:Nat}{L:apH α}{st:Nat->ι->St}{G:apH α->Nat->ι->apJ R}{n:Nat}{x:α}{l:apH α}{i:ι}{f:St->Prop}(hf:rp k live m L st G rr n x l i f)(j:ι)(ay:apH (apH (Nat×Ob Tryz.prog)))(hd:L.drop n=x::l)(e1:jQ k (wK w0)=[f]:=by kernel_rfl)(e:qe k live m (wk Tryz.prog w0 ay)=some (st (n+1) j,dH ay):=by kernel_rfl):IE (G l (n+1) j) λq=>q=rr->GW Tryz.prog r N0 (Q q) w0:=λv h q=>wb dO hf j ay hd (q▸h) e1 e
theorem OV(k:Nat)(ay:apH (apH (Nat×Ob Tryz.prog)))(live:apH Nat)(m:Nat)(st:A->St)(G:Nat->A->apJ R){d:Nat}{a0:A}
 (succ:∀d a,∀f:St->Prop,vx k live m st G rr d f->IE (G (d+1) a) λq=>q=rr->GW Tryz.prog r N0 (Q q) (inLoop k f (st a) (wk Tryz.prog w0 ay))) (h0:∀a,G 0 a=none:=by intros;rfl)
 (hN:N0<=m:=by exact ao0 rfl) (e:ng live m (wk Tryz.prog w0 ay)=some (st a0,dH ay):=by kernel_rfl):IE (G d a0) λq=>q=rr->GW Tryz.prog r N0 (Q q) w0:=λv h q=>wf1 dO k ay live m st G d a0 (q▸h) (λd a1 b2 f c2=>q▸succ d a1 f c2 rr b2 rfl) h0 hN e
theorem yO(k:Nat)(ay:apH (apH (Nat×Ob Tryz.prog)))(live:apH Nat)(m:Nat)(st:A->B->St)(G:Nat->A->B->apJ R){d:Nat}{a0:A}{b0:B}
 (succ:∀d a b,∀f:St->Prop,vx k live m (λ(i:A×B)=>st i.1 i.2) (λd i=>G d i.1 i.2) rr d f->IE (G (d+1) a b) λq=>q=rr->GW Tryz.prog r N0 (Q q) (inLoop k f (st a b) (wk Tryz.prog w0 ay))) (h0:∀a b,G 0 a b=none:=by intros;rfl)
 (hN:N0<=m:=by exact ao0 rfl) (e:ng live m (wk Tryz.prog w0 ay)=some (st a0 b0,dH ay):=by kernel_rfl):IE (G d a0 b0) λq=>q=rr->GW Tryz.prog r N0 (Q q) w0:=λv h q=>wf2 dO k ay live m st G d a0 b0 (q▸h) (λd a1 b1 b2 f c2=>q▸succ d a1 b1 f c2 rr b2 rfl) h0 hN e
theorem qO{ι:Type}{live:apH Nat}{m k:Nat}{st:ι->St}{G:Nat->ι->apJ R}{d:Nat}{f:St->Prop}(hf:vx k live m st G rr d f)(j:ι)(ay:apH (apH (Nat×Ob Tryz.prog)))(e1:jQ k (wK w0)=[f]:=by kernel_rfl)(e:qe k live m (wk Tryz.prog w0 ay)=some (st j,dH ay):=by kernel_rfl):IE (G d j) λq=>q=rr->GW Tryz.prog r N0 (Q q) w0:=λv h q=>wbf dO hf j ay (q▸h) e1 e
theorem gv{o:apJ R}(k:Nat)(ay:apH (apH (Nat×Ob Tryz.prog)))(live:apH Nat)(m:Nat)(st:A->St)(G:A->apJ R)
 (br:∀f:St->Prop,A7 k live m st (λa=>G a=some rr) f->IE o λq=>q=rr->GW Tryz.prog r N0 (Q q) (Bg k f (wk Tryz.prog w0 ay)))
 (rest:∀a,IE (G a) λq=>q=rr->GW Tryz.prog r N0 (Q q) (Aq (st a) (wk Tryz.prog w0 ay))) (hN:N0<=m:=by exact ao0 rfl) (e:vZ (wk Tryz.prog w0 ay)=some (dH ay):=by kernel_rfl):IE o λq=>q=rr->GW Tryz.prog r N0 (Q q) w0:=λv h q=>wj1 dO rr k ay live m st G (λf a=>br f a v h q) (λa1 b2=>q▸rest a1 rr b2 rfl) hN e
theorem gm{ι:Type}{live:apH Nat}{m k:Nat}{st:ι->St}{G:ι->apJ R}{f:St->Prop}(hf:A7 k live m st (λi=>G i=some rr) f)(i:ι)(ay:apH (apH (Nat×Ob Tryz.prog)))(e1:jQ k (wK w0)=[f]:=by kernel_rfl)(e:qe k live m (wk Tryz.prog w0 ay)=some (st i,dH ay):=by kernel_rfl):IE (G i) λq=>q=rr->GW Tryz.prog r N0 (Q q) w0:=λv h q=>Mb dO hf i ay (q▸h) e1 e
structure BX{α ι R:Type}(k:Nat)(live:List Nat)(m:Nat)(ks:List Nat)(kn:List (Nat×Nat))(L:List α)(st:Nat->ι->St)(G:List α->Nat->ι->Option R)(rr:R)(n:Nat)(x:α)(l:List α)(i:ι)(f:St->Prop):Prop where
 h:Se k live m ks kn (λz:Nat×List α×ι=>st z.1 z.2.2) (λz=>L.drop z.1=z.2.1/\G z.2.1 z.1 z.2.2=some rr) (λz=>z.2.1.length) (n,x::l,i) f
theorem jH(k:Nat)(ay:apH (apH (Nat×Ob Tryz.prog)))(live:apH Nat)(m:Nat)(ks:apH Nat)(kn:apH (Nat×Nat)){L:apH α}(st:Nat->A->St){G:apH α->Nat->A->apJ R}{a0:A}
 (nil:∀n a,L.drop n=[]->∀f:St->Prop,IE (G [] n a) λq=>q=rr->GW Tryz.prog r N0 (Q q) (inLoop k f (st n a) (wk Tryz.prog w0 ay)))
 (cons:∀n x l a,L.drop n=x::l->∀f:St->Prop,BX k live m ks kn L st G rr n x l a f->IE (G (x::l) n a) λq=>q=rr->GW Tryz.prog r N0 (Q q) (inLoop k f (st n a) (wk Tryz.prog w0 ay)))
 (hN:N0<=m:=by exact ao0 rfl) (gO:apH (VE m):=[]) (e0:wO m (wk Tryz.prog w0 ay)=gO.map VE.x:=by kernel_rfl) (e:C0 live m ks kn (wk Tryz.prog w0 ay)=some (st 0 a0,dH ay):=by kernel_rfl):IE (G L 0 a0) λq=>q=rr->GW Tryz.prog r N0 (Q q) w0:=λv h q=>
 amz dO k ay live m ks kn (λz:Nat×apH α×A=>st z.1 z.2.2) (λz=>L.drop z.1=z.2.1/\G z.2.1 z.1 z.2.2=some rr) (λz=>z.2.1.length) (0,L,a0) ⟨rfl,q▸h⟩ (λz hz f hf=>by
  obtain⟨n,l,i⟩:=z;obtain⟨h1,h2⟩:=hz;rw[q];cases l with
  |nil=>exact nil n i h1 f rr h2 rfl
  |cons x l=>exact cons n x l i h1 f ⟨hf⟩ rr h2 rfl) hN gO e0 e
theorem gx0(k:Nat)(ay:apH (apH (Nat×Ob Tryz.prog)))(live:apH Nat)(m:Nat)(ks:apH Nat)(kn:apH (Nat×Nat)){L:apH α}(st:Nat->St){G:apH α->Nat->apJ R}
 (nil:∀n,L.drop n=[]->∀f:St->Prop,IE (G [] n) λq=>q=rr->GW Tryz.prog r N0 (Q q) (inLoop k f (st n) (wk Tryz.prog w0 ay)))
 (cons:∀n x l,L.drop n=x::l->∀f:St->Prop,BX k live m ks kn L (λn(_:Unit)=>st n) (λl n _=>G l n) rr n x l () f->IE (G (x::l) n) λq=>q=rr->GW Tryz.prog r N0 (Q q) (inLoop k f (st n) (wk Tryz.prog w0 ay)))
 (hN:N0<=m:=by exact ao0 rfl) (gO:apH (VE m):=[]) (e0:wO m (wk Tryz.prog w0 ay)=gO.map VE.x:=by kernel_rfl) (e:C0 live m ks kn (wk Tryz.prog w0 ay)=some (st 0,dH ay):=by kernel_rfl):IE (G L 0) λq=>q=rr->GW Tryz.prog r N0 (Q q) w0:=
 jH k ay live m ks kn (λn(_:Unit)=>st n) (G:=(λl n _=>G l n)) (a0:=()) (λn i=>nil n) (λn x l i=>cons n x l) hN gO e0 e
theorem gx2(k:Nat)(ay:apH (apH (Nat×Ob Tryz.prog)))(live:apH Nat)(m:Nat)(ks:apH Nat)(kn:apH (Nat×Nat)){L:apH α}(st:Nat->A->B->St){G:apH α->Nat->A->B->apJ R}{a0:A}{b0:B}
 (nil:∀n a b,L.drop n=[]->∀f:St->Prop,IE (G [] n a b) λq=>q=rr->GW Tryz.prog r N0 (Q q) (inLoop k f (st n a b) (wk Tryz.prog w0 ay)))
 (cons:∀n x l a b,L.drop n=x::l->∀f:St->Prop,BX k live m ks kn L (λn(i:A×B)=>st n i.1 i.2) (λl n i=>G l n i.1 i.2) rr n x l (a,b) f->IE (G (x::l) n a b) λq=>q=rr->GW Tryz.prog r N0 (Q q) (inLoop k f (st n a b) (wk Tryz.prog w0 ay)))
 (hN:N0<=m:=by exact ao0 rfl) (gO:apH (VE m):=[]) (e0:wO m (wk Tryz.prog w0 ay)=gO.map VE.x:=by kernel_rfl) (e:C0 live m ks kn (wk Tryz.prog w0 ay)=some (st 0 a0 b0,dH ay):=by kernel_rfl):IE (G L 0 a0 b0) λq=>q=rr->GW Tryz.prog r N0 (Q q) w0:=
 jH k ay live m ks kn (λn(i:A×B)=>st n i.1 i.2) (G:=(λl n i=>G l n i.1 i.2)) (a0:=(a0,b0)) (λn i=>nil n i.1 i.2) (λn x l i=>cons n x l i.1 i.2) hN gO e0 e
theorem jm{ι:Type}{live:apH Nat}{m k:Nat}{ks:apH Nat}{kn:apH (Nat×Nat)}{L:apH α}{st:Nat->ι->St}{G:apH α->Nat->ι->apJ R}{n:Nat}{x:α}{l:apH α}{i:ι}{f:St->Prop}(hf:BX k live m ks kn L st G rr n x l i f)(j:ι)(ay:apH (apH (Nat×Ob Tryz.prog)))(hd:L.drop n=x::l)(e1:jQ k (wK w0)=[f]:=by kernel_rfl)(gO:apH (VE m):=[])(e0:wO m (wk Tryz.prog w0 ay)=gO.map VE.x:=by kernel_rfl)(e:AT k live m ks kn (wk Tryz.prog w0 ay)=some (st (n+1) j,dH ay):=by kernel_rfl):IE (G l (n+1) j) λq=>q=rr->GW Tryz.prog r N0 (Q q) w0:=λv h q=>
 adW dO hf.h (n+1,l,j) ay ⟨sf hd,q▸h⟩ (apF _) e1 gO e0 e
theorem adA{o:apJ R}(k:Nat)(ay:apH (apH (Nat×Ob Tryz.prog)))(live:apH Nat)(m:Nat)(ks:apH Nat)(kn:apH (Nat×Nat))(st:A->St)(G:A->apJ R)
 (br:∀f:St->Prop,Jn k live m ks kn st (λi=>G i=some rr) f->IE o λq=>q=rr->GW Tryz.prog r N0 (Q q) (Bg k f (wk Tryz.prog w0 ay)))
 (rest:∀a,IE (G a) λq=>q=rr->GW Tryz.prog r N0 (Q q) (Aq (st a) (wk Tryz.prog w0 ay))) (hN:N0<=m:=by exact ao0 rfl) (e:vZ (wk Tryz.prog w0 ay)=some (dH ay):=by kernel_rfl):IE o λq=>q=rr->GW Tryz.prog r N0 (Q q) w0:=λv h q=>
 aji dO k ay live m ks kn st (λi=>G i=some rr) (λf a=>br f a v h q) (λi hi=>q▸rest i rr hi rfl) hN e
theorem Wc{ι:Type}{live:apH Nat}{m k:Nat}{ks:apH Nat}{kn:apH (Nat×Nat)}{st:ι->St}{G:ι->apJ R}{f:St->Prop}(hf:Jn k live m ks kn st (λi=>G i=some rr) f)(i:ι)(ay:apH (apH (Nat×Ob Tryz.prog)))(e1:jQ k (wK w0)=[f]:=by kernel_rfl)(gO:apH (VE m):=[])(e0:wO m (wk Tryz.prog w0 ay)=gO.map VE.x:=by kernel_rfl)(e:AT k live m ks kn (wk Tryz.prog w0 ay)=some (st i,dH ay):=by kernel_rfl):IE (G i) λq=>q=rr->GW Tryz.prog r N0 (Q q) w0:=λv h q=>
 aog dO hf i ay (q▸h) gO e0 e1 e
end
set_option maxRecDepth 100000
def LN:Code->Code
 | .seq x _=>x
 |_=> .skip
def tD:Code->Code
 | .seq _ y=>y
 |_=> .skip
def B3:Code->Code
 | .block _ c=>c
 | .loop c=>c
 |_=> .skip
def Hz:Code->apH Oper
 | .region _ ops _=>ops.toList
 |_=>[]
noncomputable def abL:Code:=LN (tD (tD (Tryz.f24.body.getD .skip)))
noncomputable def pF:apH Oper:=Hz (LN abL)
noncomputable def Zp:Code:=B3 (B3 (tD abL))
noncomputable def tQ:apH Oper:=Hz (LN Zp)
noncomputable def abX:Code:=B3 (tD (tD Zp))
noncomputable def uE:apH Oper:=Hz (LN abX)
noncomputable def Nh:apH Oper:=Hz (tD abX)
noncomputable def DP:Code:= .loop (.seq (.region 3 tQ.toArray false) (.seq (.cond (.tmp 18) .skip (.exit 0)) (.block 1 (.seq (.region 4 uE.toArray false) (.region 5 Nh.toArray false)))))
noncomputable def EY:Oper:=pF.getD 2 default
noncomputable def E5:Oper:=tQ.getD 0 default
noncomputable def Eo:Oper:=uE.getD 0 default
theorem akU:pF=pF.take 2++[EY]:=by kernel_rfl
theorem aiV:tQ=E5::tQ.drop 1:=by kernel_rfl
theorem aiA:uE=Eo::uE.drop 1:=by kernel_rfl
def cpZ:apH AV:=[(aL (bs [])),(aq (0:Int)),(aq (0:Int)),(aq (0:Int)),(aq (0:Int)),(aq (0:Int)),(.d (.sl [])),(.d (.sl [])),(aq (0:Int)),(aq (0:Int)),(aL (bs [])),(de (0:Int64)),(de (0:Int64)),(aq (0:Int)),(aq (0:Int)),(aq (0:Int)),(aq (0:Int)),(aq (0:Int)),(de (0:Int64)),(.d (.sl [])),(.d (.sl [])),(.d (.sl []))]
def za(v1:aX)(v3:apH (apI×apI))(B0 B5:an)(l:apH an):apH an:=B0:: .map (bD v3):: .cells (fm v1).cells:: .cells [(.mp 0),(.mp 1)]:: .cells cpZ::B5:: .cells [(.mp 5),(.mp 1)]::l
def Aa(l:apH (Nat×AV)):apH (Nat×AV):=(2, .ptr 2 0)::(3, .ptr 3 0)::(4, .ptr 4 0)::(5, .ptr 6 0)::l
def Hb(v1:aX)(v3 e:apH (apI×apI))(i:apH Nat×apH (apI×apI)):St:=⟨62,Aa [(16, .ptr 7 0)],za v1 v3 (.fR (bD e)) (.map (bD i.2)) [.it ((bD e).length,i.1) [.mp 0]]⟩
def Ni(v1:aX)(v3 e:apH (apI×apI))(i:apH Nat×apH (apI×apI)):St:=⟨62,(18,aZ false)::(17, .bA [aZ false])::Aa [(16, .ptr 7 0)],za v1 v3 (.fR (bD e)) (.map (bD i.2)) [.it ((bD e).length,i.1) [.mp 0]]⟩
theorem Hr:E5.op= .next (.tmp 16) false/\E5.guard=none/\E5.dst=some 17:=by refine⟨?_,?_,?_⟩<;>kernel_rfl
theorem RI:Eo.op= .entry (.tmp 16)/\Eo.guard=none/\Eo.dst=some 19:=by refine⟨?_,?_,?_⟩<;>kernel_rfl
theorem P5:EY.op= .range 76 (.tmp 15)/\EY.guard=none/\EY.dst=some 16:=by refine⟨?_,?_,?_⟩<;>kernel_rfl
theorem afE{e:apH (apI×apI)}{b:Nat}{p:apI×D}(h:(bD e)[b]?=some p):∃q,e[b]?=some q/\p=(q.1, .v (.string q.2)):=by
 unfold bD at h;rw[aoZ]at h;cases hq:e[b]? with
 |none=>rw[hq]at h;cases h
 |some q=>rw[hq]at h;cases h;exact⟨q,rfl,rfl⟩
section
variable {r:apJ Nat} {N0:Nat}
theorem ako(v1:aX)(v3 e:apH (apI×apI))(seen:apH Nat)(nC:apH (apI×apI))(hr:∀b q,e[b]?=some q->b ∉ seen->(bD nC).length<maxLen){Q:Exit->St->Prop}
 (hq:∀b q s1,e[b]?=some q->b ∉ seen->iW s1 [2,3,4,5,16] 8=some (Hb v1 v3 e (seen++[b],q::nC))->Q .normal s1)
 (hx:(∀b,b<(bD e).length->b∈seen)->∀K,bj Tryz.prog r N0 (.exit 0) (gp K Q) (Ni v1 v3 e (seen,nC))):
 bj Tryz.prog r N0 (B3 DP) Q (Hb v1 v3 e (seen,nC)):=by
 show bj Tryz.prog r N0 (.seq (.region 3 tQ.toArray false) (.seq (.cond (.tmp 18) .skip (.exit 0)) (.block 1 (.seq (.region 4 uE.toArray false) (.region 5 Nh.toArray false))))) Q _;refine bP (fy ?_);rw[show(tQ.toArray).toList=E5::tQ.drop 1 from aiV];refine Rx Hr.2.1 ?_;unfold ru;rw[Hr.1];refine⟨rfl,λb p hb hs=> ?_,λeK=> ?_⟩
 ·obtain⟨q,fj,rfl⟩:=afE hb;rw[Hr.2.2];refine E7 (s1:=⟨62,(18,aZ true)::(17, .bA [aZ true,aL q.1,aL q.2])::Aa [(16, .ptr 7 0)],za v1 v3 (.fR (bD e)) (.map (bD nC)) [.it ((bD e).length,seen++[b]) [.mp 0]]⟩) (tQ.drop 1) 1 [] (ps:=[]) (by kernel_rfl) (λ_ h=>by cases h) ?_;refine bP (E3 (t:=true) rfl (λ_=>jG ?_) λh=>by cases h);refine kf (bP (fy ?_));rw[show(uE.toArray).toList=Eo::uE.drop 1 from aiA];refine Rx RI.2.1 ?_;unfold ru;rw[RI.1];refine⟨rfl,seen,b,_,rfl,hb,?_⟩;rw[RI.2.2];refine E7 (s1:=⟨62,(7,aL q.2)::(6,aL q.1)::(21,aL q.2)::(20,aL q.1)::(19, .bA [aL q.1,aL q.2])::(18,aZ true)::(17, .bA [aZ true,aL q.1,aL q.2])::Aa [(16, .ptr 7 0)],za v1 v3 (.fR (bD e)) (.map (bD nC)) [.it ((bD e).length,seen++[b]) [.mp 0]]⟩) (uE.drop 1) 1 [] (ps:=[]) (by kernel_rfl) (λ_ h=>by cases h) ?_;refine fy ?_;have nM:(Sd.lt (bD nC).length).ok:=hr b q fj hs;refine E7 (s1:=⟨62,(25,aL q.2)::(24,aL q.1)::(23, .mp 5)::(22, .ptr 6 0)::(7,aL q.2)::(6,aL q.1)::(21,aL q.2)::(20,aL q.1)::(19, .bA [aL q.1,aL q.2])::(18,aZ true)::(17, .bA [aZ true,aL q.1,aL q.2])::Aa [(16, .ptr 7 0)],za v1 v3 (.fR (bD e)) (.map (bD (q::nC))) [.it ((bD e).length,seen++[b]) [.mp 0]]⟩) Nh 0 (iX [(13,(⟨_,_, .sd (o:= .none) nM⟩:Ob Tryz.prog))]) (ps:=jP [(13,(⟨_,_, .sd (o:= .none) nM⟩:Ob Tryz.prog))]) (by kernel_rfl) (qS _) ?_
  exact hq b q _ fj hs (by kernel_rfl)
 ·rw[Hr.2.2];refine E7 (s1:=Ni v1 v3 e (seen,nC)) (tQ.drop 1) 1 [] (ps:=[]) (by kernel_rfl) (λ_ h=>by cases h) ?_;exact bP (E3 (t:=false) rfl (λh=>by cases h) λ_=>hx eK _)
structure DK(e:List (ByteArray×ByteArray))(i:List Nat×List (ByteArray×ByteArray)):Prop where
 nd:i.1.Nodup
 lt:∀b∈i.1,b<e.length
 len:i.2.length=i.1.length
 mem:∀q,q∈i.2↔∃b∈i.1,e[b]?=some q
theorem YW{l:apH Nat}{n:Nat}(h:l.Nodup)(hl:∀b∈l,b<n):l.length<=n:=by
 have:=List.Nodup.length_le_of_subset h (l₂:=List.range n) λb hb=>List.mem_range.2 (hl b hb)
 simpa using this
theorem DK.step{e:apH (apI×apI)}{i:apH Nat×apH (apI×apI)}(h:DK e i){b:Nat}{q:apI×apI}(hb:e[b]?=some q)(hs:b ∉ i.1):DK e (i.1++[b],q::i.2):=by
 refine⟨?_,λx hx=> ?_,by simp [h.len],λy=> ?_⟩
 ·refine List.nodup_append.2 ⟨h.nd,by simp,λx hx y hy=> ?_⟩;rintro rfl;rw[List.mem_singleton]at hy;exact hs (hy▸hx)
 ·rcases apv.1 hx with hx|hx
  ·exact h.lt x hx
  ·rw[List.mem_singleton]at hx;subst hx;exact(aoS.1 hb).1
 ·rw[apm,h.mem];constructor
  ·rintro(rfl|⟨x,hx,ex⟩)
   ·exact⟨b,by simp,hb⟩
   ·exact⟨x,by simp [hx],ex⟩
  ·rintro⟨x,hx,ex⟩;rcases apv.1 hx with hx|hx
   ·exact .inr ⟨x,hx,ex⟩
   ·rw[List.mem_singleton]at hx;subst hx;rw[hb]at ex;cases ex
    exact .inl rfl
theorem al9(hN:N0<=8)(v1:aX)(v3 e:apH (apI×apI))(hm:(bD e).length<=maxLen){Q:Exit->St->Prop}{s:St}(h0:iW s [2,3,4,5,16] 8=some (Hb v1 v3 e ([],[])))
 (hx:∀i,DK e i->(∀b,b<(bD e).length->b∈i.1)->∀K1 K2,bj Tryz.prog r N0 (.exit 0) (gp K1 (gp K2 Q)) (Ni v1 v3 e i)):bj Tryz.prog r N0 DP Q s:=by
 show bj Tryz.prog r N0 (.loop (B3 DP)) Q s;have hlen:(bD e).length=e.length:=by unfold bD;rw[aoX]
 refine VJ [2,3,4,5,16] 8 (Hb v1 v3 e) (DK e) (λi=>e.length-i.1.length) ([],[]) hN h0 ⟨List.nodup_nil,λ_ h=>(by cases h),rfl,λq=>(by simp)⟩ λi hi=> ?_;obtain⟨seen,nC⟩:=i;have aH:∀b q,e[b]?=some q->b ∉ seen->seen.length<e.length:=λb q hb hs=>by
  have:=YW (hi.step hb hs).nd (hi.step hb hs).lt;simp at this;omega
 refine ako v1 v3 e seen nC (λb q hb hs=> ?_) (λb q s1 hb hs hc=>⟨_,hc,hi.step hb hs,?_⟩) λeK K=> ?_
 ·have h1:=aH b q hb hs;have h2:nC.length=seen.length:=hi.len;unfold bD;rw[aoX];omega
 ·have h1:=aH b q hb hs;simp only[aoT,aoV,ao4];omega
 ·exact hx (seen,nC) hi eK K _
theorem UR:∀{l:apH (apI×D)}{x:apI},eF l x=none->∀d,(x,d)∉ l
 |(k,e)::l,x,h,d,hm=>by
  rw[tq]at h;split at h
  ·cases h
  ·next hk=>
   rcases apm.1 hm with hm|hm
   ·cases hm;exact hk rfl
   ·exact UR h d hm
theorem aeF{a b:apH (apI×D)}(hn:(a.map (·.1)).Nodup)(h:∀p,p∈b↔p∈a)(x:apI):eF b x=eF a x:=by
 cases hb:eF b x with
 |some d=>exact(J8 hn ((h _).1 (Ft hb))).symm
 |none=>
  cases ha:eF a x with
  |none=>rfl
  |some d=>exact absurd ((h _).2 (Ft ha)) (UR hb d)
theorem akI{dY:apH (apI×D)}{v:apH (apI×apI)}(h:∀x,eF dY x=eF (bD v) x)(hn:(dY.map (·.1)).Nodup):∃e,dY=bD e:=by
 have key:∀l:apH (apI×D),(∀p∈l,p∈dY)->∃e,l=bD e:=by
  intro l
  induction l with
  |nil=>exact λ_=>⟨[],rfl⟩
  |cons p l ih=>
   intro hl;obtain⟨e,rfl⟩:=ih λq hq=>hl q (ao1 _ hq);obtain⟨k,d⟩:=p;have h1:=J8 hn (hl (k,d) aoY);rw[h]at h1;have h2:=Ft h1;unfold bD at h2;obtain⟨q,_,eq⟩:=List.mem_map.1 h2;cases eq
   exact⟨q::e,rfl⟩
 exact key dY λ_ h=>h
noncomputable def Cw:Code:=tD (tD (tD (Tryz.f24.body.getD .skip)))
noncomputable def Iy(v1:aX)(v2 v3:apH (apI×apI)):WO:=wk Tryz.prog (yd Tryz.f24 [(fm v1),(.agg [(.mp 0),(.mp 1)])] [.map (bD v2), .map (bD v3)]) [[],[]]
noncomputable def tE(v1:aX)(v2 v3:apH (apI×apI)):St:=wS (Iy v1 v2 v3)
def RS(v1:aX)(v2 v3:apH (apI×apI)):St:=⟨62,Aa [],za v1 v3 (.map (bD v2)) (.map (bD v2)) []⟩
theorem aky(v1:aX)(v2 v3:apH (apI×apI)):Iy v1 v2 v3=some (.at (.region 2 pF.toArray false) [.S (.block 0 DP), .S Cw] (tE v1 v2 v3),[]):=by kernel_rfl
theorem an8(v1:aX)(v2 v3:apH (apI×apI)):(tE v1 v2 v3).h[0]?=some (.map (bD v2)):=by kernel_rfl
noncomputable def R8(v1:aX)(v2 v3 e:apH (apI×apI)):St:=match iY Tryz.prog pF.toArray false (pF.take 2) 0 [] ⟨(tE v1 v2 v3).n,(tE v1 v2 v3).t,(tE v1 v2 v3).h.set 0 (.fR (bD e))⟩with
 |some (s,_)=>s
 |none=>⟨0,[],[]⟩
theorem ajk(v1:aX)(v2 v3 e:apH (apI×apI)):iY Tryz.prog pF.toArray false (pF.take 2) 0 [] ⟨(tE v1 v2 v3).n,(tE v1 v2 v3).t,(tE v1 v2 v3).h.set 0 (.fR (bD e))⟩=some (R8 v1 v2 v3 e,[]):=by kernel_rfl
theorem ahi(v1:aX)(v2 v3 e:apH (apI×apI)):ev (R8 v1 v2 v3 e) (.tmp 15)= .mp 0:=by kernel_rfl
theorem aed(v1:aX)(v2 v3 e:apH (apI×apI)):(R8 v1 v2 v3 e).h[0]?=some (.fR (bD e)):=by kernel_rfl
theorem aec:tY Tryz.prog 76=some (9,9):=by kernel_rfl
theorem aeT{Q:Exit->St->Prop}(hN:N0<=7)(v1:aX)(v2 v3:apH (apI×apI))(k:GW Tryz.prog r N0 Q (some (.at Cw [] (RS v1 v2 v3),[]))):GW Tryz.prog r N0 Q (Iy v1 v2 v3):=by
 rw[aky];constructor
 show bj Tryz.prog r N0 (.region 2 pF.toArray false) (gp (λs=>bj Tryz.prog r N0 (.block 0 DP) (gp (λs=>bj Tryz.prog r N0 Cw Q s) Q) s) (gp (λs=>bj Tryz.prog r N0 Cw Q s) Q)) (tE v1 v2 v3);refine akp 0 (bD v2) (an8 v1 v2 v3) λdY e1 e2 e3 e4=> ?_;obtain⟨e,rfl⟩:=akI e1 e2;refine fy ?_;rw[show(pF.toArray).toList=pF.take 2++[EY]from akU];refine agc _ (ajk v1 v2 v3 e) P5.2.1 ?_;unfold ru;rw[P5.1];simp only[aec,ahi,aed,P5.2.2];refine kf (al9 (by omega) v1 v3 e e4 (by kernel_rfl) λi hi eK K1 K2=> ?_);have hlen:(bD e).length=e.length:=by unfold bD;rw[aoX]
 have C3:(bD i.2).length=i.2.length:=by unfold bD;rw[aoX]
 have gZ:∀p,p∈bD i.2↔p∈bD e:=by
  intro p;unfold bD;rw[List.mem_map,List.mem_map];constructor
  ·rintro⟨q,hq,rfl⟩;obtain⟨b,_,hb⟩:=(hi.mem q).1 hq;exact⟨q,ao5 hb,rfl⟩
  ·rintro⟨q,hq,rfl⟩;obtain⟨b,hb,eb⟩:=List.getElem_of_mem hq;exact⟨q,(hi.mem q).2 ⟨b,eK b (by omega),by rw[aoW hb,eb]⟩,rfl⟩
 have hle:i.2.length<=e.length:=by rw[hi.len];exact YW hi.nd hi.lt
 refine ad5 0 (bD v2) (bD e) rfl (λx=>(e1 x).symm) e3 ?_;refine ae1 5 (bD v2) (bD i.2) rfl (λx=>by rw[aeF e2 gZ,e1]) (by omega) ?_;refine mc [2,3,4,5] 7 hN (s':=RS v1 v2 v3) (by kernel_rfl) ?_;exact uC k.run
theorem aj7{Q:Exit->St->Prop}(v1:aX)(v2 v3:apH (apI×apI))(k:GW Tryz.prog r N0 Q (some (.at Cw [] (RS v1 v2 v3),[])))(hN:N0<=7:=by exact ao0 rfl):GW Tryz.prog r N0 Q (Iy v1 v2 v3):=aeT hN v1 v2 v3 k
end
end Go.Proofs.YtmkmibahjanejaaGreatDoor
namespace Go.Proofs.YtmkmibahjanejaaGreatDoor
open Go.RowKit Go.Shelf Go.Sort
set_option maxRecDepth 100000
set_option linter.unusedVariables false
set_option linter.unusedSimpArgs false
instance:Inhabited bf:=⟨⟨ByteArray.empty,0⟩⟩
def lQ(x:bf):apH apL:=[.string x.ao, .int .i64 x.ck.toInt]
def lG(x y:bf):Int:=if bL x.ao<bL y.ao then-1 else if bL y.ao<bL x.ao then 1 else 0
theorem af6(a:apI)(w:apM):Calls Tryz.prog 103 #[.string a] w λe w'=>e= .returned (.bool false)/\w'=w:=by
 go_enter Tryz.func103,Tryz.ntmps103
 go_wp2
 go_ret
 exact⟨by simp,rfl⟩
theorem akx(a b:apI)(w:apM):Sem.run Tryz.prog (binOp .gtr 9 (.string a) (.string b)) w= .ok (.bool (Op.bytesLess b.toList a.toList)) w:=by
 have e:(!Op.bytesLess a.toList b.toList&& !a.toList==b.toList)=Op.bytesLess b.toList a.toList:=by
  have hl:∀c:apI,c.toList=bL c:=λc=>Lib.toList_data c;rw[bytesLess_eq,bytesLess_eq,hl,hl];by_cases h1:bL a<bL b
  ·have h2:¬bL b<bL a:=λh=>List.lt_irrefl _ (List.lt_trans h1 h);simp [h1,h2]
  ·by_cases h3:bL a=bL b
   ·have h2:¬bL b<bL a:=by rw[h3];exact List.lt_irrefl _
    simp [h2,h3]
   ·have h2:bL b<bL a:=Classical.byContradiction λh=>h3 (List.le_antisymm (List.not_lt.1 h) (List.not_lt.1 h1));simp [h1,h2,h3]
 simp [binOp,Op.stringOp,e]
theorem H0(a b:apI):Op.bytesLess a.toList b.toList=decide (bL a<bL b):=by rw[bytesLess_eq,Lib.toList_data,Lib.toList_data];rfl
theorem afb{x y:bf}(h:¬bL x.ao<bL y.ao)(h2:(!x.ao.toList==y.ao.toList)=true):Ending.returned (Value.int .i64 (lG x y))= .returned (.int .i64 1):=by
 have h3:bL y.ao<bL x.ao:=Classical.byContradiction λk=>by
  rw[Lib.toList_data,Lib.toList_data,Bool.not_eq_true',beq_eq_false_iff_ne]at h2;exact h2 (List.le_antisymm (List.not_lt.1 k) (List.not_lt.1 h))
 unfold lG;rw[if_neg h,if_pos h3]
theorem aoB{x y:bf}(h:¬bL x.ao<bL y.ao)(h2:(!x.ao.toList==y.ao.toList)=false):Ending.returned (Value.int .i64 (lG x y))= .returned (.int .i64 0):=by
 have h3:¬bL y.ao<bL x.ao:=λk=>by
  rw[Lib.toList_data,Lib.toList_data,Bool.not_eq_false',beq_iff_eq]at h2;have e:bL x.ao=bL y.ao:=h2;rw[e]at k;exact List.lt_irrefl _ k
 unfold lG;rw[if_neg h,if_neg h3]
theorem afT(x y:bf)(w:apM):Calls Tryz.prog 54 #[.string x.ao, .string y.ao] w λe w'=>e= .returned (.int .i64 (lG x y))/\w'=w:=by
 go_enter Tryz.func54,Tryz.ntmps54
 go_wp2_with (go_at_call 103;refine(af6 _ _).mono ?_;rintro e w' ⟨rfl,rfl⟩)
 ·next h=>
  rw[H0,decide_eq_true_iff]at h
  go_ret
  exact⟨by unfold lG;rw[if_pos h];rfl,rfl⟩
 all_goals
  have h:Op.bytesLess x.ao.toList y.ao.toList=false:=by assumption
  rw[H0,decide_eq_false_iff_not]at h;first
  |(have h2:(!x.ao.toList==y.ao.toList)=true:=by assumption
    go_ret
    exact⟨(afb h h2).symm,rfl⟩)
  |(have h2:(!x.ao.toList==y.ao.toList)=false:=by assumption
    go_ret
    exact⟨(aoB h h2).symm,rfl⟩)
  |(rw[akx]
    simp only[Result.andThen];rw[Oper.upon_value]
    go_wp2
    ·next h2=>
     rw[H0,decide_eq_true_iff]at h2
     go_ret
     exact⟨by unfold lG;rw[if_neg h,if_pos h2];rfl,rfl⟩
    ·next h2=>
     rw[H0,decide_eq_false_iff_not]at h2
     go_ret
     exact⟨by unfold lG;rw[if_neg h,if_neg h2];rfl,rfl⟩)
theorem adU(x y:bf)(W:apM):Calls Tryz.prog 53 #[.agg (lQ x).toArray, .agg (lQ y).toArray] W λe w'=>e= .returned (.int .i64 (lG x y))/\∃q os',w'=grow (W.drewN q) os':=by
 unfold lQ
 go_enter Tryz.func53,Tryz.ntmps53
 go_wp2_with (go_at_call 54;refine(afT x y _).mono ?_;rintro e w' ⟨rfl,rfl⟩)
 go_ret
 exact⟨rfl,0,_,by rw[alloc_eq_grow,alloc_eq_grow,grow_grow];rfl⟩
theorem aev(cu off size:Nat)(w:apM):CmpLays Tryz.prog 53 #[] lQ 2 lG cu off size w:=
 λ_ _ _ _ x y=>adU x y _
theorem LU(x y:bf):ltOf lG x y=decide (bL x.ao<bL y.ao):=by
 unfold ltOf lG;by_cases h1:bL x.ao<bL y.ao
 ·simp [h1]
 ·by_cases h2:bL y.ao<bL x.ao<;>simp [h1,h2]
theorem alK:SWO (ltOf lG) where
 irrefl x:=by rw[LU];exact apB (List.lt_irrefl _)
 trans x y z h1 h2:=by rw[LU,decide_eq_true_iff]at*;exact List.lt_trans h1 h2
 ntrans x y z h1 h2:=by rw[LU,decide_eq_false_iff_not]at*;exact λh=>h1 (by
  rw[List.not_lt]at*;exact absurd h (List.not_lt.2 (List.le_trans h2 h1)))
def ajD:Ren where
 f:=fun
  |6=>52
  |15=>102
  |14=>101
  |28=>151
  |29=>152
  |20=>143
  |21=>144
  |22=>145
  |23=>146
  |24=>147
  |25=>148
  |26=>149
  |27=>150
  |46=>183
  |47=>184
  |48=>185
  |49=>186
  |50=>187
  |57=>220
  |n=>n
 t:=fun
  |22=>50
  |24=>115
  |25=>119
  |3=>3
  |39=>165
  |0=>0
  |53=>204
  |55=>74
  |4=>4
  |46=>197
  |45=>196
  |50=>201
  |5=>5
  |9=>9
  |66=>229
  |70=>233
  |76=>249
  |77=>250
  |n=>n
 g:=λn=>n
theorem mZ{P:apK}{i:Nat}{f:Func}(n:String)(h:(n== "runtime.NumGoroutine")=false)(h2:P.funcs[i]?=some {f with name:=n}):Bears P i f:=⟨n,h,h2⟩
theorem Zy:SlLaysF0.n6 Tryz.prog ajD:=by
 constructor
 case f6=>exact mZ "slices.SortFunc[[]brocade/api.Mono,brocade/api.Mono]" (by kernel_rfl) (by kernel_rfl)
 case f14=>exact mZ "slices.pdqsortCmpFunc[brocade/api.Mono]" (by kernel_rfl) (by kernel_rfl)
 case f20=>exact mZ "slices.insertionSortCmpFunc[brocade/api.Mono]" (by kernel_rfl) (by kernel_rfl)
 case f21=>exact mZ "slices.heapSortCmpFunc[brocade/api.Mono]" (by kernel_rfl) (by kernel_rfl)
 case f22=>exact mZ "slices.breakPatternsCmpFunc[brocade/api.Mono]" (by kernel_rfl) (by kernel_rfl)
 case f23=>exact mZ "slices.choosePivotCmpFunc[brocade/api.Mono]" (by kernel_rfl) (by kernel_rfl)
 case f24=>exact mZ "slices.reverseRangeCmpFunc[brocade/api.Mono]" (by kernel_rfl) (by kernel_rfl)
 case f25=>exact mZ "slices.partialInsertionSortCmpFunc[brocade/api.Mono]" (by kernel_rfl) (by kernel_rfl)
 case f26=>exact mZ "slices.partitionEqualCmpFunc[brocade/api.Mono]" (by kernel_rfl) (by kernel_rfl)
 case f27=>exact mZ "slices.partitionCmpFunc[brocade/api.Mono]" (by kernel_rfl) (by kernel_rfl)
 case f46=>exact mZ "slices.siftDownCmpFunc[brocade/api.Mono]" (by kernel_rfl) (by kernel_rfl)
 case f49=>exact mZ "slices.medianAdjacentCmpFunc[brocade/api.Mono]" (by kernel_rfl) (by kernel_rfl)
 case f50=>exact mZ "slices.medianCmpFunc[brocade/api.Mono]" (by kernel_rfl) (by kernel_rfl)
 case f57=>exact mZ "slices.order2CmpFunc[brocade/api.Mono]" (by kernel_rfl) (by kernel_rfl)
 all_goals first|kernel_rfl|(intro w;rfl)
theorem akl{w:apM}{g:Nat}{cur:Array apL}{e:TypeId}{xs:apH bf}(hb:w.heap[g]?=some (.cells cur e (0,0)))(hc:∀(i j:Nat)(x:bf)(v:apL),xs[i]?=some x->(lQ x)[j]?=some v->cur[i*2+j]?=some v):HoldsK lQ 2 w g 0 xs.toArray:=by
 intro t ht;rw[size_flatK]at ht;have hl:t / 2<xs.length:=by simp at ht;omega
 have h2:t%2<2:=Nat.mod_lt _ (by omega);refine⟨?_,by simp [World.frozen?,hb]⟩;rw[get_flatK _ _ _ _ ht];have hx:xs[t / 2]?=some xs[t / 2]:=aoW hl;have hd:xs.toArray[t / 2]! =xs[t / 2]:=by simp [hl]
 rw[hd];have he:(lQ xs[t / 2])[t%2]?=some (lQ xs[t / 2])[t%2]! :=by
   have hle:(lQ xs[t / 2]).length=2:=rfl;rw[aoW (by omega),getElem!_pos _ _ (by omega)]
 have:=hc _ _ _ _ hx he;rw[show t / 2*2+t%2=0+t from by omega]at this;simp only[World.cell?,hb,Option.isSome_none,Bool.false_eq_true,if_false];exact this
theorem ago{w:apM}{g n:Nat}{os:Array Obj}{cur:Array apL}{e:TypeId}{fr:Nat×Nat}(F:Array apL)(hb:w.heap[g]?=some (.cells cur e fr)):
 (grow (putRow id (Sort.ahead w n) g 0 F) os).heap[g]?=some (.cells (putCells id 0 F cur) e fr):=by
 have hg:g<w.heap.size:=(ao7.1 hb).1;rw[heap_grow_old _ _ (by simpa using hg)];simp [putRow,mapBlock,Sort.ahead,Array.getElem?_modify,hb,onCells]
theorem age{w:apM}{g n:Nat}{os:Array Obj}(F:Array apL):w.grownBy (grow (putRow id (Sort.ahead w n) g 0 F) os) (some g):=by
 refine⟨rfl,rfl,rfl,by simp,λk hk cp=> ?_⟩;rw[heap_grow_old _ _ (by simpa using hk)];have:g≠k:=λe=>cp (by rw[e]);simp [putRow,mapBlock,Sort.ahead,Array.getElem?_modify,this]
def vM(x y:bf):Bool:=Op.bytesLess (bL x.ao) (bL y.ao)
def yf(x:bf):apH bf->apH bf
 |[]=>[x]
 |y::l=>bif vM x y then x::y::l else y::yf x l
def ib:apH bf->apH bf
 |[]=>[]
 |x::l=>yf x (ib l)
def tJ:apH bf->Bool
 |[]=>true
 |[_]=>true
 |x::y::l=>vM x y&&tJ (y::l)
theorem Jp(x y:bf):vM x y=decide (bL x.ao<bL y.ao):=by unfold vM;rw[bytesLess_eq]
theorem S0(x:bf):∀l,(yf x l).Perm (x::l)
 |[]=> .refl _
 |y::l=>by
  unfold yf;cases vM x y
  ·exact((S0 x l).cons y).trans (.swap x y l)
  ·exact .refl _
theorem oD:∀l,(ib l).Perm l
 |[]=> .refl _
 |x::l=>by unfold ib;exact(S0 x _).trans ((oD l).cons x)
theorem aao:∀l,tJ l=true->l.Pairwise λa b=>bL a.ao<bL b.ao
 |[],_=> .nil
 |[_],_=>by simp
 |x::y::l,h=>by
  unfold tJ at h;rw[aoU,Jp,decide_eq_true_iff]at h;have ih:=aao (y::l) h.2;refine .cons (λz hz=> ?_) ih;rcases apm.1 hz with rfl|hz
  ·exact h.1
  ·exact List.lt_trans h.1 ((List.pairwise_cons.1 ih).1 z hz)
theorem Kj{R:bf->bf->Prop}(asy:∀a b,R a b->R b a->False):∀(l m:apH bf),l.Perm m->l.Pairwise R->m.Pairwise R->l=m
 |[],m,h,_,_=>h.symm.eq_nil.symm
 |a::l,[],h,_,_=>absurd h.length_eq (by simp)
 |a::l,b::m,h,h1,h2=>by
  obtain⟨p1,p2⟩:=List.pairwise_cons.1 h1;obtain⟨q1,q2⟩:=List.pairwise_cons.1 h2;by_cases e:a=b
  ·subst e;rw[Kj asy l m (List.Perm.cons_inv h) p2 q2]
  ·exfalso;have ha:a∈m:=by
    rcases apm.1 (h.subset (aoY))with h'|h'
    ·exact absurd h' e
    ·exact h'
   have hb:b∈l:=by
    rcases apm.1 (h.symm.subset (aoY))with h'|h'
    ·exact absurd h'.symm e
    ·exact h'
   exact asy a b (p1 b hb) (q1 a ha)
theorem ahE(xs:apH bf)(bO:tJ (ib xs)=true)(d':Array bf)(hp:PermIn 0 xs.toArray.size xs.toArray d')(hs:SortedIn (ltOf lG) 0 xs.toArray.size d'):d'.toList=ib xs:=by
 obtain⟨h1,_,h3⟩:=hp;have e1:d'.extract 0 xs.toArray.size=d':=by rw[<-h1];simp
 have e2:xs.toArray.extract 0 xs.toArray.size=xs.toArray:=by simp
 rw[e1,e2]at h3;have TC:d'.toList.Perm xs:=h3;have hq:=aao _ bO;have cp:(ib xs).Pairwise λa b=>bL a.ao≠bL b.ao:=hq.imp λh e=>by rw[e]at h;exact List.lt_irrefl _ h
 have hd:d'.toList.Pairwise λa b=>bL a.ao≠bL b.ao:=((TC.trans (oD xs).symm).pairwise_iff λh e=>h e.symm).2 cp;have mI:d'.toList.Pairwise λa b=>bL a.ao<bL b.ao:=by
  rw[List.pairwise_iff_getElem]at hd ⊢;intro i j hi hj nG;have iC:j<xs.toArray.size:=by rw[<-h1];simpa using hj
  have c7:i<d'.size:=by simpa using hi
  have:=hs i j (Nat.zero_le _) nG iC;rw[getElem!_pos d' i c7,getElem!_pos d' j (by rw[h1];exact iC),LU,decide_eq_false_iff_not]at this;have hn:=hd i j hi hj nG;rw[Array.getElem_toList,Array.getElem_toList]at hn ⊢;exact Classical.byContradiction λh=>hn (List.le_antisymm (List.not_lt.1 this) (List.not_lt.1 h))
 exact Kj (λa b h1 h2=>List.lt_irrefl _ (List.lt_trans h1 h2)) _ _ (TC.trans (oD xs).symm) mI hq
theorem adO(g cap L:Nat)(xs:apH bf)(cur:Array apL)(e0:TypeId)(w:apM)(hb:w.heap[g]?=some (.cells cur e0 (0,0)))(hL:xs.length=L)(h0:L≠0)(gd:L*2<=cur.size)(hc:∀(i j:Nat)(x:bf)(v:apL),xs[i]?=some x->(lQ x)[j]?=some v->cur[i*2+j]?=some v)(eN:L<4611686018427387904)(bO:tJ (ib xs)=true):
 Calls Tryz.prog 52 #[.slice (some ⟨g,0,none⟩) L cap, .func (.func 53) #[] #[]] w λe w'=>e= .returned (.tuple #[])/\w.grownBy w' (some g)/\∃lk,w'.heap[g]?=some (.cells lk e0 (0,0))/\lk.size=cur.size/\∀(i j:Nat)(x:bf)(v:apL),(ib xs)[i]?=some x->(lQ x)[j]?=some v->lk[i*2+j]?=some v:=by
 have hg:g<w.heap.size:=(ao7.1 hb).1;have y9:xs.toArray.size=L:=by simpa using hL
 have eg:∀args w,(callFunc 53 args).run Tryz.prog w= .ok (.enter 53 args) w:=enters_of Tryz.func53 (by kernel_rfl) rfl;have h:Calls Tryz.prog 52 #[.slice (some ⟨g,0,none⟩) xs.toArray.size cap, .func (.func 53) #[] #[]] w λe w'=>
     e= .returned (.tuple #[])/\∃d' n os,PermIn 0 xs.toArray.size xs.toArray d'/\SortedIn (ltOf lG) 0 xs.toArray.size d'/\w'=sortWorldK lQ 2 w g 0 n d' os:=
  AnyQ.slices_SortFunc Zy 2 (by intro w;rfl) (by intro w;rfl) lQ (λ_=>rfl) (λx v hv=>by simp [lQ]at hv;rcases hv with rfl|rfl<;>rfl) lG alK 53 #[] g 0 cap xs.toArray w eg (aev g 0 _ w) (akl hb hc) hg (by rw[y9];exact eN)
 rw[y9]at h;refine h.mono λe w' hp=> ?_;obtain⟨rfl,d',n,os,p1,p2,rfl⟩:=hp;have hd:=ahE xs bO d' (by rw[y9];exact p1) (by rw[y9];exact p2);have sF:d'.size=L:=by rw[<-y9];exact y9▸p1.1
 refine⟨rfl,age _,_,ago _ hb,by simp [putCells],λi j x v hx hv=> ?_⟩;have hj:j<2:=(aoS.1 hv).1;rw[<-hd]at hx;have hi:i<d'.size:=by have:=(aoS.1 hx).1;simpa using this
 have aH:i*2+j<d'.size*2:=by omega
 have qG:d'[i]! =x:=by
  rw[getElem!_pos d' i hi];have:=(aoS.1 hx).2
  simpa using this
 have J:(flatK lQ 2 d')[i*2+j]! =v:=by
  rw[get_flatK _ _ _ _ aH,show(i*2+j)/ 2=i by omega,show(i*2+j)%2=j by omega,qG];rw[List.getElem!_eq_getElem?_getD,hv];rfl
 rw[putCells,Array.getElem?_mapIdx,ape (by omega)];simp only[Option.map_some,id];rw[if_pos ⟨Nat.zero_le _,by rw[size_flatK];omega⟩,Nat.sub_zero,J]
theorem akJ(p:apJ Addr)(cap:Nat)(fv:apL)(w:apM):Calls Tryz.prog 52 #[.slice p 0 cap,fv] w λe w'=>e= .returned (.tuple #[])/\w'=w:=
 AnyF.slices_SortFunc_none Zy p cap fv w
theorem alT{xs:apH bf}{L:Nat}(hL:xs.length=L)(eN:L<4611686018427387904)(bO:tJ (ib xs)=true):
 cx Tryz.prog 52 [.vec 0 0 L L 2, .fn 53 []] [.vec 115 2 (cD (c9 xs))] λr1 h1=>r1= .bA []/\h1=[.vec 115 2 (cD (c9 (ib xs)))]:=by
 refine⟨by kernel_rfl,λG w vs hinv nZ hr=> ?_⟩;have wQ:([an.vec 115 2 (cD (c9 xs))]:apH an)[0]?=some (.vec 115 2 (cD (c9 xs))):=rfl;have oH:(cD (c9 xs)).length=L:=by rw[BY,fG,hL]
 obtain⟨v0,v1,rfl⟩:∃v0 v1,vs= #[v0,v1]:=by
  obtain⟨l⟩:=vs
  match l,nZ with
  |[a,b],_=>exact⟨a,b,rfl⟩
 have r0:=hr 0 v0 _ rfl rfl;have r1:=hr 1 v1 _ rfl rfl;obtain rfl:v1= .func (.func 53) #[] #[]:=by
  cases r1 with|fn _ us _ hl _=>
  obtain⟨l⟩:=us
  match l,hl with
  |[],_=>rfl
 obtain⟨Ae,⟨A,cc,rfl,q2,q3,q4,q5⟩,_⟩:=r0.pe hinv wQ oH;have Y7:∀(G':Gh)(w':apM),aD G' w' (.tuple #[]) (.bA []):=λG' w'=> .bA #[] [] rfl λi u c h=>by simp at h
 by_cases h0:L=0
 ·subst h0;obtain rfl:xs=[]:=List.eq_nil_of_length_eq_zero hL;refine(akJ A cc _ w).mono λe w' hp=> ?_;obtain⟨rfl,rfl⟩:=hp;exact⟨_,G,_,_,rfl,bx.refl _ _ _,ao3 _,hinv,Y7 _ _,rfl,rfl⟩
 ·obtain⟨g,cap,s1,rfl,s3⟩:=q5 (by omega);obtain⟨g',zk,cur,t1,t2,t3,t4,t5,t6,t7,t8,t9⟩:=zj hinv wQ (λe=>by rw[e]at oH;simp at oH;omega);rw[t2,oH]at s1;cases s1
  have hcc:cc=cap:=by omega
  subst hcc;rw[oH]at t5;have hg:g<w.heap.size:=(ao7.1 t4).1;have hc:∀(i j:Nat)(x:bf)(v:apL),xs[i]?=some x->(lQ x)[j]?=some v->cur[i*2+j]?=some v:=by
   intro i j x v hx hv;have hi:i<xs.length:=(aoS.1 hx).1;have hj:j<2:=(aoS.1 hv).1;have aH:i*2+j<cur.size:=by omega
   have hu:cur[i*2+j]?=some cur[i*2+j]:=ape aH;have hd:((jk x).map AV.d)[j]?=some (.d (.v v)):=by
    match j,hv with
    |0,hv=>cases hv;rfl
    |1,hv=>cases hv;rfl
   have:=(t9 i j _ _ _ (aiQ (o0 hx)) hd hu).val;rw[hu,this]
  have hw:=adO g cc L xs cur 115 w t4 hL h0 (by omega) hc eN bO;rw[show(⟨g,0*2,none⟩:Addr)=⟨g,0,none⟩from rfl];refine hw.mono λe w' hp=> ?_;obtain⟨rfl,gb,lk,fj,b8,im⟩:=hp;have cp:∀b o,G.S b o->some b≠some g:=λb o hs e=>by cases e;exact t8 o hs
  have hE:bx G.N G w G w':=
   ⟨gb.size,λ_ _ h=>h,λb o hs=>by
    unfold World.cell?;rw[gb.block b (hinv.S b o hs) (cp b o hs)],λ_ _=>rfl,λ_ _=> .inl ⟨rfl,rfl⟩,fY rfl,λb hb=>gb.block b (hinv.z b hb) (λe=>by cases e;exact t3 hb),gb.os,gb.tape,gb.output,λb o hs=> .inl hs⟩
  obtain⟨f1,f2,f3,_⟩:=hinv.cu 0 _ wQ;have xT:(ib xs).length=xs.length:=(oD xs).length_eq;have LV:(cD (c9 (ib xs))).length=(cD (c9 xs)).length:=by rw[BY,BY,fG,fG,xT]
  have hI:Inv G w' [.vec 115 2 (cD (c9 (ib xs)))]:=by
   refine⟨hinv.len,λb hb=>apg (hinv.z b hb) gb.size,λb o hs=>apg (hinv.S b o hs) gb.size,λn C hC=> ?_,λm n b h1 h2=> ?_,hinv.gl.aS hE⟩
   ·match n,hC with
    |0,hC=>
     cases hC
     refine⟨by rw[LV];exact f1,by rw[LV];exact f2,λc hc=> ?_, .inr ⟨g,cc,lk,t1,by rw[LV,t2],t3,fj,by rw[LV,oH];exact t5,t6,by rw[b8,t7],t8,λi j c x u hx hd hu=> ?_⟩⟩
     ·unfold cD at hc;obtain⟨c',im,rfl⟩:=List.mem_map.1 hc;rw[aoX,u4 c' im]
     ·unfold cD at hx;rw[aoZ,nf,aoZ]at hx;cases hq:(ib xs)[i]? with
      |none=>rw[hq]at hx;cases hx
      |some y=>
       rw[hq]at hx;cases hx
       match j,hd with
       |0,hd=>cases hd;rw[im i 0 y _ hq rfl]at hu;cases hu;exact .d (.v _)
       |1,hd=>cases hd;rw[im i 1 y _ hq rfl]at hu;cases hu;exact .d (.v _)
    |n+1,hC=>simp at hC
   ·match m,n,h1,h2 with
    |0,0,_,_=>rfl
    |m+1,_,h1,_=>simp [bB]at h1
    |0,n+1,_,h2=>simp [bB]at h2
  exact⟨_,_,_,_,rfl,hE,ao3 _,hI,Y7 _ _,rfl,rfl⟩
end Go.Proofs.YtmkmibahjanejaaGreatDoor
namespace Go.Proofs.YtmkmibahjanejaaGreatDoor
open Go.RowKit
set_option maxRecDepth 100000
set_option linter.unusedVariables false
set_option linter.unusedSimpArgs false
noncomputable def Qv(T:TypeId):Bool:=liesAt Tryz.prog Tryz.prog.depth T (2 / Tryz.prog.cellsOf T) 0 136 1
theorem akA{P:apK}{w:apM}{ops:Array Oper}{rest:apH Oper}{o:Oper}{a:Act}{Q:Exit->Act->apM->Prop}(RW:o.guard=none)(d s:Operand)(t t':TypeId)
 (ho:o.op= .call {callee:= .builtin .append,args:= #[d,s],argTypes:= #[t,t']}) (v u:apL) (hd:a.eval d=v) (hs:a.eval s=u) {v':apL} {w':apM}
 (hr:(Builtin.append_ #[t,t'] o.type #[v,u]).run P w= .ok v' w') (h:wpList P ops Q rest (a.put o.dst v') w'):wpList P ops Q (o::rest) a w:=
 wpList_plain RW λ_ hK=>by
  unfold Oper.wp execOp;simp only[ho,resolve,invoke,builtin,Sem.run_bind,Sem.run_pure,Result.andThen_ok,List.map_toArray,aph,List.map_nil,hd,hs,hr];exact hK _ _ h
theorem al4{T:TypeId}(hT:Qv T=true){b:Nat}{p v:apL}{w:apM}(hb:w.heap[b]?=some (.cells #[p,v] T (0,0)))(hp:p= .pointer none\/p= .pointer (some ⟨b,0,none⟩)):
 Calls Tryz.prog 116 #[.pointer (some ⟨b,0,none⟩)] w λe w'=>e= .returned (.tuple #[])/\w.grownBy w' (some b)/\w'.heap[b]?=some (.cells #[.pointer (some ⟨b,0,none⟩),v] T (0,0))/\w'.heap.size=w.heap.size:=by
 have nr:w.shape? b=some (T,2):=by simp [World.shape?,hb]
 obtain⟨j,hj,Je⟩:∃j,Tryz.prog.info? 136=some j/\j.size=2:=Option.map_eq_some_iff.1 (show(Tryz.prog.info? 136).map (·.size)=some 2 by kernel_rfl);have c0:w.cell? ⟨b,0,none⟩=some p:=by rw[Lib.cell_of_heap hb];rfl
 rcases hp with rfl|rfl
 ·have hfz:w.frozen? ⟨b,0,none⟩=false:=Lib.frozen_of_heap hb 0
  go_enter Tryz.func116,Tryz.ntmps116
  go_wp2
  rw[Lib.run_to_unsafe w ⟨b,0,none⟩ Tryz.underlying133 Tryz.underlying208 hj (by rw[Je];decide) nr (Nat.zero_lt_succ 1)];simp only[Result.andThen];rw[Oper.upon_value]
  go_wp2
  rw[run_callFunc_extern Tryz.func159 (by kernel_rfl) (by kernel_rfl) (by kernel_rfl) (e:=Extern.AbiNoEscape.same) (by kernel_rfl)];rw[Lib.run_noEscape];simp only[Result.andThen];rw[Oper.upon_value]
  go_wp2
  rw[Lib.run_from_unsafe w ⟨b,0,none⟩ Tryz.underlying208 Tryz.underlying133 hj nr hT];simp only[Result.andThen];rw[Oper.upon_value]
  go_wp2
  go_end0
  refine⟨rfl,abQ w b 0 _,?_,by simp [World.setCell]⟩;simp [World.setCell,Array.getElem?_modify,hb]
 ·go_enter Tryz.func116,Tryz.ntmps116
  go_wp2
  rw[Lib.run_neq_ptr_same w _ Tryz.underlying133 hj]
  go_wp2
  go_end0
  exact⟨rfl,⟨rfl,rfl,rfl,ao3 _,λ_ _ _=>rfl⟩,hb,rfl⟩
def p9(T:TypeId)(b:apI):apH an:=[.aT T [.vec 1 0 b.size b.size 1], .vec 5 1 (gS b)]
theorem agn{G:Gh}{w:apM}{n:Nat}:aD G w (.tuple #[.int .i64 n, .nilIface]) (.bA [.d (.v (.int .i64 n)), .d (.v .nilIface)]):= .bA _ _ rfl λi u c hu hc=>by
 match i with
 |0=>cases hu;cases hc;exact .d (.v _)
 |1=>cases hu;cases hc;exact .d (.v _)
 |i+2=>simp at hu
theorem Od{G:Gh}{w:apM}{T:TypeId}{b:apI}(hi:Inv G w (p9 T b)):∃p A c,w.heap[G.aI 0]?=some (.cells #[p, .slice A b.size c] T (0,0))/\(p= .pointer none\/p= .pointer (some ⟨G.aI 0,0,none⟩))/\aD G w (.slice A b.size c) (.vec 1 0 b.size b.size 1)/\Ic (.slice A b.size c):=by
 obtain⟨h1,h2,_,vs,p,h3,⟨h4,hp,pQ⟩,h5⟩:=hi.cu 0 _ rfl;obtain⟨v,rfl⟩:∃v,vs= #[v]:=by
  obtain⟨l⟩:=vs
  match l,h4 with
  |[v],_=>exact⟨v,rfl⟩
 have hv:=h5 0 v _ rfl rfl;have hb:=pQ v (by simp);obtain⟨_,⟨A,c,rfl,_⟩,_⟩:=hv.pe hi rfl (jX b);exact⟨p,A,c,h3,hp,hv,hb⟩
theorem ag8(G:Gh)(w:apM)(s:apI):y6 G w 1 (gS s) (byteCells s):=by
 refine⟨by rw[jX,byteCells_length,Nat.mul_one],λc hc=> ?_,λu hu=> ?_,λi j c x u hc hx hu=> ?_⟩
 ·unfold gS at hc;obtain⟨u,_,rfl⟩:=List.mem_map.1 hc;rfl
 ·unfold byteCells at hu;obtain⟨_,_,rfl⟩:=List.mem_map.1 hu;rfl
 ·unfold gS at hc;rw[aoZ]at hc;cases hq:(byteCells s)[i]? with
  |none=>rw[hq]at hc;cases hc
  |some v=>
   rw[hq]at hc;cases hc
   match j,hx with
   |0,hx=>
    cases hx
    rw[Nat.mul_one,Nat.add_zero,hq]at hu;cases hu
    exact .d (.v _)
theorem aej{G:Gh}{w:apM}{v:apL}{s:apI}(h:aD G w v (aL s)):v= .string s:=h.val
theorem Pt{G:Gh}{w:apM}{v:apL}(h:aD G w v (.ptr 0 0)):v= .pointer (some ⟨G.aI 0,0,none⟩):=by cases h;rfl
theorem aia{T:TypeId}(hT:Qv T=true){b s:apI}(hl:b.size+s.size<=140737488355328):
 cx Tryz.prog 70 [.ptr 0 0,aL s] (p9 T b) λr1 h1=>r1= .bA [.d (.v (.int .i64 s.size)), .d (.v .nilIface)]/\h1=p9 T (b++s):=by
 refine⟨by kernel_rfl,λG w vs hinv nZ hr=> ?_⟩;obtain⟨v0,v1,rfl⟩:∃v0 v1,vs= #[v0,v1]:=by
  obtain⟨l⟩:=vs
  match l,nZ with
  |[a,b],_=>exact⟨a,b,rfl⟩
 obtain rfl:=Pt (hr 0 v0 _ rfl rfl);obtain rfl:=aej (hr 1 v1 _ rfl rfl);obtain⟨p,A,c,h3,hp,hv,pQ⟩:=Od hinv
 go_enter Tryz.func70,Tryz.ntmps70
 go_wp2_with (go_at_call 116;refine(al4 hT h3 hp).mono ?_)
 rintro e w1 ⟨rfl,MV,iL,e8⟩;have wQ:(p9 T b)[0]?=some (.aT T [.vec 1 0 b.size b.size 1]):=rfl;obtain⟨hX,oe⟩:=Qz (dZ:= #[.slice A b.size c]) (p':= .pointer (some ⟨G.aI 0,0,none⟩)) (bJ:=[.vec 1 0 b.size b.size 1]) hinv wQ MV iL (.inr rfl) rfl (λu hu=>by simp at hu;rw[hu];exact pQ) (λi u x hu hx=>by
  match i with
  |0=>cases hu;cases hx;exact hv
  |i+1=>simp at hu)
 have oe:Inv G w1 (p9 T b):=oe;have Ro:=hv.aS hX (ao3 _);have wA:(p9 T b)[1]?=some (.vec 5 1 (gS b)):=rfl;obtain⟨inf,i1,i2,i3⟩:∃i,Tryz.prog.info? 5=some i/\i.size=1/\i.bytes=1/\i.zero=some (.int .u8 0):=by
  obtain⟨i,h1,h2⟩:=Option.map_eq_some_iff.1 (show(Tryz.prog.info? 5).map (λi=>(i.size,i.bytes,i.zero))=some (1,1,some (.int .u8 0)) by kernel_rfl);injection h2 with h2 h4;injection h4 with h4 h5;exact⟨i,h1,h2,h4,h5⟩
 have eN:(b++s).size=b.size+s.size:=ByteArray.size_append ..;have fX:b.size<=c:=by
  obtain⟨_,⟨A',c',e1,k1,_⟩,_⟩:=Ro.pe oe rfl (jX b);cases e1
  exact k1
 have key:∃r w2 G2,(Builtin.append_ #[134,9] 134 #[.slice A b.size c, .string s]).run Tryz.prog w1= .ok r w2/\bx G.N G w1 G2 w2/\G.N<=G2.N/\Inv G2 w2 [.aT T [.vec 1 0 b.size b.size 1], .vec 5 1 (gS (b++s))]/\aD G2 w2 r (.vec 1 0 (b++s).size (b++s).size 1)/\Ic r:=by
  by_cases h0:s.size=0
  ·have Z5:byteCells s=[]:=List.eq_nil_of_length_eq_zero (by rw[byteCells_length,h0]);have Yy:gS (b++s)=gS b:=by rw[V4];unfold gS;rw[Z5,List.map_nil,apd]
   have qL:=Src.ofString w1 Tryz.underlying9 s;rw[h0,Z5,<-i2]at qL;rw[Yy,eN,h0,Nat.add_zero];exact⟨_,w1,G,run_append_nothing w1 _ _ _ _ inf Tryz.underlying134 i1 A b.size c fX _ qL,bx.refl _ _ _,ao3 _,oe,Ro,pQ⟩
  ·obtain⟨r,w2,G2,db,gW,BS,sA,my⟩:=abr (T:=134) (tx:=9) (ty:=134) (cX:=1) (L':=(b++s).size) (bJ:=gS (b++s)) oe Tryz.underlying134 i1 i3.2 i2 i3.1 rfl (by decide) wA (jX b) Ro (ag8 G w1 s)
    (by rw[jX];exact Src.ofString w1 Tryz.underlying9 s) (.inr ⟨rfl,rfl,by rw[jX,eN],V4 b s,by rw[eN];unfold maxLen;omega,by rw[eN];omega⟩)
   have Hm:aD G2 w2 r (.vec 1 0 (b++s).size (b++s).size 1):=by rw[jX,<-eN]at my;exact my
   have C1:Inv G2 w2 [.aT T [.vec 1 0 b.size b.size 1], .vec 5 1 (gS (b++s))]:=sA;refine⟨r,w2,G2,db,gW,BS,C1,Hm,?_⟩;obtain⟨_,⟨A',c',e1,k1,_,_,k4⟩,_⟩:=Hm.pe C1 rfl (jX _);obtain⟨g,cap,_,e2,_⟩:=k4 (by omega);rw[e1,e2,Nat.zero_mul];exact Or.inr ⟨g,_,c',rfl,by omega⟩
 obtain⟨r,w2,G2,db,gW,BS,sA,my,agq⟩:=key;have je:G2.aI 0=G.aI 0:=gW.aI 0 (by have:=hinv.len;simp only[p9,aoV,ao4]at this;omega);obtain⟨q1,q2,_,us,p2,q3,⟨q4,q5,_⟩,q6⟩:=sA.cu 0 _ rfl;obtain⟨v2,rfl⟩:∃v,us= #[v]:=by
  obtain⟨l⟩:=us
  match l,q4 with
  |[v],_=>exact⟨v,rfl⟩
 rw[je]at q3 q5;obtain⟨A3,l3,c3,rfl⟩:∃A l c,r= .slice A l c:=by
   cases my with|vec _ _ _ _ _ _ hs _ _=>exact hs
 have c1:w1.cell? ⟨G.aI 0,1,none⟩=some (.slice A b.size c):=by rw[Lib.cell_of_heap iL];rfl
 have d1:w2.cell? ⟨G.aI 0,1,none⟩=some v2:=by rw[Lib.cell_of_heap q3];rfl
 have f1:w2.frozen? ⟨G.aI 0,1,none⟩=false:=Lib.frozen_of_heap q3 1
 go_wp2_with (at_builtin;refine akA rfl (.tmp 12) (.tmp 13) 134 9 rfl _ _ rfl rfl db ?_)
 go_wp2
 go_ret2
 have Vr:=abQ w2 (G.aI 0) 1 (.slice A3 l3 c3);have pL:(w2.setCell ⟨G.aI 0,1,none⟩ (.slice A3 l3 c3)).heap[G.aI 0]?=some (.cells #[p2, .slice A3 l3 c3] T (0,0)):=by
  simp [World.setCell,Array.getElem?_modify,q3]
 rw[<-je]at Vr pL q5;obtain⟨CI,C1⟩:=Qz (dZ:= #[.slice A3 l3 c3]) (p':=p2) (bJ:=[.vec 1 0 (b++s).size (b++s).size 1]) sA rfl Vr pL q5 rfl (λu hu=>by simp at hu;rw[hu];exact agq) (λi u x hu hx=>by
   match i with
   |0=>cases hu;cases hx;exact my
   |i+1=>simp at hu)
 rw[je]at CI C1;exact⟨_,G2,_,_,rfl,(hX.trans gW).trans (CI.less BS),BS,C1,agn,rfl,rfl⟩
theorem amG{T:TypeId}{b:apI}:cx Tryz.prog 161 [.ptr 0 0] (p9 T b) λr1 h1=>r1=aq b.size/\h1=p9 T b:=by
 refine⟨by kernel_rfl,λG w vs hinv nZ hr=> ?_⟩;obtain⟨v0,rfl⟩:∃v0,vs= #[v0]:=by
  obtain⟨l⟩:=vs
  match l,nZ with
  |[a],_=>exact⟨a,rfl⟩
 obtain rfl:=Pt (hr 0 v0 _ rfl rfl);obtain⟨p,A,c,h3,hp,hv,pQ⟩:=Od hinv;have c1:w.cell? ⟨G.aI 0,1,none⟩=some (.slice A b.size c):=by rw[Lib.cell_of_heap h3];rfl
 go_enter Tryz.func161,Tryz.ntmps161
 go_wp2
 go_ret
 exact⟨_,G,_,_,rfl,bx.refl _ _ _,ao3 _,hinv, .d (.v _),rfl,rfl⟩
theorem YX{G:Gh}{w w':apM}{T:TypeId}{b:apI}(hi:Inv G w (p9 T b))(eN:w.heap.size<=w'.heap.size)(h:∀k,k<w.heap.size->(∀g,G.ow 1=some g->k≠g)->w'.heap[k]?=w.heap[k]?)(ho:w'.os=w.os)(ht:w'.tape=w.tape)(hp:w'.output=w.output):
 bx G.N G w G w'/\Inv G w' [.gone, .gone]:=by
 have hb:=hi.cu 1 _ rfl;have U4:∀g,G.ow 1=some g->¬G.Z g/\∀o,¬G.S g o:=λg hg=>by
  obtain⟨_,_,_,h1|⟨g',cap,cur,h1,_,h2,_,_,_,_,h3,_⟩⟩:=hb
  ·rw[h1.1]at hg;cases hg
  ·rw[h1]at hg;cases hg;exact⟨h2,h3⟩
 have hE:bx G.N G w G w':=⟨eN,λ_ _ h=>h,λb o hs=>by
  unfold World.cell?;rw[h b (hi.S b o hs) (λg hg e=>by subst e;exact(U4 b hg).2 o hs)],λ_ _=>rfl,λ_ _=> .inl ⟨rfl,rfl⟩,fY rfl,λb hz=>h b (hi.z b hz) (λg hg e=>by subst e;exact(U4 b hg).1 hz),ho,ht,hp,λ_ _ hs=> .inl hs⟩
 refine⟨hE,hi.len,λb hz=>apg (hi.z b hz) eN,λb o hs=>apg (hi.S b o hs) eN,λn B hB=> ?_,λm n b h1 h2=> ?_,hi.gl.aS hE⟩
 ·match n,hB with
  |0,hB=>cases hB;trivial
  |1,hB=>cases hB;trivial
  |n+2,hB=>simp at hB
 ·match m,h1 with
  |0,h1=>cases h1
  |1,h1=>cases h1
  |m+2,h1=>simp [bB]at h1
theorem akm(w:apM)(g n:Nat):w.heap.size<=(w.drew.freeze ⟨g,0,none⟩ n).heap.size/\(∀k,k≠g->(w.drew.freeze ⟨g,0,none⟩ n).heap[k]?=w.heap[k]?)/\(w.drew.freeze ⟨g,0,none⟩ n).os=w.os/\(w.drew.freeze ⟨g,0,none⟩ n).tape=w.tape/\(w.drew.freeze ⟨g,0,none⟩ n).output=w.output:=by
 by_cases h:n=0
 ·have e:w.drew.freeze ⟨g,0,none⟩ n=w.drew:=if_pos h;rw[e];exact⟨ao3 _,λ_ _=>rfl,rfl,rfl,rfl⟩
 ·have e:w.drew.freeze ⟨g,0,none⟩ n={w.drew with heap:=w.drew.heap.modify g fun
   | .cells c elem (lo,hi)=> .cells c elem (if lo==hi then(0,0+n)else(min lo 0,max hi (0+n)))
   |o=>o}:=if_neg h
  rw[e];refine⟨?_,λk hk=> ?_,rfl,rfl,rfl⟩
  ·show w.heap.size<=(w.heap.modify g _).size;rw[Array.size_modify];exact ao3 _
  ·show(w.heap.modify g _)[k]?=_;rw[Array.getElem?_modify,if_neg (λe=>hk e.symm)]
theorem ajr{T:TypeId}{b:apI}:cx Tryz.prog 79 [.ptr 0 0] (p9 T b) λr1 h1=>r1=aL b/\h1=[.gone, .gone]:=by
 refine⟨by kernel_rfl,λG w vs hinv nZ hr=> ?_⟩;obtain⟨v0,rfl⟩:∃v0,vs= #[v0]:=by
  obtain⟨l⟩:=vs
  match l,nZ with
  |[a],_=>exact⟨a,rfl⟩
 obtain rfl:=Pt (hr 0 v0 _ rfl rfl);obtain⟨p,A,c,h3,hp,hv,pQ⟩:=Od hinv;have c1:w.drew.cell? ⟨G.aI 0,1,none⟩=some (.slice A b.size c):=by
  have:w.drew.heap[G.aI 0]?=some (.cells #[p, .slice A b.size c] T (0,0)):=h3;rw[Lib.cell_of_heap this];rfl
 have aak:=YX (w':=w.drew) hinv (ao3 _) (λ_ _ _=>rfl) rfl rfl rfl;by_cases h0:b.size=0
 ·have eb:b=⟨#[]⟩:=by
   obtain⟨d⟩:=b;have:d.size=0:=h0;rw[Array.eq_empty_of_size_eq_zero this]
  rw[h0]at c1 pQ;have hUS:∀q W,(Builtin.unsafeString_ #[180,3] 9 #[.pointer q, .int .i64 0]).run Tryz.prog W= .ok (.string .empty) W:=λq W=>Lib.run_unsafeString_none W _ _ _ q;have Ld:∀{e:Ending},e= .returned (.string .empty)->∃v G' r h',e= .returned v/\bx G.N G w G' w.drew/\G.N<=G'.N/\Inv G' w.drew h'/\aD G' w.drew v r/\r=aL b/\h'=[.gone, .gone]:=λhe=>⟨_,G,_,_,he,aak.1,ao3 _,aak.2, .d (.v _),by rw[eb];rfl,rfl⟩;rcases pQ with e1|⟨g,n,cap,e1,hc⟩
  ·cases e1
   have WS:(Builtin.unsafeSliceData_ #[134] 180 #[.slice none 0 0]).run Tryz.prog w.drew= .ok (.pointer none) w.drew:=rfl
   go_enter Tryz.func79,Tryz.ntmps79
   go_wp2
   go_region
   all_goals (go_wp2;go_ret;exact Ld rfl)
  ·cases e1
   have WS:(Builtin.unsafeSliceData_ #[134] 180 #[.slice (some ⟨g,0,none⟩) 0 c]).run Tryz.prog w.drew= .ok (.pointer (some ⟨g,0,none⟩)) w.drew:=Lib.run_unsafeSliceData_row _ _ _ _ _ _ hc;clear hc
   go_enter Tryz.func79,Tryz.ntmps79
   go_wp2
   go_region
   all_goals (go_wp2;go_ret;exact Ld rfl)
 ·have cp:gS b≠ []:=λe=>h0 (by rw[<-jX b,e];rfl);obtain⟨g,cap,cur,t1,t2,t3,t4,t5,t6,t7,t8,t9⟩:=zj hinv (n:=1) rfl cp;obtain⟨-,⟨A',c',e1,k1,-,-,k4⟩,-⟩:=hv.pe hinv rfl (jX b);cases e1
  obtain⟨g',zk,e2,e3,-⟩:=k4 (by omega);clear k4;rw[t2,jX]at e2;cases e2
  rw[Nat.zero_mul]at e3;subst e3;clear t2;rw[jX]at t5;have hc:c≠0:=by omega
  have hl:(bL b).length=b.size:=(aaz b).symm;have hg:w.drew.heap[g]?=some (.cells cur 5 (0,0)):=t4;have WS:(Builtin.unsafeSliceData_ #[134] 180 #[.slice (some ⟨g,0,none⟩) b.size c]).run Tryz.prog w.drew= .ok (.pointer (some ⟨g,0,none⟩)) w.drew:=Lib.run_unsafeSliceData_row _ _ _ _ _ _ hc;have hUS:(Builtin.unsafeString_ #[180,3] 9 #[.pointer (some ⟨g,0,none⟩), .int .i64 b.size]).run Tryz.prog w.drew= .ok (.string b) (w.drew.freeze ⟨g,0,none⟩ b.size):=by
   have:=Lib.run_unsafeString_row (P:=Tryz.prog) w.drew 180 3 9 5 Tryz.underlying180 (by kernel_rfl) g cur.size (by simp [World.shape?,hg]) (bL b) (λe=>h0 (by rw[<-hl,e];rfl)) (by omega) (by unfold maxLen at t6;omega) (λj x hx=>by
    have hj:j<(bL b).length:=(aoS.1 hx).1;have hu:cur[j]?=some cur[j]:=ape (by omega);have jb:(gS b)[j]?=some [AV.d (.v (.int .u8 x.toNat))]:=by
     unfold gS byteCells;rw[aoZ,aoZ];show((bL b)[j]?.map _).map _=_;rw[hx];rfl
    have lI:=(t9 j 0 _ _ cur[j] jb rfl (by rw[Nat.mul_one,Nat.add_zero];exact hu)).val;rw[kZ,apc,Lib.cell_of_heap hg,hu,lI])
   rw[hl]at this;rw[this,show(⟨(bL b).toArray⟩:apI)=b by cases b;simp [bL]]
  have Ld:∀{e:Ending},e= .returned (.string b)->∃v G' r h',e= .returned v/\bx G.N G w G' (w.drew.freeze ⟨g,0,none⟩ b.size)/\G.N<=G'.N/\Inv G' (w.drew.freeze ⟨g,0,none⟩ b.size) h'/\aD G' (w.drew.freeze ⟨g,0,none⟩ b.size) v r/\r=aL b/\h'=[.gone, .gone]:=λhe=>by
   obtain⟨z1,z2,z3,z4,z5⟩:=akm w g b.size;have hz:=YX (w':=w.drew.freeze ⟨g,0,none⟩ b.size) hinv z1 (λk _ hk=>z2 k (hk g t1)) z3 z4 z5;exact⟨_,G,_,_,he,hz.1,ao3 _,hz.2, .d (.v _),rfl,rfl⟩
  go_enter Tryz.func79,Tryz.ntmps79
  go_wp2
  go_region
  all_goals (go_wp2;go_ret;exact Ld rfl)
def bw(j:Nat)(b:apI):apH AV:=[.vec j 0 b.size b.size 1]
def Dp(T:TypeId)(b:apI):apH an:=[.aT T (bw 1 b), .bg 5 b]
theorem amS{G:Gh}{w:apM}{v:apL}{a b:AV}(h:aD G w v (.bA [a,b])):aD G w v (.bA [.dead, .dead]):=by
 cases h with|bA vs _ hl hr=>
 exact .bA vs [.dead, .dead] hl λi u c hu hc=>by
  match i with
  |0=>cases hc;exact .dead u
  |1=>cases hc;exact .dead u
  |i+2=>simp at hc
def Ai(b s:apI):apJ apI:=bif Nat.ble (b.size+s.size) 140737488355328 then some (b++s)else none
theorem Ye{T:TypeId}{b s:apI}(hT:Qv T=true):KP 70 [.ptr 0 0,aL s] (Dp T b) (λ_=> .bA [.dead, .dead]) (λr=>Dp T r) (Ai b s):=λr h=>by
 unfold Ai at h;cases e:Nat.ble (b.size+s.size) 140737488355328 with
 |false=>rw[e]at h;cases h
 |true=>
  rw[e]at h;cases h
  have hw:=aia hT (b:=b) (s:=s) (ao0 e);exact⟨hw.1,λG w vs hi nZ hr=>(hw.2 G w vs (Q6 (k:=1) hi rfl) nZ hr).mono λe w' ⟨v,G',r,h',e1,x1,x2,x3,x4,e2,e3⟩=>⟨v,G',_,_,e1,x1,x2,by subst e3;exact NZ (k:=1) x3 rfl,by subst e2;exact amS x4,rfl,rfl⟩⟩
theorem aiH{T:TypeId}{b:apI}:KP 161 [.ptr 0 0] (Dp T b) aq (λ_=>Dp T b) (some (b.size:Int)):=λr h=>by
 cases h
 have hw:=amG (T:=T) (b:=b);exact⟨hw.1,λG w vs hi nZ hr=>(hw.2 G w vs (Q6 (k:=1) hi rfl) nZ hr).mono λe w' ⟨v,G',r,h',e1,x1,x2,x3,x4,e2,e3⟩=>⟨v,G',_,_,e1,x1,x2,by subst e3;exact NZ (k:=1) x3 rfl,x4,e2,rfl⟩⟩
theorem aby{T:TypeId}{b:apI}:KP 79 [.ptr 0 0] (Dp T b) aL (λ_=>[.gone, .gone]) (some b):=λr h=>by
 cases h
 have hw:=ajr (T:=T) (b:=b);exact⟨hw.1,λG w vs hi nZ hr=>hw.2 G w vs (Q6 (k:=1) hi rfl) nZ hr⟩
end Go.Proofs.YtmkmibahjanejaaGreatDoor
namespace Go.Proofs.YtmkmibahjanejaaGreatDoor
open Go.RowKit Go.Shelf Go.Sort
set_option maxRecDepth 100000
set_option maxHeartbeats 2000000
set_option linter.unusedVariables false
set_option linter.unusedSimpArgs false
def Bq:Ren where
 f:=fun
  |129=>152
  |246=>80
  |283=>130
  |284=>131
  |285=>132
  |286=>133
  |317=>171
  |318=>172
  |319=>173
  |320=>174
  |337=>211
  |338=>212
  |n=>n
 t:=fun
  |0=>0
  |2=>2
  |3=>3
  |4=>4
  |5=>5
  |9=>9
  |20=>20
  |37=>134
  |46=>165
  |51=>204
  |53=>74
  |171=>181
  |173=>184
  |212=>223
  |213=>224
  |232=>261
  |233=>262
  |n=>n
 g:=fun
  |17=>0
  |18=>2
  |19=>3
  |n=>n
theorem Ep:Lays.n246 Tryz.prog Bq:=by
 constructor<;>first|kernel_rfl|(intro w;rfl)
def sQ(w:apM):Prop:=∀q,q<20->w.cell? ⟨0,q,none⟩=some (.int .u64 ((10^q:Nat):Int))
theorem O3{u:Nat}(h1:1<=u)(h2:u<18446744073709551616){w:apM}(hT:sQ w):
 Calls Tryz.prog 131 #[.int .u64 u] w λe w'=>e= .returned (.int .i64 (Lib.nDigits u))/\w'=w:=by
 obtain⟨fW,fE⟩:=Lib.numDigits_eq u h1 h2;have hL:Lib.bitLen u<=64:=Lib.bitLen_le u 64 (ao3 _) h2;have gz:=hT (Lib.l10 (Lib.bitLen u)) (by omega);have hto:((u:Int)).toNat=u:=by omega
 generalize hq:Lib.l10 (Lib.bitLen u)=q at fW fE gz;generalize hP:10^q=T at fW gz;have dx:q<20:=by omega
 have Hnd:=Lib.hid fW;clear fW hT
 go_enter Tryz.func131,Tryz.ntmps131
 go_wp2_with (first
  |(go_at_call 152;refine(Any.bits_Len64 (ρ:=Bq) {Ep with} _ _ (by omega) (by omega)).mono ?_;rintro e w' ⟨rfl,rfl⟩)
  |(go_at_call 171;refine(Any.internal_strconv_log10Pow2 (ρ:=Bq) {Ep with} _ (by first|exact hL|(rw[hto];exact hL)) _).mono ?_;rintro e w' ⟨rfl,rfl⟩)
  |(go_at_call 172;refine(Any.internal_strconv_bool2_int (ρ:=Bq) {Ep with} _ _).mono ?_;rintro e w' ⟨rfl,rfl⟩))
 all_goals go_ret
 all_goals (
  refine⟨?_,rfl⟩;have fW:=Hnd.out
  congr 2
  split at fW<;>simp_all<;>omega)
abbrev uj(b:UInt8):apL:=Value.int .u8 (b.toNat:Int)
theorem Ao:Tryz.prog.arrayLen 181=24:=by kernel_rfl
theorem XM{i:Nat}(h:i<100)(w:apM):Calls Tryz.prog 130 #[.int .i64 i] w λe w'=>e= .returned (.string ⟨(Lib.decDigits i).toArray⟩)/\w'=w:=
 Any.internal_strconv_small (ρ:=Bq) {Ep with} i h w
theorem O2{w:apM}{off cap u:Nat}(hH:Holds uj (w.alloc (.cells Lib.zeros24 181)) w.heap.size off (Array.replicate (Lib.nDigits u) 0))(sq:u<18446744073709551616)(dx:Lib.nDigits u<=20):
 Calls Tryz.prog 132 #[.slice (some ⟨w.heap.size,off,none⟩) (Lib.nDigits u) cap, .int .u64 u] (w.alloc (.cells Lib.zeros24 181)) λe w'=>
  e= .returned (.tuple #[])/\∃(n v':Nat)(dk:Array UInt8),w'=(putRow uj (w.alloc (.cells Lib.zeros24 181)) w.heap.size off dk).drewN n/\Lib.FmtInv (Lib.nDigits u) u 0 v' dk:=by
 have h:=Any.internal_strconv_formatBase10 (P:=Tryz.prog) (ρ:=Bq) {Ep with} w.heap.size off cap u (Array.replicate (Lib.nDigits u) 0) (w.alloc (.cells Lib.zeros24 181)) hH (by rw[Array.size_replicate];exact Lib.lt_pow_nDigits u) sq (by rw[Array.size_replicate];omega);rw[Array.size_replicate]at h;exact h
theorem Vl{w:apM}{off cap u k v':Nat}{dk:Array UInt8}(J:Lib.FmtInv (Lib.nDigits u) u 0 v' dk)(hH:Holds uj (w.alloc (.cells Lib.zeros24 181)) w.heap.size off (Array.replicate (Lib.nDigits u) 0)):
 (convert 134 9 (.slice (some ⟨w.heap.size,off,none⟩) (Lib.nDigits u) cap)).run Tryz.prog ((putRow uj (w.alloc (.cells Lib.zeros24 181)) w.heap.size off dk).drewN k)= .ok (.string ⟨(Lib.decDigits u).toArray⟩) ((putRow uj (w.alloc (.cells Lib.zeros24 181)) w.heap.size off dk).drewN k):=by
 have h:=run_convert_bytes_back (P:=Tryz.prog) ((putRow uj (w.alloc (.cells Lib.zeros24 181)) w.heap.size off dk).drewN k) 134 9 5 ⟨w.heap.size,off,none⟩ cap (Lib.decDigits u) Tryz.underlying134 Tryz.underlying5 Tryz.underlying9 (λj hj=>by
  rw[Lib.row_is_numeral J j hj,Lib.add_plain,World.cell?_drewN];exact cell?_putRow uj _ w.heap.size off _ dk hH (by rw[J.size,Array.size_replicate]) j (by rw[J.size];rw[Lib.decDigits_length]at hj;exact hj))
 rw[Lib.decDigits_length]at h;exact h
theorem Sq{u:Nat}(h1:1<=u)(h2:u<18446744073709551616):Lib.nDigits u<=20:=by
 have:=Lib.numDigits_eq u h1 h2;split at this<;>omega
theorem sQ.alloc{w:apM}(h:sQ w)(o:Obj):sQ (w.alloc o):=λq hq=>by
 have h1:=h q hq;have aH:0<w.heap.size:=by
  rcases Nat.lt_or_ge 0 w.heap.size with h'|h'
  ·exact h'
  ·simp [World.cell?,Array.getElem?_eq_none h']at h1
 rw[World.cell?_alloc_lt _ _ _ aH];exact h1
theorem aiX{u:Nat}(h2:u<18446744073709551616){w:apM}(hT:sQ w):
 Calls Tryz.prog 194 #[.int .u64 u, .int .i64 10] w λe w'=>e= .returned (.string ⟨(Lib.decDigits u).toArray⟩)/\∃k os,w'=grow (w.drewN k) os:=by
 by_cases hs:u<100
 ·have hw:IntKind.i64.wrap (u:Int)=(u:Int):=by rw[IntKind.wrap_i64];omega
  go_enter Tryz.func194,Tryz.ntmps194
  go_wp2_with (go_at_call 130;refine(XM hs _).mono ?_;rintro e w' ⟨rfl,rfl⟩)
  go_ret
  exact⟨rfl,0, #[],by simp [World.drewN_zero,grow]⟩
 ·have vi:1<=u:=by omega
  have dx:=Sq vi h2;have xT:∀W,(Instr.sliceAt 181 (.pointer (some ⟨w.heap.size,0,none⟩)) none (some (.int .i64 (Lib.nDigits u:Int))) none).run Tryz.prog W= .ok (.slice (some ⟨w.heap.size,0,none⟩) (Lib.nDigits u) 24) W:=λW=>by
   rw[run_sliceAt_array_h W 181 ⟨w.heap.size,0,none⟩ (by simp [Program.arrayLen,Program.elem,Tryz.underlying181]) .i64 (Lib.nDigits u:Int) (by omega) (by rw[Ao];omega),Ao]
   go_simp
  have hH:=Lib.holds_zero0 w 181 (Lib.nDigits u) (by omega);have HH:=Lib.hid hH;have hf:=O2 (cap:=24) hH h2 dx;have eJ:=hT.alloc (.cells Lib.zeros24 181);clear hH hT
  go_enter Tryz.func194,Tryz.ntmps194
  go_wp2_with (go_at_call 131;refine(O3 vi h2 eJ).mono ?_;rintro e w' ⟨rfl,rfl⟩)
  go_at_call 132
  refine hf.mono ?_;rintro e w' ⟨rfl,k,v',dk,rfl,J⟩;have ZQ:=Vl (cap:=24) (k:=k) J HH.out
  go_wp2
  go_ret
  obtain⟨os,eo⟩:=Lib.fin_at w (.cells Lib.zeros24 181) dk k 0;exact⟨rfl,k,os,eo⟩
theorem U0{u:Nat}(h:Lib.nDigits u<=20)(b:Nat)(W:apM):(Instr.sliceAt 181 (.pointer (some ⟨b,0,none⟩)) (some (.int .i64 1)) (some (.int .i64 (1+(Lib.nDigits u:Int)))) none).run Tryz.prog W= .ok (.slice (some ⟨b,1,none⟩) (Lib.nDigits u) 23) W:=by
 rw[run_sliceAt_array_lh W 181 ⟨b,0,none⟩ (by simp [Program.arrayLen,Program.elem,Tryz.underlying181]) .i64 .i64 1 (1+(Lib.nDigits u:Int)) (by omega) (by omega) (by rw[Ao];omega),Ao]
 go_simp
 omega
theorem aiO{u:Nat}(hs:¬u<100)(h2:u<9223372036854775808){w:apM}(hT:sQ w):
 Calls Tryz.prog 80 #[.int .i64 u, .int .i64 10] w λe w'=>e= .returned (.string ⟨(Lib.decDigits u).toArray⟩)/\∃k os,w'=grow (w.drewN k) os:=by
 have vi:1<=u:=by omega
 have sq:u<18446744073709551616:=by omega
 have dx:=Sq vi sq;have hwr:IntKind.u64.wrap (u:Int)=(u:Int):=by rw[IntKind.wrap_u64];omega
 have xT:=λW=>U0 dx w.heap.size W;have hH:=Lib.holds_zero w 181 (Lib.nDigits u) (by omega);have HH:=Lib.hid hH;have hf:=O2 (cap:=23) hH sq dx;have eJ:=hT.alloc (.cells Lib.zeros24 181);clear hH hT;have pL:Lib.nDigits u<=23:=by omega
 go_enter Tryz.func80,Tryz.ntmps80
 go_wp2_with (go_at_call 131;refine(O3 vi sq eJ).mono ?_;rintro e w' ⟨rfl,rfl⟩)
 go_at_call 132
 refine hf.mono ?_;rintro e w' ⟨rfl,k,v',dk,rfl,J⟩;have ZQ:=Vl (cap:=23) (k:=k) J HH.out
 go_wp2
 go_ret
 obtain⟨os,eo⟩:=Lib.fin_pos w (.cells Lib.zeros24 181) dk k;exact⟨rfl,k,os,eo⟩
theorem aiB{u:Nat}(hs:u<100){w:apM}:
 Calls Tryz.prog 80 #[.int .i64 u, .int .i64 10] w λe w'=>e= .returned (.string ⟨(Lib.decDigits u).toArray⟩)/\∃k os,w'=grow (w.drewN k) os:=by
 go_enter Tryz.func80,Tryz.ntmps80
 go_wp2_with (go_at_call 130;refine(XM hs _).mono ?_;rintro e w' ⟨rfl,rfl⟩)
 go_ret
 exact⟨rfl,0, #[],by simp [World.drewN_zero,grow]⟩
theorem adi{u:Nat}(vi:1<=u)(h2:u<=9223372036854775808){w:apM}(hT:sQ w):
 Calls Tryz.prog 80 #[.int .i64 (-(u:Int)), .int .i64 10] w λe w'=>e= .returned (.string ⟨(45::Lib.decDigits u).toArray⟩)/\∃k os,w'=grow (w.drewN k) os:=by
 have sq:u<18446744073709551616:=by omega
 have dx:=Sq vi sq;have hwr:IntKind.u64.wrap (-IntKind.u64.wrap (-(u:Int)))=(u:Int):=by rw[IntKind.wrap_u64,IntKind.wrap_u64];omega
 have xT:=λW=>U0 dx w.heap.size W;have hH:=Lib.holds_zero w 181 (Lib.nDigits u) (by omega);have HH:=Lib.hid hH;have hf:=O2 (cap:=23) hH sq dx;have eJ:=hT.alloc (.cells Lib.zeros24 181);clear hH hT;have pL:Lib.nDigits u<=23:=by omega
 go_enter Tryz.func80,Tryz.ntmps80
 go_wp2_with (go_at_call 131;refine(O3 vi sq eJ).mono ?_;rintro e w' ⟨rfl,rfl⟩)
 go_at_call 132
 refine hf.mono ?_;rintro e w' ⟨rfl,k,v',dk,rfl,J⟩;generalize hW:(putRow uj (w.alloc (.cells Lib.zeros24 181)) w.heap.size 1 dk).drewN k=W;have hc0:W.cell? ⟨w.heap.size,0,none⟩=some (.int .u8 0):=by
  rw[<-hW,World.cell?_drewN,cell?_putRow_other _ _ _ _ _ _ (Or.inr (Or.inl (Nat.zero_lt_one))),World.cell?_alloc_new];exact Lib.zeros24_at 0 (by omega)
 have hf0:W.frozen? ⟨w.heap.size,0,none⟩=false:=by
  rw[<-hW,World.frozen?_drewN,frozen?_putRow];exact World.frozen?_alloc_new _ _ _ _
 have aoN:∀V,(Instr.sliceAt 181 (.pointer (some ⟨w.heap.size,0,none⟩)) none (some (.int .i64 (1+(Lib.nDigits u:Int)))) none).run Tryz.prog V= .ok (.slice (some ⟨w.heap.size,0,none⟩) (1+Lib.nDigits u) 24) V:=λV=>by
  rw[run_sliceAt_array_h V 181 ⟨w.heap.size,0,none⟩ (by simp [Program.arrayLen,Program.elem,Tryz.underlying181]) .i64 (1+(Lib.nDigits u:Int)) (by omega) (by rw[Ao];omega),Ao]
  go_simp
  omega
 have ZQ:(convert 134 9 (.slice (some ⟨w.heap.size,0,none⟩) (1+Lib.nDigits u) 24)).run Tryz.prog (W.setCell ⟨w.heap.size,0,none⟩ (.int .u8 45))= .ok (.string ⟨(45::Lib.decDigits u).toArray⟩) (W.setCell ⟨w.heap.size,0,none⟩ (.int .u8 45)):=by
  have h:=run_convert_bytes_back (P:=Tryz.prog) (W.setCell ⟨w.heap.size,0,none⟩ (.int .u8 45)) 134 9 5 ⟨w.heap.size,0,none⟩ 24 (45::Lib.decDigits u) Tryz.underlying134 Tryz.underlying5 Tryz.underlying9 (λj hj=>by
   rw[Lib.add_plain];cases j with
   |zero=>exact World.cell?_setCell_same _ _ _ hc0
   |succ i=>
    have hi:i<(Lib.decDigits u).length:=by simpa using hj
    rw[World.cell?_setCell_other _ _ _ _ (by simp),List.getElem_cons_succ,Lib.row_is_numeral J i hi,<-hW,World.cell?_drewN,show 0+(i+1)=1+i by omega];exact cell?_putRow uj _ w.heap.size 1 _ dk HH.out (by rw[J.size,Array.size_replicate]) i (by rw[J.size];rw[Lib.decDigits_length]at hi;exact hi))
  rw[aoV,Lib.decDigits_length,Nat.add_comm]at h;exact h
 go_wp2
 go_ret
 obtain⟨os,eo⟩:=Lib.fin_neg w (.cells Lib.zeros24 181) dk k (.int .u8 45);rw[<-hW];exact⟨rfl,k,os,eo⟩
def mR:Nat->Nat->apH UInt8->apH UInt8
 |0,_,a=>a
 |f+1,u,a=>bif Nat.blt u 10 then UInt8.ofNat (48+u)::a else mR f (u / 10) (UInt8.ofNat (48+u%10)::a)
theorem Me:∀(f u:Nat)(a:apH UInt8),u<10^(f+1)->mR (f+1) u a=Lib.decDigits u++a
 |f,u,a,h=>by
  rw[mR];by_cases bM:u<10
  ·rw[show Nat.blt u 10=true from by rw[Nat.blt_eq];exact bM,Lib.decDigits_one bM];rfl
  ·rw[show Nat.blt u 10=false from by rw[<-Bool.not_eq_true,Nat.blt_eq];exact bM,cond_false,Lib.decDigits,dif_neg bM];cases f with
   |zero=>omega
   |succ f=>
    rw[Me f (u / 10) _ (by rw[Nat.div_lt_iff_lt_mul (by decide)];rw[Nat.pow_succ]at h;exact h),ao9];rfl
theorem EA{u:Nat}(h:u<100000000000000000000):u<10^(19+1):=by
 have e:(10:Nat)^(19+1)=100000000000000000000:=by decide
 rw[e];exact h
def kY(n:Int):apI:=⟨(bif decide (n<0)then 45::mR 20 n.natAbs []else mR 20 n.toNat []).toArray⟩
theorem ahv{G:Gh}{w:apM}(h:GD G w):sQ w:=λq hq=>by
 have hm:(0,zD Jt)∈yY:=Te (by kernel_rfl);refine(h.1 _ _ hm q _ ?_).2;unfold zD Jt;rw[aoZ,aoZ,List.getElem?_range hq];rfl
theorem anO{G:Gh}{w w':apM}{h:apH an}(hi:Inv G w h)(hg:w.grownBy w' none):bx G.N G w G w'/\Inv G w' h:=by
 have hE:bx G.N G w G w':=⟨hg.size,λ_ _ h=>h,λb o hs=>by
  unfold World.cell?;rw[hg.block b (hi.S b o hs) (λe=>by cases e)],λ_ _=>rfl,λ_ _=> .inl ⟨rfl,rfl⟩,fY rfl,λb hb=>hg.block b (hi.z b hb) (λe=>by cases e),hg.os,hg.tape,hg.output,λ_ _ hs=> .inl hs⟩
 exact⟨hE,hi.len,λb hb=>apg (hi.z b hb) hE.size,λb o hs=>apg (hi.S b o hs) hE.size,λm B hB=>
  dB.aS (hi.lt hB) hE (ao3 _) ⟨rfl,rfl,rfl⟩ (λb hb=>⟨hg.block b (hi.gx ((cZ hB).trans hb)) (λe=>by cases e),λo h=>h⟩) (hi.cu m B hB),hi.inj,hi.gl.aS hE⟩
theorem aiv(w:apM)(k:Nat)(os:Array Obj):w.grownBy (grow (w.drewN k) os) none:=
 ⟨rfl,rfl,rfl,by show w.heap.size<=(w.heap++os).size;rw[Array.size_append];omega,λj hj _=>Lib.heap_grow_old w k os j hj⟩
theorem abH{f:FuncId}{x y:apL}{a b:AV}{s:apI}(he:EG Tryz.prog f=true)(hx:∀{G:Gh}{w:apM}{u:apL},aD G w u a->u=x)(hy:∀{G:Gh}{w:apM}{u:apL},aD G w u b->u=y)
 (hc:∀w:apM,sQ w->Calls Tryz.prog f #[x,y] w λe w'=>e= .returned (.string s)/\∃k os,w'=grow (w.drewN k) os):ic Tryz.prog f [a,b] (·=aL s):=by
 refine⟨he,λG w vs hi hl hr=> ?_⟩;obtain⟨v0,v1,rfl⟩:∃v0 v1,vs= #[v0,v1]:=by
  obtain⟨l⟩:=vs
  match l,hl with
  |[a,b],_=>exact⟨a,b,rfl⟩
 obtain rfl:=hx (hr 0 v0 _ rfl rfl);obtain rfl:=hy (hr 1 v1 _ rfl rfl);refine(hc w (ahv hi.gl)).mono λe w' hp=> ?_;obtain⟨rfl,k,os,rfl⟩:=hp;obtain⟨i1,i2⟩:=anO hi (aiv w k os);exact⟨_,G,_,_,rfl,i1,ao3 _,i2, .d (.v _),rfl,rfl⟩
def Pl(v1:Int64)(v2:Int):apJ apI:=bif v2==10then some (kY v1.toInt)else none
def IN(v1 v2:Int):apJ apI:=bif v2==10then bif decide (0<=v1)&&decide (v1<18446744073709551616)then some ⟨(mR 20 v1.toNat []).toArray⟩else none else none
theorem ajP{v1:Int64}{v2:Int}:KO 80 [(de v1),(aq v2)] aL (Pl v1 v2):=λr h=>by
 unfold Pl at h;cases e:v2==10with
 |false=>rw[e]at h;cases h
 |true=>
  rw[e]at h;cases h
  obtain rfl:v2=10:=by simpa using e
  refine abH (x:= .int .i64 v1.toInt) (y:= .int .i64 10) (by kernel_rfl) (λh=>h.val) (λh=>h.val) λw hT=> ?_;have h1:=v1.le_toInt;have h2:=v1.toInt_lt;unfold kY;generalize v1.toInt=z at h1 h2;by_cases hz:z<0
  ·obtain⟨u,rfl⟩:∃u:Nat,z= -(u:Int):=⟨z.natAbs,by omega⟩;rw[apA hz,cond_true,show(-(u:Int)).natAbs=u by omega,Me 19 u [] (EA (by omega)),apd];exact adi (by omega) (by omega) hT
  ·obtain⟨u,rfl⟩:∃u:Nat,z=(u:Int):=⟨z.toNat,by omega⟩;rw[apB hz,cond_false,apj,Me 19 u [] (EA (by omega)),apd];by_cases hs:u<100
   ·exact aiB hs
   ·exact aiO hs (by omega) hT
theorem anU{v1 v2:Int}:KO 194 [(.d (.v (.int .u64 v1))),(aq v2)] aL (IN v1 v2):=λr h=>by
 unfold IN at h;cases e:v2==10with
 |false=>rw[e]at h;cases h
 |true=>
  rw[e,cond_true]at h;obtain rfl:v2=10:=by simpa using e
  cases e2:decide (0<=v1)&&decide (v1<18446744073709551616)with
  |false=>rw[e2]at h;cases h
  |true=>
   rw[e2]at h;cases h
   rw[aoU,decide_eq_true_iff,decide_eq_true_iff]at e2;obtain⟨u,rfl⟩:∃u:Nat,v1=(u:Int):=⟨v1.toNat,by omega⟩;rw[apj,Me 19 u [] (EA (by omega)),apd];exact abH (x:= .int .u64 u) (y:= .int .i64 10) (by kernel_rfl) (λh=>h.val) (λh=>h.val) λw hT=>aiX (by omega) hT
end Go.Proofs.YtmkmibahjanejaaGreatDoor
namespace Go.Proofs.YtmkmibahjanejaaGreatDoor
open Go.RowKit
set_option maxRecDepth 100000
set_option maxHeartbeats 0
set_option linter.unusedVariables false
def zb:dy:=⟨(0:Int64),(0:Int64)⟩
def gr:bq:=⟨(0:Int),(0:Int),(0:Int),(0:Int),(0:Int)⟩
def ac7:aN:=⟨(0:Int64),[]⟩
def fx(v:aG)(r:apH AV):apH AV:=(.d (.sl (cw v.az)))::(.d (.sl (gU v.cd)))::(.d (.sl (iR v.aE)))::(.d (.sl (gK v.aw)))::(.d (.sl (cw v.bW)))::r
def JP(N:Nat):apH aN->Nat->apJ Bool
 |[],_=>
  some false
 |v4::v5,v2=>
  bif (decide ((v4.xL.length:Int)>20))then
   some true
  else
   (JP N v5 (v2+1))
def OB(N:Nat)(v1:apH aN):apJ Bool:=
 JP N v1 0
theorem ak5{N v1}:KO 17 [(.d (.sl (dE v1)))] aZ (OB N v1):=
 fw Tryz.func17 (gA [[],[]] (gT pv 0 v1 λh2=>fu 1 [] [0,3] 0 (λv2=>⟨17,[(0,(.d (.sl (dE v1)))),(3,(aq (v2:Int)))],[]⟩) (λv2 h3 f1=>gR [[(7,oL v1 gj)],[f0 (bK h3)],[]]) (λv2 v4 v5 h3 f1 aR=>gA [[(7,oL v1 gj)],[t0 (bI h3)],[(7,oE (oJ (bt h3))),(16,oL v4.xL fG)]] (cF λh4=>gb aR () [[f0 h4],[(5,oq (b5 h3 rfl h2))]] h3))))
def xI(N:Nat)(v2:Int)(tG:ar->Int->apJ Int):apH ar->Nat->Int->apJ Int
 |[],_,v12=>
  some v12
 |v10::v11,v8,v12=>
  bif (decide (v12<=v2))then
   Option.bind (tG v10 (bh (v2-v12))) λba=>
   (λiP=>xI N v2 tG v11 (v8+1) iP) (bh (v12+ba))
  else
   some v12
def Kl(N:Nat)(fk:Int->apJ Int)(v2:Int):apH aN->Nat->Int->apJ Int
 |[],_,cB=>
  fk cB
 |ct::v17,bX,cB=>
  bif (decide (cB<=v2))then
   (λme=>Kl N fk v2 v17 (bX+1) me) (bh (cB+(ct.xL.length:Int)))
  else
   fk cB
def BN(N:Nat)(v2:Int)(tG:ar->Int->apJ Int):apH ar->Nat->Int->apJ Int
 |[],_,v23=>
  some v23
 |v21::v22,dA,v23=>
  bif (decide (v23<=v2))then
   Option.bind (tG v21 (bh (v2-v23))) λv24=>
   (λnA=>BN N v2 tG v22 (dA+1) nA) (bh (v23+v24))
  else
   some v23
def AP(N:Nat)(v2:Int)(tG:ar->Int->apJ Int)(v1:ar):apH bu->Nat->Int->apJ Int
 |[],_,v7=>
  xI N v2 tG v1.bk 0 v7
 |v5::v6,v3,v7=>
  bif (decide (v7<=v2))then
   Kl N (λbm=>AP N v2 tG v1 v6 (v3+1) bm) v2 v5.bG 0 (bh ((bh (v7+(v5.aQ.xL.length:Int)))+(v5.bG.length:Int)))
  else
   BN N v2 tG v1.bk 0 v7
def vB(N:Nat):Nat->ar->Int->apJ Int
 |0,_,_=>none
 |d+1,v1,v2=>
  AP N v2 (vB N d) v1 v1.xIdx 0 (bh ((bh ((1:Int)+(v1.aQ.xL.length:Int)))+(v1.xIdx.length:Int)))
def Ph(N:Nat)(v1:ar)(v2:Int):apJ Int:=vB N N v1 v2
theorem agI(N:Nat):∀d:Nat,(∀{v1:ar}{v2:Int},KO 18 [(aW v1),(aq v2)] aq (vB N d v1 v2)):=by
 intro d
 induction d with
 |zero=>intro v1 v2 r J;rw[vB]at J;cases J
 |succ d ih=>
  have ih3:= @ih;intro v1 v2;rw[vB];exact fw Tryz.func18 (gA [[],[(10,oL v1.aQ.xL fG),(22,oL v1.xIdx jD)],[]] (gB rW 0 11 v1.xIdx λh2=>gn 1 [] [1,2,5,6] 1 (λv3(v7:Int)=>⟨101,[(1,(aq v2)),(2,(.ptr 0 0)),(5,(aq v7)),(6,(aq (v3:Int)))],[.cells (aW v1).cells]⟩) (λv3 v7 h3 f1=>gA [[(10,oL v1.xIdx jD),(18,bF (bK h3)),(21,bF (bK h3)),(24,bF (bK h3)),(28,bF (bK h3))],[(0,bF rfl)],[]] (gB pD 0 12 v1.bk λh5=>gn 2 [] [1,2,5,8] 1 (λv8(v12:Int)=>⟨101,[(1,(aq v2)),(2,(.ptr 0 0)),(5,(aq v12)),(8,(aq (v8:Int)))],[.cells (aW v1).cells]⟩) (λv8 v12 h6 f2=>gR [[(10,oL v1.bk j0),(18,bF (bK h6)),(21,bF (bK h6)),(24,bF (bK h6)),(28,bF (bK h6))],[(0,bF rfl)],[]]) (λv8 v10 v11 v12 h6 f2 cM=>gA [[(10,oL v1.bk j0),(18,bT (bI h6)),(21,bT (bI h6)),(24,bT (bI h6)),(28,bT (bI h6))]] (rH λh7=>au λba h8=>gb cM (bh (v12+ba)) [[(0,bT h7)],[(13,oE (ma (bt h6))),(28,cK ih3 h8)],[(5,oq (b5 h6 rfl h5))]] h6)))) (λv3 v5 v6 v7 h3 f1 aR=>gA [[(10,oL v1.xIdx jD),(18,bT (bI h3)),(21,bT (bI h3)),(24,bT (bI h3)),(28,bT (bI h3))]] (aC (λh9=>gA [[(0,bT h9)],[(13,oE (kO (bt h3))),(25,oL v5.aQ.xL fG),(40,oE (kO (bt h3))),(49,oL v5.bG gj)],[]] (liH (λ_=>(U2 0 11 (cQ v1.xIdx) (by kernel_rfl) ·)) λbM=>have bY:=Ls gj (anX (j:=3) (d:= .sl (dE v5.bG)) bM (kO (bt h3)) rfl);gn 3 [] [1,2,5,6,7] 1 (λbX(cB:Int)=>⟨101,[(1,(aq v2)),(2,(.ptr 0 0)),(5,(aq cB)),(6,(aq (v3:Int))),(7,(aq (bX:Int)))],[.cells (aW v1).cells]⟩) (λbX cB bU f3=>gb aR cB [[(13,oE (kO (bt h3))),(22,oL v5.bG gj),(30,bF (bK bU)),(33,bF (bK bU)),(36,bF (bK bU)),(40,bF (bK bU))],[(0,bF rfl)],[(5,oq (b5 h3 rfl h2))]] h3) (λbX ct v17 cB bU f3 ie=>gA [[(13,oE (kO (bt h3))),(22,oL v5.bG gj),(30,bT (bI bU)),(33,bT (bI bU)),(36,bT (bI bU)),(40,bT (bI bU))]] (aC (λdp=>gb ie (bh (cB+(ct.xL.length:Int))) [[(0,bT dp)],[(13,oE (kO (bt h3))),(25,oE (oJ (bt bU))),(34,oL ct.xL fG)],[(5,oq (b5 bU rfl bY))]] bU) λdp=>gb aR cB [[(0,bF dp)],[(5,oq (b5 h3 rfl h2))]] h3)))) λh9=>gA [[(0,bF h9)],[]] (gB pD 0 12 v1.bk λcN=>gn 4 [] [1,2,5,8] 1 (λdA(v23:Int)=>⟨101,[(1,(aq v2)),(2,(.ptr 0 0)),(5,(aq v23)),(8,(aq (dA:Int)))],[.cells (aW v1).cells]⟩) (λdA v23 b9 f4=>gR [[(10,oL v1.bk j0),(18,bF (bK b9)),(21,bF (bK b9)),(24,bF (bK b9)),(28,bF (bK b9))],[(0,bF rfl)],[]]) (λdA v21 v22 v23 b9 f4 jY=>gA [[(10,oL v1.bk j0),(18,bT (bI b9)),(21,bT (bI b9)),(24,bT (bI b9)),(28,bT (bI b9))]] (rH λdG=>au λv24 eM=>gb jY (bh (v23+v24)) [[(0,bT dG)],[(13,oE (ma (bt b9))),(28,cK ih3 eM)],[(5,oq (b5 b9 rfl cN))]] b9)))))))
theorem ano{N v1 v2}:KO 18 [(aW v1),(aq v2)] aq (Ph N v1 v2):=(agI N N)
def DF(N:Nat)(bX:aX)(Yp:apJ Bool):Nat->Int->apJ Bool
 |0,_=>none
 |cB+1,dA=>
  bif (decide (dA<(bh ((bX.aO.length:Int)+(bX.aU.length:Int)))))then
   bif (Nat.ble ((0+bX.aO.length)*48) 140737488355328)then
   bif (Nat.ble ((bX.aO.length+bX.aU.length)*48) 140737488355328)then
   bif (decide ((0:Int)<=dA))then
   Option.bind ((bX.aO++bX.aU)[(dA).toNat]?) λv20=>
   bif (decide ((v20.cg.xL.length:Int)>20))then
    some true
   else
    (λnA=>DF N bX Yp cB nA) (bh (dA+(1:Int)))
   else none
   else none
   else none
  else
   Yp
def EI(N:Nat)(v2:Int):apH aX->Nat->apJ Bool
 |[],_=>
  some false
 |bX::bC,v12=>
  Option.bind (bif (decide ((bX.aO.length:Int)>12))then some true else(bif (decide ((bX.aU.length:Int)>12))then some true else (Ph N bX.bR v2).bind λct=>
  some (decide (ct>v2)))) λv17=>
  bif v17 then
   some true
  else
   DF N bX (EI N v2 bC (v12+1)) N (0:Int)
def KZ(N:Nat)(v2:Int)(v1:aG):apH cf->Nat->apJ Bool
 |[],_=>
  EI N v2 v1.aw 0
 |v10::v11,v8=>
  Option.bind (bif (decide ((v10.aO.length:Int)>12))then some true else (OB N v10.aO).bind λv21=>
  some v21) λv22=>
  bif v22 then
   some true
  else
   (KZ N v2 v1 v11 (v8+1))
def Lc(N:Nat)(v2:Int)(v1:aG):apH cz->Nat->apJ Bool
 |[],_=>
  KZ N v2 v1 v1.aE 0
 |v6::v7,v4=>
  bif (decide ((v6.aQ.xL.length:Int)>20))then
   some true
  else
   (Lc N v2 v1 v7 (v4+1))
def Dc(N:Nat)(v1:aG)(v2:Int):apJ Bool:=
 Option.bind (bif (decide ((v1.az.length:Int)>12))then some true else(bif (decide ((v1.cd.length:Int)>12))then some true else(bif (decide ((v1.aE.length:Int)>12))then some true else(bif (decide ((v1.aw.length:Int)>12))then some true else some (decide ((v1.bW.length:Int)>12)))))) λv3=>
 bif v3 then
  some true
 else
  Lc N v2 v1 v1.cd 0
def uT(v1:aG)(l:apH an):apH an:= .cells (eB v1).cells::l
theorem aie{N v1 v2}:KO 6 [(eB v1),(aq v2)] aZ (Dc N v1 v2):=
 fw Tryz.func6 (gA [[]] (gG (λv3=>[(38,(aZ v3))]) (λ_=>(uT v1 [])) (c8 (7,oL v1.az fK) (aC (λh1=>gE [(4,bT h1),(10,bT rfl),(16,bT rfl),(22,bT rfl)] []) λh1=>dn (4,bF h1) (c8 (22,oL v1.cd mH) (aC (λh2=>gE [(10,bT h2),(16,bT rfl),(22,bT rfl)] []) λh2=>dn (10,bF h2) (c8 (40,oL v1.aE ky) (aC (λh3=>gE [(16,bT h3),(22,bT rfl)] []) λh3=>dn (16,bF h3) (c8 (58,oL v1.aw kp) (aC (λh4=>gE [(22,bT h4)] []) λh4=>gE [(22,bF h4)] [(76,oL v1.bW fK)])))))))) λv3=>gJ λ_=>gB wP 0 1 v1.cd λh8=>fu 1 [] [1,2,5] 1 (λv4=>⟨135,[(1,(aq v2)),(2,(.ptr 0 0)),(5,(aq (v4:Int)))],(uT v1 [])⟩) (λv4 h9 f1=>gA [[(10,oL v1.cd mH)],[f0 (bK h9)],[]] (gB pV 0 2 v1.aE λbY=>fu 2 [] [1,2,6] 1 (λv8=>⟨135,[(1,(aq v2)),(2,(.ptr 0 0)),(6,(aq (v8:Int)))],(uT v1 [])⟩) (λv8 bU f2=>gA [[(10,oL v1.aE ky)],[f0 (bK bU)],[]] (gB qa 0 3 v1.aw λdt=>fu 3 [] [1,2,7] 1 (λv12=>⟨135,[(1,(aq v2)),(2,(.ptr 0 0)),(7,(aq (v12:Int)))],(uT v1 [])⟩) (λv12 cN f3=>gR [[(10,oL v1.aw kp)],[f0 (bK cN)],[]]) (λv12 bX bC cN f3 ie=>gA [[(10,oL v1.aw kp)],[t0 (bI cN)],[(10,oE (oY (bt cN)))]] (gG (λv17=>[(108,(aZ v17))]) (λ_=>(uT v1 [.cells (fm bX).cells])) (c8 (7,oL bX.aO eG) (aC (λb9=>gE [(4,bT b9),(10,bT rfl)] []) λb9=>dn (4,bF b9) (c8 (22,oL bX.aU eG) (aC (λdG=>gE [(10,bT dG)] []) λdG=>au λct eM=>gE [(10,bF dG)] [(43,cK ano eM)])))) λv17=>cF λdx=>OV 4 [[f0 dx],[]] [1,2,7,8,9] 2 (λ(dA:Int)=>⟨135,[(1,(aq v2)),(2,(.ptr 0 0)),(7,(aq (v12:Int))),(8,(.ptr 1 0)),(9,(aq dA))],(uT v1 [.cells (fm bX).cells])⟩) (DF N bX (EI N v2 bC (v12+1))) (λcB dA f4 jY=>gA [[(10,oL bX.aO eG),(19,oL bX.aU eG)]] (aC (λfB=>gA [[t0 fB]] (bl λgY=>bl λfP=>bl λir=>au λv20 fz=>li (λ_=>(anE 3 dO [(10,(.ptr 3 0))] (uT v1 [.cells (fm bX).cells, .front 72 3 (bX.aO++bX.aU).length, .cells (zi v20).cells]) ⟨[(10,oZ mO bX.aO gY),(19,oA mO bX.aO bX.aU fP),(25,⟨_,_, .el (xs:=dL (bX.aO++bX.aU)) (i:=dA) (of_decide_eq_true ir) (lR fz)⟩)],by kernel_rfl⟩ ·)) (gA [[(10,oL v20.cg.xL fG)]] (cF λgg=>qO jY (bh (dA+(1:Int))) [[f0 gg],[]])))) λfB=>gb ie () [[f0 fB],[(5,oq (b5 cN rfl dt))]] cN)))))) (λv8 v10 v11 bU f2 cM=>gA [[(10,oL v1.aE ky)],[t0 (bI bU)]] (gG (λv22=>[(78,(aZ v22))]) (λ_=>(uT v1 [])) (c8 (10,oE (mC (bt bU))) (c8 (19,oL v10.aO gj) (aC (λik=>gE [(8,bT ik)] []) λik=>au λv21 fM=>gE [(8,bF ik)] [(37,oE (mC (bt bU))),(46,cK ak5 fM)]))) λv22=>cF λiv=>gb cM () [[f0 iv],[(5,oq (b5 bU rfl bY))]] bU)))) (λv4 v6 v7 h9 f1 aR=>gA [[(10,oL v1.cd mH)],[t0 (bI h9)],[(10,oE (uL (bt h9))),(22,oL v6.aQ.xL fG)]] (cF λlD=>gb aR () [[f0 lD],[(5,oq (b5 h9 rfl h8))]] h9))))
def GL(N:Nat)(v1:apI):apJ aN:=
 some (⟨(0:Int64),[(⟨v1,(1:Int64)⟩:bf)]⟩:aN)
theorem Rw{N v1}:KO 49 [(aL v1)] cP (GL N v1):=
 fw Tryz.func49 (gR [[],[]])
def PT(N:Nat)(v1:apI)(v2:apI)(v3:apI)(v4:apI):apJ aG:=
 (GL N v4).bind λv5=>
 (GL N v1).bind λv6=>
 (GL N v1).bind λv7=>
 some (⟨[v1],[],[(⟨v2,(⟨(1:Int),(0:Int),(0:Int),(0:Int),(0:Int)⟩:bq),[v7]⟩:cf)],[(⟨v3,(⟨(1:Int),(0:Int),(0:Int),(0:Int),(0:Int)⟩:bq),[],[(⟨v4,v6⟩:bV)],(1:Int),(⟨(3:Int),v2,zb,gr,ac7,[(⟨v5,(bs []),[]⟩:bu)],[]⟩:ar)⟩:aX)],[v3]⟩:aG)
theorem aag{N v1 v2 v3 v4}:KO 19 [(aL v1),(aL v2),(aL v3),(aL v4)] eB (PT N v1 v2 v3 v4):=
 fw Tryz.func19 (au λv5 h1=>au λv6 h2=>au λv7 h3=>gR [[],[],[(7,cK Rw h1)],[(13,cK Rw h2)],[(16,cK Rw h3)]])
def Jc(N:Nat)(v1:aG):apJ Bool:=
 Option.bind (bif (decide ((if(v1.bW.length:Int)>(if(v1.aw.length:Int)>(if(v1.aE.length:Int)>(v1.az.length:Int)then(v1.aE.length:Int)else(v1.az.length:Int))then(v1.aw.length:Int)else(if(v1.aE.length:Int)>(v1.az.length:Int)then(v1.aE.length:Int)else(v1.az.length:Int)))then(v1.bW.length:Int)else(if(v1.aw.length:Int)>(if(v1.aE.length:Int)>(v1.az.length:Int)then(v1.aE.length:Int)else(v1.az.length:Int))then(v1.aw.length:Int)else(if(v1.aE.length:Int)>(v1.az.length:Int)then(v1.aE.length:Int)else(v1.az.length:Int))))<=64))then some (decide ((v1.cd.length:Int)<=256))else some false) λv2=>
 some v2
theorem aet{N v1}:KO 36 [(eB v1)] aZ (Jc N v1):=
 fw Tryz.func36 (gA [[]] (gG (λv2=>[(2,(aZ v2))]) (λ_=>[.cells (eB v1).cells]) (c8 (7,oL v1.az fK) (c8 (16,oL v1.aE ky) (c8 (25,oL v1.aw kp) (c8 (34,oL v1.bW fK) (aC (λh1=>gE [(14,bT h1)] [(52,oL v1.cd mH)]) λh1=>gE [(14,bF h1)] []))))) λv2=>gR []))
def B7(N:Nat)(v1:Int):apJ Bool:=
 Option.bind (bif (decide (v1>=97))then some (decide (v1<=122))else some false) λv2=>
 some v2
theorem acq{N v1}:KO 118 [(.d (.v (.int .i32 v1)))] aZ (B7 N v1):=
 fw Tryz.func118 (gA [[]] (gG (λv2=>[(2,(aZ v2))]) (λ_=>[]) (aC (λh1=>gE [(2,bT h1)] []) λh1=>gE [(2,bF h1)] []) λv2=>gR []))
def IQ(N:Nat)(v1:Int):apJ Bool:=
 Option.bind (bif (decide (v1>=48))then some (decide (v1<=57))else some false) λv2=>
 some v2
theorem aeK{N v1}:KO 164 [(.d (.v (.int .i32 v1)))] aZ (IQ N v1):=
 fw Tryz.func164 (gA [[]] (gG (λv2=>[(2,(aZ v2))]) (λ_=>[]) (aC (λh1=>gE [(2,bT h1)] []) λh1=>gE [(2,bF h1)] []) λv2=>gR []))
def Ki(N:Nat)(v1:Int):apJ Bool:=
 (B7 N v1).bind λv2=>
 Option.bind (bif v2 then some true else (IQ N v1).bind λv3=>
 (bif v3 then some true else some (v1==95))) λv4=>
 some v4
theorem adl{N v1}:KO 120 [(.d (.v (.int .i32 v1)))] aZ (Ki N v1):=
 fw Tryz.func120 (gA [[]] (au λv2 h1=>gG (λv4=>[(2,(aZ v4))]) (λ_=>[]) (c8 (4,cK acq h1) (aC (λh2=>gE [(2,bT h2),(6,bT rfl)] []) λh2=>au λv3 h3=>dn (2,bF h2) (c8 (13,cK aeK h3) (aC (λh4=>gE [(6,bT h4)] []) λh4=>gE [(6,bF h4)] [])))) λv4=>gR []))
def FE(N:Nat)(v1:apI):Nat->Int->apJ Int
 |0,_=>none
 |v2+1,v3=>
  Option.bind (bif (decide (v3<(v1.size:Int)))then bif (decide ((0:Int)<=v3))then
  Option.bind (v1[(v3).toNat]?) λv4=>
  Option.bind (Ki N (IntKind.i32.wrap (v4.toNat:Int))) λv5=>
  some v5
  else none else some false) λv6=>
  bif v6 then
   (λbm=>FE N v1 v2 bm) (bh (v3+(1:Int)))
  else
   some v3
def Lu(N:Nat)(v1:apI):apJ Int:=
 FE N v1 N (0:Int)
theorem anQ{N v1}:KP 119 [(aL v1),(.fn 120 [])] [] aq (λ_=>[]) (Lu N v1):=
 fh 0 Tryz.func119 (OV 1 [[],[]] [0,1,5] 0 (λ(v3:Int)=>⟨21,[(0,(aL v1)),(1,(.fn 120 [])),(5,(aq v3))],[]⟩) (FE N v1) (λv2 v3 f1 aR=>gG (λv6=>[(17,(aZ v6))]) (λ_=>[]) (aC (λh1=>bl λh3=>au λv4 h2=>au λv5 h4=>gE [(4,bT h1)] [(25,⟨_,_, .ch (i:=v3) (of_decide_eq_true h3) h2⟩),(31,cK adl h4)]) λh1=>gE [(4,bF h1)] []) λv6=>aC (λh6=>qO aR (bh (v3+(1:Int))) [[t0 h6],[]]) λh6=>gH [[f0 h6],[]]))
def QB(N:Nat):apJ (apH apI):=some nx
theorem am0{N r}(J:QB N=some r):ic Tryz.prog 165 [] (·=(.d (.sl (cw r)))):=by
 cases J;exact aiL
def J0(N:Nat)(v2:apI):apH apI->Nat->apJ Int
 |[],_=>
  some (-1:Int)
 |v5::v6,v3=>
  bif (bL v2==bL v5)then
   some (v3:Int)
  else
   (J0 N v2 v6 (v3+1))
def L4(N:Nat)(v1:apH apI)(v2:apI):apJ Int:=
 J0 N v2 v1 0
theorem ahR{N v1 v2}:KO 97 [(.d (.sl (cw v1))),(aL v2)] aq (L4 N v1 v2):=
 fw Tryz.func97 (gA [[],[(4,oL v1 fK)]] (gT gi 0 v1 λh2=>fu 1 [] [0,1,7,8] 0 (λv3=>⟨19,[(0,(.d (.sl (cw v1)))),(1,(aL v2)),(7,(aq (v1.length:Int))),(8,(aq (v3:Int)))],[]⟩) (λv3 h3 f1=>gR [[],[f0 (bK h3)],[]]) (λv3 v5 v6 h3 f1 aR=>gA [[],[t0 (bI h3)],[],[(10,oE (jR (bt h3)))]] (cF λh4=>gb aR () [[f0 h4],[(2,oq (b5 h3 rfl h2))]] h3))))
def zg(N:Nat)(v1:apH apI)(v2:apI):apJ Bool:=
 (L4 N v1 v2).bind λv3=>
 some (decide (v3>=0))
theorem VO{N v1 v2}:KO 41 [(.d (.sl (cw v1))),(aL v2)] aZ (zg N v1 v2):=
 fw Tryz.func41 (au λv3 h1=>gR [[],[(7,cK ahR h1)]])
def My(N:Nat)(v1:apI):apJ Bool:=
 (QB N).bind λv2=>
 (zg N v2 v1).bind λv3=>
 some v3
theorem afp{N v1}:KO 121 [(aL v1)] aZ (My N v1):=
 fw Tryz.func121 (au λv2 h1=>au λv3 h2=>gR [[],[(1,cL (am0 h1)),(7,cK VO h2)]])
def pj(N:Nat)(v1:apI):apJ Bool:=
 Option.bind (bif (bL v1==bL (bs []))then some false else(bif (decide ((v1.size:Int)<=16))then Option.bind (v1[0]?) λv2=>
 Option.bind (B7 N (IntKind.i32.wrap (v2.toNat:Int))) λv3=>
 (bif v3 then (Lu N v1).bind λv4=>
 (bif (v4==(v1.size:Int))then (My N v1).bind λv5=>
 some (!v5)else some false)else some false)else some false)) λv6=>
 some v6
theorem tO{N v1}:KO 72 [(aL v1)] aZ (pj N v1):=
 fw Tryz.func72 (gA [[]] (gG (λv6=>[(2,(aZ v6))]) (λ_=>[]) (aC (λh1=>gE [(2,bF (dw h1)),(7,bF rfl),(13,bF rfl),(20,bF rfl)] []) λh1=>dn (2,bT (eC h1)) (aC (λh2=>au λv2 h3=>au λv3 h4=>dn (7,bT h2) (c8 (28,⟨_,_, .ch (i:=0) (by decide) h3⟩) (c8 (34,cK acq h4) (aC (λh5=>au λv4 h6=>dn (13,bT h5) (c8 (46,oQ [(aL v1),(.fn 120 [])] [] [] (anQ _ h6)) (aC (λh7=>au λv5 h8=>gE [(20,bT h7)] [(67,cK afp h8)]) λh7=>gE [(20,bF h7)] []))) λh5=>gE [(13,bF h5),(20,bF rfl)] [])))) λh2=>gE [(7,bF h2),(13,bF rfl),(20,bF rfl)] [])) λv6=>gR []))
def BG(N:Nat)(v1:apI)(v2:Int)(v3:aG)(v4:apH (apI×Int)):apJ (Int×(apH (apI×Int))):=
 (pj N v1).bind λv5=>
 bif v5 then
  bif ((eQ v4 v1 0) !=0)then
   some ((8:Int),v4)
  else
   bif (Nat.blt v4.length 9223372036854775807)then
   some ((0:Int),((v1,v2)::v4))
   else none
 else
  some ((7:Int),v4)
theorem OZ{N v1 v2 v3 v4}:KP 37 [(.ptr 0 0),(aL v1),(aq v2)] [.cells (fx v3 [(.mp 1)]), .map (eR v4)] (λr=>aq r.1) (λr=>[.cells (fx v3 [(.mp 1)]), .map (eR r.2)]) (BG N v1 v2 v3 v4):=
 fh 2 Tryz.func37 (au λv5 h1=>gA [[],[(4,cK tO h1)]] (aC (λh2=>gA [[f0 (dw h2)],[(17,⟨_,_, .eq (F3 false v4 v1)⟩)]] (aC (λh3=>gH [[t0 h3],[]]) λh3=>bl λh4=>gH [[f0 h3],[(19,⟨_,_, .sd (o:= .none) (RY h4)⟩)],[]])) λh2=>gH [[t0 (eC h2)],[]]))
def iG(N:Nat)(v2:Bool):apJ Bool:=
 bif v2 then
  some true
 else
  some false
def HT(N:Nat)(v1:apI):apJ Bool:=
 bif (bL v1==bL (bs [115,105,122,101]))then
  iG N (bL v1==bL (bs [115,105,122,101]))
 else
  bif (bL v1==bL (bs [119,104,101,114,101]))then
   iG N (bL v1==bL (bs [119,104,101,114,101]))
  else
   bif (bL v1==bL (bs [105,110]))then
    iG N (bL v1==bL (bs [105,110]))
   else
    bif (bL v1==bL (bs [100,101,102]))then
     iG N (bL v1==bL (bs [100,101,102]))
    else
     bif (bL v1==bL (bs [111,117,116]))then
      iG N (bL v1==bL (bs [111,117,116]))
     else
      bif (bL v1==bL (bs [115,117,109]))then
       iG N (bL v1==bL (bs [115,117,109]))
      else
       bif (bL v1==bL (bs [112,114,111,100]))then
        iG N (bL v1==bL (bs [112,114,111,100]))
       else
        bif (bL v1==bL (bs [109,105,110]))then
         iG N (bL v1==bL (bs [109,105,110]))
        else
         bif (bL v1==bL (bs [109,97,120]))then
          iG N (bL v1==bL (bs [109,97,120]))
         else
          bif (bL v1==bL (bs [115,99,97,110]))then
           iG N (bL v1==bL (bs [115,99,97,110]))
          else
           bif (bL v1==bL (bs [111,118,101,114]))then
            iG N (bL v1==bL (bs [111,118,101,114]))
           else
            bif (bL v1==bL (bs [105,102]))then
             iG N (bL v1==bL (bs [105,102]))
            else
             bif (bL v1==bL (bs [99,97,115,116]))then
              iG N (bL v1==bL (bs [99,97,115,116]))
             else
              bif (bL v1==bL (bs [102,114,97,99]))then
               iG N (bL v1==bL (bs [102,114,97,99]))
              else
               bif (bL v1==bL (bs [105,110,116]))then
                iG N (bL v1==bL (bs [105,110,116]))
               else
                bif (bL v1==bL (bs [102,105,120]))then
                 iG N (bL v1==bL (bs [102,105,120]))
                else
                 bif (bL v1==bL (bs [99,101,105,108]))then
                  iG N (bL v1==bL (bs [99,101,105,108]))
                 else
                  bif (bL v1==bL (bs [102,108,111,111,114]))then
                   iG N (bL v1==bL (bs [102,108,111,111,114]))
                  else
                   bif (bL v1==bL (bs [122,101,114,111]))then
                    iG N (bL v1==bL (bs [122,101,114,111]))
                   else
                    bif (bL v1==bL (bs [101,118,101,110]))then
                     iG N (bL v1==bL (bs [101,118,101,110]))
                    else
                     bif (bL v1==bL (bs [115,97,116]))then
                      iG N (bL v1==bL (bs [115,97,116]))
                     else
                      iG N (bL v1==bL (bs [119,114,97,112]))
theorem an4{N v1}:KO 193 [(aL v1)] aZ (HT N v1):=
 fw Tryz.func193 (gv 1 [[],[],[]] [4] 0 (λ(v2:Bool)=>⟨27,[(4,(aZ v2))],[]⟩) (iG N) (λf1 aR=>aC (λh2=>gm aR (bL v1==bL (bs [115,105,122,101])) [[t0 h2]]) λh2=>gA [[f0 h2],[]] (aC (λh3=>gm aR (bL v1==bL (bs [119,104,101,114,101])) [[t0 h3]]) λh3=>gA [[f0 h3],[]] (aC (λh4=>gm aR (bL v1==bL (bs [105,110])) [[t0 h4]]) λh4=>gA [[f0 h4],[]] (aC (λh5=>gm aR (bL v1==bL (bs [100,101,102])) [[t0 h5]]) λh5=>gA [[f0 h5],[]] (aC (λh6=>gm aR (bL v1==bL (bs [111,117,116])) [[t0 h6]]) λh6=>gA [[f0 h6],[]] (aC (λh7=>gm aR (bL v1==bL (bs [115,117,109])) [[t0 h7]]) λh7=>gA [[f0 h7],[]] (aC (λh8=>gm aR (bL v1==bL (bs [112,114,111,100])) [[t0 h8]]) λh8=>gA [[f0 h8],[]] (aC (λh9=>gm aR (bL v1==bL (bs [109,105,110])) [[t0 h9]]) λh9=>gA [[f0 h9],[]] (aC (λbM=>gm aR (bL v1==bL (bs [109,97,120])) [[t0 bM]]) λbM=>gA [[f0 bM],[]] (aC (λbY=>gm aR (bL v1==bL (bs [115,99,97,110])) [[t0 bY]]) λbY=>gA [[f0 bY],[]] (aC (λbU=>gm aR (bL v1==bL (bs [111,118,101,114])) [[t0 bU]]) λbU=>gA [[f0 bU],[]] (aC (λdp=>gm aR (bL v1==bL (bs [105,102])) [[t0 dp]]) λdp=>gA [[f0 dp],[]] (aC (λdt=>gm aR (bL v1==bL (bs [99,97,115,116])) [[t0 dt]]) λdt=>gA [[f0 dt],[]] (aC (λcN=>gm aR (bL v1==bL (bs [102,114,97,99])) [[t0 cN]]) λcN=>gA [[f0 cN],[]] (aC (λb9=>gm aR (bL v1==bL (bs [105,110,116])) [[t0 b9]]) λb9=>gA [[f0 b9],[]] (aC (λdG=>gm aR (bL v1==bL (bs [102,105,120])) [[t0 dG]]) λdG=>gA [[f0 dG],[]] (aC (λeM=>gm aR (bL v1==bL (bs [99,101,105,108])) [[t0 eM]]) λeM=>gA [[f0 eM],[]] (aC (λfE=>gm aR (bL v1==bL (bs [102,108,111,111,114])) [[t0 fE]]) λfE=>gA [[f0 fE],[]] (aC (λdx=>gm aR (bL v1==bL (bs [122,101,114,111])) [[t0 dx]]) λdx=>gA [[f0 dx],[]] (aC (λfB=>gm aR (bL v1==bL (bs [101,118,101,110])) [[t0 fB]]) λfB=>gA [[f0 fB],[]] (aC (λgY=>gm aR (bL v1==bL (bs [115,97,116])) [[t0 gY]]) λgY=>gm aR (bL v1==bL (bs [119,114,97,112])) [[f0 gY],[]]))))))))))))))))))))) (λv2=>cF λh1=>gR [[f0 h1],[]]))
def BA(N:Nat)(v1:apI):Nat->Int->apJ Bool
 |0,_=>none
 |v5+1,v6=>
  bif (decide (v6<(v1.size:Int)))then
   bif (decide ((0:Int)<=v6))then
   Option.bind (v1[(v6).toNat]?) λv7=>
   Option.bind (bif (decide ((v7.toNat:Int)<97))then(bif (decide ((v7.toNat:Int)<48))then some ((v7.toNat:Int) !=95)else(bif (decide ((v7.toNat:Int)>57))then some ((v7.toNat:Int) !=95)else some false))else(bif (decide ((v7.toNat:Int)>122))then(bif (decide ((v7.toNat:Int)<48))then some ((v7.toNat:Int) !=95)else(bif (decide ((v7.toNat:Int)>57))then some ((v7.toNat:Int) !=95)else some false))else some false)) λv8=>
   bif v8 then
    some false
   else
    (λbm=>BA N v1 v5 bm) (bh (v6+(1:Int)))
   else none
  else
   some true
def Lo(N:Nat)(v1:apI):apJ Bool:=
 Option.bind (bif (decide ((v1.size:Int)<1))then some true else(bif (decide ((v1.size:Int)>16))then some true else (HT N v1).bind λv2=>
 (bif v2 then some true else Option.bind (v1[0]?) λv3=>
 (bif (decide ((v3.toNat:Int)<97))then some true else some (decide ((v3.toNat:Int)>122)))))) λv4=>
 bif v4 then
  some false
 else
  BA N v1 N (0:Int)
theorem ajR{N v1}:KO 158 [(aL v1)] aZ (Lo N v1):=
 fw Tryz.func158 (gA [[]] (gG (λv4=>[(26,(aZ v4))]) (λ_=>[]) (aC (λh1=>gE [(3,bT h1),(8,bT rfl),(12,bT rfl),(17,bT rfl)] []) λh1=>dn (3,bF h1) (aC (λh2=>gE [(8,bT h2),(12,bT rfl),(17,bT rfl)] []) λh2=>au λv2 h3=>dn (8,bF h2) (c8 (31,cK an4 h3) (aC (λh4=>gE [(12,bT h4),(17,bT rfl)] []) λh4=>au λv3 h5=>dn (12,bF h4) (c8 (43,⟨_,_, .ch (i:=0) (by decide) h5⟩) (aC (λh6=>gE [(17,bT h6)] []) λh6=>gE [(17,bF h6)] [(58,⟨_,_, .ch (i:=0) (by decide) h5⟩)])))))) λv4=>cF λh8=>OV 1 [[f0 h8],[]] [0,28,29] 0 (λ(v6:Int)=>⟨54,[(0,(aL v1)),(28,(aq (v1.size:Int))),(29,(aq v6))],[]⟩) (BA N v1) (λv5 v6 f1 aR=>gA [[]] (rH λh9=>bl λbY=>au λv7 bM=>gA [[t0 h9],[],[(7,⟨_,_, .ch (i:=v6) (of_decide_eq_true bY) bM⟩)]] (gG (λv8=>[(52,(aZ v8))]) (λ_=>[]) (aC (λbU=>dn (2,bT bU) (dn (6,bT rfl) (aC (λdp=>gE [(9,bT dp),(14,bT rfl)] [(37,bT dp)]) λdp=>dn (9,bF dp) (c8 (37,bF dp) (aC (λdt=>gE [(14,bT dt)] []) λdt=>gE [(14,bF dt)] []))))) λbU=>dn (2,bF bU) (aC (λcN=>dn (6,bT cN) (aC (λb9=>gE [(9,bT b9),(14,bT rfl)] [(37,bT b9)]) λb9=>dn (9,bF b9) (c8 (37,bF b9) (aC (λdG=>gE [(14,bT dG)] []) λdG=>gE [(14,bF dG)] [])))) λcN=>gE [(6,bF cN),(9,uN),(14,bF rfl)] [])) λv8=>cF λfE=>qO aR (bh (v6+(1:Int))) [[f0 fE],[]])))))
def GS(N:Nat)(v1:aN):apH bf->Nat->apJ Int
 |[],_=>
  some (0:Int)
 |v4::v5,v2=>
  (Lo N v4.ao).bind λv6=>
  Option.bind (bif v6 then(bif (v4.ck.toInt==0)then some true else(bif (decide ((v2:Int)>0))then bif (decide ((0:Int)<=(bh ((v2:Int)-(1:Int)))))then
  Option.bind (v1.xL[((bh ((v2:Int)-(1:Int)))).toNat]?) λv7=>
  some (!(Op.bytesLess (bL v7.ao) (bL v4.ao)))
  else none else some false))else some true) λv8=>
  bif v8 then
   some (1:Int)
  else
   (GS N v1 v5 (v2+1))
def rR(N:Nat)(v1:aN):apJ Int:=
 GS N v1 v1.xL 0
theorem w7{N v1}:KO 115 [(cP v1)] aq (rR N v1):=
 fw Tryz.func115 (gA [[],[(7,oL v1.xL fG)]] (gT nU 6 v1.xL λh2=>fu 1 [] [1,6,7,8] 1 (λv2=>⟨39,[(1,(.ptr 0 0)),(6,(.d (.sl (c9 v1.xL)))),(7,(aq (v1.xL.length:Int))),(8,(aq (v2:Int)))],[.cells (cP v1).cells]⟩) (λv2 h3 f1=>gR [[],[f0 (bK h3)],[]]) (λv2 v4 v5 h3 f1 aR=>gA [[],[t0 (bI h3)],[(4,oE (o0 (bt h3)))]] (au λv6 h4=>gG (λv8=>[(37,(aZ v8))]) (λ_=>[.cells (cP v1).cells, .cells (xW v4).cells]) (c8 (7,cK ajR h4) (aC (λh5=>dn (4,bF (dw h5)) (aC (λh6=>gE [(9,bT h6),(12,uN)] []) λh6=>dn (9,bF h6) (aC (λh7=>bl λh9=>au λv7 h8=>gE [(12,bT h7)] [(52,⟨_,_, .el (xs:=c9 v1.xL) (i:=(bh ((v2:Int)-(1:Int)))) (of_decide_eq_true h9) (o0 h8)⟩),(70,bT h7)]) λh7=>gE [(12,bF h7)] [(70,bF h7)]))) λh5=>gE [(4,bT (eC h5)),(9,bT rfl),(12,uN)] [])) λv8=>cF λbY=>gb aR () [[f0 bY],[(2,oq (b5 h3 rfl h2))]] h3))))
def tM(N:Nat)(v1:cz):apJ Int:=
 (rR N v1.aQ).bind λv2=>
 some v2
theorem Qo{N v1}:KO 69 [(pf v1)] aq (tM N v1):=
 fw Tryz.func69 (au λv2 h1=>gR [[],[(7,cK w7 h1)]])
def Lm(N:Nat)(v3:apH (apI×Int)):apH bf->Nat->apJ Int
 |[],_=>
  some (0:Int)
 |v7::v8,v5=>
  bif ((eQ v3 v7.ao 0) !=1)then
   some (9:Int)
  else
   (Lm N v3 v8 (v5+1))
def zK(N:Nat)(v1:aN)(v2:aG)(v3:apH (apI×Int)):apJ Int:=
 (rR N v1).bind λv4=>
 bif (v4 !=0)then
  some (1:Int)
 else
  Lm N v3 v1.xL 0
theorem QE{N v1 v2 v3}:KP 92 [(.ptr 0 0),(cP v1)] [.cells (fx v2 [(.mp 1)]), .map (eR v3)] aq (λ_=>[.cells (fx v2 [(.mp 1)]), .map (eR v3)]) (zK N v1 v2 v3):=
 fh 2 Tryz.func92 (au λv4 h1=>gA [[],[(4,cK w7 h1)]] (aC (λh2=>gH [[t0 h2],[]]) λh2=>gA [[f0 h2],[(7,oL v1.xL fG)]] (gT nU 11 v1.xL λh4=>fu 1 [] [0,11,12,13] 3 (λv5=>⟨26,[(0,(.ptr 0 0)),(11,(.d (.sl (c9 v1.xL)))),(12,(aq (v1.xL.length:Int))),(13,(aq (v5:Int)))],[.cells (fx v2 [(.mp 1)]), .map (eR v3), .cells (cP v1).cells]⟩) (λv5 h5 f1=>gH [[],[f0 (bK h5)],[]]) (λv5 v7 v8 h5 f1 aR=>gA [[],[t0 (bI h5)],[(1,oE (o0 (bt h5)))],[(20,⟨_,_, .eq (F3 false v3 v7.ao)⟩)]] (aC (λh6=>gH [[t0 h6],[]]) λh6=>gb aR () [[f0 h6],[(2,oq (b5 h5 rfl h4))]] h5)))))
def II(N:Nat)(v1:cz)(v2:aG)(v3:apH (apI×Int)):apJ Int:=
 (tM N v1).bind λv4=>
 bif (v4 !=0)then
  some (1:Int)
 else
  (zK N v1.aQ v2 v3).bind λv5=>
  some v5
theorem acI{N v1 v2 v3}:KP 38 [(.ptr 0 0),(pf v1)] [.cells (fx v2 [(.mp 1)]), .map (eR v3)] aq (λ_=>[.cells (fx v2 [(.mp 1)]), .map (eR v3)]) (II N v1 v2 v3):=
 fh 2 Tryz.func38 (au λv4 h1=>gA [[],[(4,cK Qo h1)]] (aC (λh2=>gH [[t0 h2],[]]) λh2=>au λv5 h3=>gH [[f0 h2],[(10,oQ [(.ptr 0 0),(cP v1.aQ)] [.cells (fx v2 [(.mp 1)]), .map (eR v3), .cells (pf v1).cells] [0,1] (QE _ h3))]]))
def O0(N:Nat)(v1:bq):apJ Bool:=
 some ((v1.bS==v1.bS)&&((v1.cb==0)&&((v1.ca==0)&&((v1.cJ==0)&&((v1.cH==0)&&true)))))
theorem amo{N v1}:KO 122 [(fV v1)] aZ (O0 N v1):=
 fw Tryz.func122 (gR [[],[]])
def uu(N:Nat)(v1:bq):apJ Int:=
 Option.bind (bif (decide (v1.cJ>=1))then(bif (decide (v1.cJ<=4))then(bif (v1.cH==1)then some true else some (v1.cH==2))else some false)else some false) λv2=>
 Option.bind (bif (v1.bS !=2)then some true else(bif (decide (v1.cb<2))then some true else(bif (decide (v1.cb>31))then some true else(bif (decide (v1.ca<0))then some true else(bif (decide (v1.ca>30))then some true else some (!v2)))))) λv3=>
 bif v3 then
  some (10:Int)
 else
  some (0:Int)
theorem MN{N v1}:KO 123 [(fV v1)] aq (uu N v1):=
 fw Tryz.func123 (gA [[]] (gG (λv2=>[(3,(aZ v2))]) (λ_=>[.cells (fV v1).cells]) (aC (λh1=>dn (3,bT h1) (aC (λh2=>dn (8,bT h2) (aC (λh3=>gE [(12,bT h3)] [(49,bT h3)]) λh3=>gE [(12,bF h3)] [(49,bF h3)])) λh2=>gE [(8,bF h2),(12,uN)] [])) λh1=>gE [(3,bF h1),(8,bF rfl),(12,uN)] []) λv2=>gG (λv3=>[(48,(aZ v3))]) (λ_=>[.cells (fV v1).cells]) (aC (λh5=>gE [(3,bT h5),(8,bT rfl),(13,bT rfl),(18,bT rfl),(23,bT rfl)] []) λh5=>dn (3,bF h5) (aC (λh6=>gE [(8,bT h6),(13,bT rfl),(18,bT rfl),(23,bT rfl)] []) λh6=>dn (8,bF h6) (aC (λh7=>gE [(13,bT h7),(18,bT rfl),(23,bT rfl)] []) λh7=>dn (13,bF h7) (aC (λh8=>gE [(18,bT h8),(23,bT rfl)] []) λh8=>dn (18,bF h8) (aC (λh9=>gE [(23,bT h9)] []) λh9=>gE [(23,bF h9)] []))))) λv3=>cF λbY=>gR [[f0 bY],[]]))
def Cm(N:Nat)(v1:bq)(v2:Bool):apJ Int:=
 bif v2 then
  (O0 N v1).bind λv3=>
  bif v3 then
   some (0:Int)
  else
   some (10:Int)
 else
  bif (v1.bS==2)then
   (uu N v1).bind λv4=>
   bif (v4==0)then
    some (0:Int)
   else
    some (10:Int)
  else
   some (10:Int)
def qv(N:Nat)(v1:bq):apJ Int:=
 bif (v1.bS==1)then
  Cm N v1 (v1.bS==1)
 else
  Cm N v1 (v1.bS==3)
theorem ya{N v1}:KO 73 [(fV v1)] aq (qv N v1):=
 fw Tryz.func73 (gv 1 [[],[],[]] [1,4,5] 1 (λ(v2:Bool)=>⟨15,[(1,(.ptr 0 0)),(4,(aq v1.bS)),(5,(aZ v2))],[.cells (fV v1).cells]⟩) (Cm N v1) (λf1 aR=>aC (λh7=>gm aR (v1.bS==1) [[t0 h7]]) λh7=>gm aR (v1.bS==3) [[f0 h7],[]]) (λv2=>aC (λh1=>au λv3 h2=>gA [[t0 h1],[(4,cK amo h2)]] (cF λh3=>gR [[f0 h3],[]])) λh1=>gA [[f0 h1],[]] (rH λh4=>au λv4 h5=>gA [[t0 h4],[(4,cK MN h5)]] (cF λh6=>gR [[f0 h6],[]]))))
def C5(N:Nat):apH Int->Nat->Int->apJ Int
 |[],_,v7=>
  some v7
 |v5::v6,v3,v7=>
  (λiP=>C5 N v6 (v3+1) iP) (if v5>v7 then v5 else v7)
def Tj(N:Nat)(v1:apH Int):apJ Int:=
 Option.bind (v1[0]?) λv2=>
 C5 N (v1.drop 1) 1 v2
def Fc(N:Nat)(v1:apH Int):apJ Int:=
 bif (decide ((v1.length:Int)<1))then
  none
 else
  Tj N v1
theorem agA{N v1 r}(J:Fc N v1=some r):KF 140 [(.d (.sl (oF v1)))] (aq r):=by
 rw[Fc]at J;refine Qi Tryz.func140 ?_;refine wj0 dO r 1 [[],[(4,oL v1 JB)]] [0] 0 ⟨25,[(0,(.d (.sl (oF v1))))],[]⟩ (Tj N v1) ?_ ?_
 ·intro f1 aR;apply bc J<;>intro h5 J
  ·cases J
  exact Mb dO aR () [[(0,bF h5)]] J
 intro J;rw[Tj]at J;obtain⟨v2,h1,J⟩:=dv J;refine wM dO [[(4,oE (k:=0) (V6 h1))],[]] ?_;refine BZ akH 0 v1 λh3=> ?_;refine QM dO 2 [] [0,3,4] 0 (λ((v3,v4,v7):Nat×(apH Int)×Int)=>⟨25,[(0,(.d (.sl (oF v1)))),(3,(aq v7)),(4,(aq (v3:Int)))],[]⟩) (λ((v3,v4,v7):Nat×(apH Int)×Int)=>v1.drop v3=v4/\C5 N v4 v3 v7=some r) (λ((v3,v4,v7):Nat×(apH Int)×Int)=>v4.length) (1,(v1.drop 1),v2) ⟨rfl,J⟩ ?_;rintro⟨v3,v4,v7⟩ ⟨h4,J⟩ f2 cM;cases v4 with
 |nil=>
  rw[C5]at J;cases J;exact wr dO [[(7,oL v1 JB)],[(0,bF (bK h4))],[]]
 |cons v5 v6=>
  rw[C5]at J;exact N9 dO cM (v3+1,v6,(if v5>v7 then v5 else v7)) [[(7,oL v1 JB)],[(0,bT (bI h4))],[(10,oE (V6 (bt h4)))],[(5,oq (b5 h4 rfl h3))]] ⟨sf h4,J⟩
def yZ(N:Nat)(v1:bq)(v2:apH Int):apJ Int:=
 (qv N v1).bind λv3=>
 bif (v3 !=0)then
  some (10:Int)
 else
  (Fc N v2).bind λv4=>
  bif (decide (v4>6))then
   some (11:Int)
  else
   some (0:Int)
theorem ZV{N v1 v2}:KO 93 [(fV v1),(.d (.sl (oF v2)))] aq (yZ N v1 v2):=
 fw Tryz.func93 (au λv3 h1=>gA [[],[(4,cK ya h1)]] (cF λh2=>au λv4 h3=>gA [[f0 h2],[(4,cL (agA h3))]] (cF λh4=>gR [[f0 h4],[]])))
def KV(N:Nat)(v4:Int×(apH (apI×Int)))(v2:aG):apH aN->Nat->apJ (Int×(apH (apI×Int)))
 |[],_=>
  some ((0:Int),v4.2)
 |v8::v9,v6=>
  (zK N v8 v2 v4.2).bind λv10=>
  bif (v10 !=0)then
   some (v10,v4.2)
  else
   (KV N v4 v2 v9 (v6+1))
def IJ(N:Nat)(v1:cf)(v2:aG)(v3:apH (apI×Int)):apJ (Int×(apH (apI×Int))):=
 Option.bind (BG N v1.ao (2:Int) v2 v3) λv4=>
 bif (v4.1 !=0)then
  some (v4.1,v4.2)
 else
  Option.bind (yZ N v1.aM ([(v1.aO.length:Int)])) λv5=>
  bif (v5 !=0)then
   some (v5,v4.2)
  else
   KV N v4 v2 v1.aO 0
def zW(v2:aG)(l:apH an):apH an:= .cells (fx v2 [(.mp 1)])::l
theorem aks{N v1 v2 v3}:KP 39 [(.ptr 0 0),(pK v1)] [.cells (fx v2 [(.mp 1)]), .map (eR v3)] (λr=>aq r.1) (λr=>[.cells (fx v2 [(.mp 1)]), .map (eR r.2)]) (IJ N v1 v2 v3):=
 fh 2 Tryz.func39 (au λv4 h1=>gA [[],[(10,oR [(.ptr 0 0),(aL v1.ao),(aq (2:Int))] (zW v2 [.map (eR v3), .cells (pK v1).cells]) [0,1] (OZ _ h1))],[]] (aC (λh2=>gH [[t0 h2],[]]) λh2=>au λv5 h3=>gA [[f0 h2],[(13,oL v1.aO gj),(19,cK ZV h3)],[]] (aC (λh4=>gH [[t0 h4],[]]) λh4=>gA [[f0 h4],[(7,oL v1.aO gj)]] (gT pv 28 v1.aO λh6=>fu 1 [] [0,28,29,30] 3 (λv6=>⟨41,[(0,(.ptr 0 0)),(28,(.d (.sl (dE v1.aO)))),(29,(aq (v1.aO.length:Int))),(30,(aq (v6:Int)))],(zW v2 [.map (eR v4.2), .cells (pK v1).cells])⟩) (λv6 h7 f1=>gH [[],[f0 (bK h7)],[]]) (λv6 v8 v9 h7 f1 aR=>au λv10 h8=>gA [[],[t0 (bI h7)],[(1,oE (oJ (bt h7)))],[(7,oQ [(.ptr 0 0),(cP v8)] (zW v2 [.map (eR v4.2), .cells (pK v1).cells, .cells (cP v8).cells]) [0,1] (QE _ h8))],[]] (aC (λh9=>gH [[t0 h9],[]]) λh9=>gb aR () [[f0 h9],[(2,oq (b5 h7 rfl h6))]] h7))))))
def Nf(N:Nat)(v1:Int):apJ Unit:=bif decide ((0:Int)<=v1)&&Nat.ble (v1.toNat*48) 140737488355328 then some ()else none
theorem agV{N v1 r}(J:Nf N v1=some r):cx Tryz.prog 153 [.d (.v (.slice none 0 0)),(aq v1)] [] λr1 h1=>r1= .own 0 []/\h1=[.front 72 3 0]:=by
 obtain⟨hb,_⟩:=eu J;rw[aoU]at hb;have e:Int.ofNat v1.toNat=v1:=Int.toNat_of_nonneg (of_decide_eq_true hb.1);have h:=ahT hb.2;rw[e]at h;exact h
def yp(N:Nat):apH (apH bV)->Nat->(apH bV)->apJ ((apH bV))
 |[],_,v12=>
  some v12
 |v10::v11,v8,v12=>
  bif (Nat.ble ((v12.length+v10.length)*48) 140737488355328)then
  (λiP=>yp N v11 (v8+1) iP) (v12++v10)
  else none
def uO(N:Nat)(v1:apH (apH bV)):apH (apH bV)->Nat->Int->apJ ((apH bV))
 |[],_,v6=>
  (Nf N v6).bind λv7=>
  yp N v1 0 []
 |v4::v5,v2,v6=>
  bif (decide ((bh (v6+(v4.length:Int)))<0))then
   none
  else
   (λbm=>uO N v1 v5 (v2+1) bm) (bh (v6+(v4.length:Int)))
def AW(N:Nat)(v1:apH (apH bV)):apJ ((apH bV)):=
 uO N v1 v1 0 (0:Int)
theorem TW{N v1 r}(J:AW N v1=some r):KF 104 [(.d (.sl (oU v1)))] (.d (.sl (dL r))):=by
 rw[AW]at J;refine Qi Tryz.func104 ?_;refine wM dO [[],[],[(4,oL v1 OG)]] ?_;refine BZ abW 0 v1 λh2=> ?_;refine IP dO 1 [] [0,3,9,10,11] 0 v1 (λv2(v6:Int)=>⟨36,[(0,(.d (.sl (oU v1)))),(3,(aq v6)),(9,(.d (.sl (oU v1)))),(10,(aq (v1.length:Int))),(11,(aq (v2:Int)))],[]⟩) (uO N v1) (0:Int) J ?_ ?_
 ·intro v2 v6 h3 J f1;rw[uO]at J;obtain⟨v7,h4,J⟩:=dv J;refine wM dO [[],[(0,bF (bK h3))],[(4,⟨_,_, .jr (agV h4)⟩)],[(4,oL v1 OG)]] ?_;refine BZ abW 0 v1 λh6=> ?_;refine IP dO 2 [] [6,25,26,27] 1 v1 (λv8(v12:apH bV)=>⟨36,[(6,(.own 0 (dL v12))),(25,(.d (.sl (oU v1)))),(26,(aq (v1.length:Int))),(27,(aq (v8:Int)))],[.front 72 3 v12.length]⟩) (yp N) [] J ?_ ?_
  ·intro v8 v12 h7 J f2;rw[yp]at J;cases J;exact wr dO [[],[(0,bF (bK h7))],[]]
  intro v8 v10 v11 v12 h7 J f2 cM;rw[yp]at J;obtain⟨h8,J⟩:=qW J;exact wb dO cM (v12++v10) [[],[(0,bT (bI h7))],[(1,oE (aaV (bt h7)))],[(7,oA mO v12 v10 h8)],[(2,oq (b5 h7 rfl h6))]] h7 J
 intro v2 v4 v5 v6 h3 J f1 aR;rw[uO]at J;refine wM dO [[],[(0,bT (bI h3))],[(1,oE (aaV (bt h3)))],[(7,oL v4 eG)],[]] ?_;apply bc J<;>intro h9 J
 ·cases J
 exact wb dO aR (bh (v6+(v4.length:Int))) [[(0,bF h9)],[(2,oq (b5 h3 rfl h2))]] h3 J
def Kz(N:Nat)(v3:apH (apI×Int))(v2:aG):apH bV->Nat->(apH (apI×Bool))->apJ Int
 |[],_,_=>
  some (0:Int)
 |v7::v8,v5,v9=>
  (pj N v7.ao).bind λv10=>
  bif v10 then
   Option.bind (bif (eQ v9 v7.ao false)then some true else some ((eQ v3 v7.ao 0)==1)) λv11=>
   bif v11 then
    some (8:Int)
   else
    bif (Nat.blt v9.length 9223372036854775807)then
    (zK N v7.cg v2 v3).bind λv12=>
    bif (v12 !=0)then
     some v12
    else
     (λbm=>Kz N v3 v2 v8 (v5+1) bm) ((v7.ao,true)::v9)
    else none
  else
   some (7:Int)
def JJ(N:Nat)(v1:aX)(v2:aG)(v3:apH (apI×Int)):apJ Int:=
 Option.bind (AW N ([v1.aO,v1.aU])) λv4=>
 Kz N v3 v2 v4 0 []
def uq(v2:aG)(v3:apH (apI×Int))(v1:aX)(l:apH an):apH an:= .cells (fx v2 [(.mp 1)]):: .map (eR v3):: .cells (fm v1).cells::l
theorem anj{N v1 v2 v3}:KP 94 [(.ptr 0 0),(fm v1)] [.cells (fx v2 [(.mp 1)]), .map (eR v3)] aq (λ_=>[.cells (fx v2 [(.mp 1)]), .map (eR v3)]) (JJ N v1 v2 v3):=
 fh 2 Tryz.func94 (au λv4 h1=>gA [[],[],[(16,cL (TW h1)),(19,oL v4 eG)]] (gT mO 15 v4 λh3=>gn 1 [] [0,5,15,16,17] 4 (λv5(v9:apH (apI×Bool))=>⟨52,[(0,(.ptr 0 0)),(5,(.mp 3)),(15,(.d (.sl (dL v4)))),(16,(aq (v4.length:Int))),(17,(aq (v5:Int)))],(uq v2 v3 v1 [.map (AF v9)])⟩) (λv5 v9 h4 f1=>gH [[],[f0 (bK h4)],[]]) (λv5 v7 v8 v9 h4 f1 aR=>au λv10 h5=>gA [[],[t0 (bI h4)],[(1,oE (lR (bt h4)))],[(7,cK tO h5)]] (aC (λh6=>gA [[f0 (dw h6)]] (gG (λv11=>[(26,(aZ v11))]) (λ_=>(uq v2 v3 v1 [.map (AF v9), .cells (zi v7).cells])) (c8 (11,⟨_,_, .eq (ali false v9 v7.ao)⟩) (aC (λh7=>gE [(4,bT h7)] []) λh7=>gE [(4,bF h7)] [(35,⟨_,_, .eq (F3 false v3 v7.ao)⟩)])) λv11=>aC (λh9=>gH [[t0 h9],[]]) λh9=>bl λbM=>au λv12 bY=>gA [[f0 h9],[(10,⟨_,_, .sd (o:= .none) (aiW bM)⟩)],[(10,oQ [(.ptr 0 0),(cP v7.cg)] (uq v2 v3 v1 [.map (AF ((v7.ao,true)::v9)), .cells (zi v7).cells]) [0,1] (QE _ bY))],[]] (aC (λbU=>gH [[t0 bU],[]]) λbU=>gb aR ((v7.ao,true)::v9) [[f0 bU],[(2,oq (b5 h4 rfl h3))]] h4))) λh6=>gH [[t0 (eC h6)],[]]))))
def ze(N:Nat)(v1:aX)(v2:Bool):apJ Int:=
 bif v2 then
  bif ((v1.aU.length:Int)==0)then
   some (11:Int)
  else
   some (0:Int)
 else
  bif (v1.cr==5)then
   Option.bind (bif (decide ((v1.aU.length:Int)>0))then some true else some ((v1.aO.length:Int)==0)) λv3=>
   bif v3 then
    some (11:Int)
   else
    some (0:Int)
  else
   some (1:Int)
def Iq(N:Nat)(v1:aX):apJ Int:=
 bif (v1.cr==0)then
  bif (decide ((v1.aU.length:Int)>0))then
   some (11:Int)
  else
   some (0:Int)
 else
  bif (v1.cr==1)then
   ze N v1 (v1.cr==1)
  else
   bif (v1.cr==2)then
    ze N v1 (v1.cr==2)
   else
    bif (v1.cr==3)then
     ze N v1 (v1.cr==3)
    else
     ze N v1 (v1.cr==4)
theorem alU{N v1}:KO 95 [(fm v1)] aq (Iq N v1):=
 fw Tryz.func95 (gA [[],[],[]] (aC (λh1=>gA [[t0 h1],[(7,oL v1.aU eG)]] (cF λh2=>gR [[f0 h2],[]])) λh1=>gv 1 [[f0 h1],[]] [1,4,11] 1 (λ(v2:Bool)=>⟨32,[(1,(.ptr 0 0)),(4,(aq v1.cr)),(11,(aZ v2))],[.cells (fm v1).cells]⟩) (ze N v1) (λf1 aR=>aC (λh9=>gm aR (v1.cr==1) [[t0 h9]]) λh9=>gA [[f0 h9],[]] (aC (λbM=>gm aR (v1.cr==2) [[t0 bM]]) λbM=>gA [[f0 bM],[]] (aC (λbY=>gm aR (v1.cr==3) [[t0 bY]]) λbY=>gm aR (v1.cr==4) [[f0 bY],[]]))) (λv2=>aC (λh3=>gA [[t0 h3],[(7,oL v1.aU eG)]] (cF λh4=>gR [[f0 h4],[]])) λh3=>gA [[f0 h3],[]] (rH λh5=>gA [[t0 h5]] (gG (λv3=>[(31,(aZ v3))]) (λ_=>[.cells (fm v1).cells]) (c8 (7,oL v1.aU eG) (aC (λh6=>gE [(4,bT h6)] []) λh6=>gE [(4,bF h6)] [(22,oL v1.aO eG)])) λv3=>cF λh8=>gR [[f0 h8],[]])))))
def DU(N:Nat):apH bV->Nat->(apH apI)->apJ ((apH apI))
 |[],_,v7=>
  some v7
 |v5::v6,v3,v7=>
  bif (Nat.ble ((v7.length+1)*16) 140737488355328)then
  (λbm=>DU N v6 (v3+1) bm) (v7++[v5.ao])
  else none
def CV(N:Nat)(v1:aX):apJ ((apH apI)):=
 Option.bind (AW N ([v1.aO,v1.aU])) λv2=>
 DU N v2 0 []
theorem Um{N v1}:KO 55 [(fm v1)] (λr=> .d (.sl (cw r))) (CV N v1):=
 fw Tryz.func55 (au λv2 h1=>gA [[],[],[(16,cL (TW h1)),(19,oL v2 eG)]] (li (λ_=>(l0 3 9 1 [] (.inr (by kernel_rfl)) ·)) (gT mO 11 v2 λh3=>gn 1 [] [3,11,12,13] 2 (λv3(v7:apH apI)=>⟨24,[(3,(.own 1 (cw v7))),(11,(.d (.sl (dL v2)))),(12,(aq (v2.length:Int))),(13,(aq (v3:Int)))],[.cells (fm v1).cells, .front 9 1 v7.length]⟩) (λv3 v7 h4 f1=>gR [[],[f0 (bK h4)],[]]) (λv3 v5 v6 v7 h4 f1 aR=>bl λh5=>gb aR (v7++[v5.ao]) [[],[t0 (bI h4)],[(1,oE (lR (bt h4)))],[(13,oA gi v7 ([v5.ao]) h5)],[(2,oq (b5 h4 rfl h3))]] h4))))
def HN(N:Nat)(VY:ar->Int->apJ Int)(v2:Int):apH ar->Nat->Int->apJ Int
 |[],_,v7=>
  some v7
 |v5::v6,v3,v7=>
  Option.bind (VY v5 (bh (v2-(1:Int)))) λv8=>
  (λbm=>HN N VY v2 v6 (v3+1) bm) (if(bh ((1:Int)+v8))>v7 then(bh ((1:Int)+v8))else v7)
def qV(N:Nat):Nat->ar->Int->apJ Int
 |0,_,_=>none
 |d+1,v1,v2=>
  bif (decide (v2<=1))then
   some v2
  else
   HN N (qV N d) v2 v1.bk 0 (1:Int)
def O6(N:Nat)(v1:ar)(v2:Int):apJ Int:=qV N N v1 v2
theorem amc(N:Nat):∀d:Nat,(∀{v1:ar}{v2:Int},KO 196 [(aW v1),(aq v2)] aq (qV N d v1 v2)):=by
 intro d
 induction d with
 |zero=>intro v1 v2 r J;rw[qV]at J;cases J
 |succ d ih=>
  have amX:= @ih;intro v1 v2;rw[qV];exact fw Tryz.func196 (gA [[],[]] (cF λh1=>gA [[(0,bF h1)],[],[(7,oL v1.bk j0)]] (gT pD 12 v1.bk λh3=>gn 1 [] [1,5,12,13,14] 1 (λv3(v7:Int)=>⟨27,[(1,(aq v2)),(5,(aq v7)),(12,(.d (.sl (dU v1.bk)))),(13,(aq (v1.bk.length:Int))),(14,(aq (v3:Int)))],[.cells (aW v1).cells]⟩) (λv3 v7 h4 f1=>gR [[],[(0,bF (bK h4))],[]]) (λv3 v5 v6 v7 h4 f1 aR=>au λv8 h5=>gb aR (if(bh ((1:Int)+v8))>v7 then(bh ((1:Int)+v8))else v7) [[],[(0,bT (bI h4))],[(1,oE (ma (bt h4)))],[(13,cK amX h5)],[(2,oq (b5 h4 rfl h3))]] h4))))
theorem alV{N v1 v2}:KO 196 [(aW v1),(aq v2)] aq (O6 N v1 v2):=(amc N N)
def SI(N:Nat)(v1:ar):apJ Int:=
 Option.bind (O6 N v1 (41:Int)) λv2=>
 some v2
theorem aew{N v1}:KO 166 [(aW v1)] aq (SI N v1):=
 fw Tryz.func166 (au λv2 h1=>gR [[],[(4,cK alV h1)]])
def I7(N:Nat)(v1:ar):apJ ar:=some v1
theorem YY{N v1 r}(J:I7 N v1=some r):ic Tryz.prog 168 [(aW v1)] (·=(.fn 197 [(.bz [eI r] 0 0)])):=by
 cases J;exact afV v1
def vy(N:Nat):apH ar->Int->apJ Int
 |[],v3=>
  some v3
 |_::v5,v3=>
  bif (decide ((bh (v3+(1:Int)))>2000))then
   some (bh (v3+(1:Int)))
  else
   (λbm=>vy N v5 bm) (bh (v3+(1:Int)))
def EJ(N:Nat)(v1:ar):apJ Int:=
 (I7 N v1).bind λv2=>
 vy N (cy v2) (0:Int)
def qP(v1:ar)(v3:Int)(l:apH an):apH an:= .cells (aW v1).cells:: .cells [(aq (bh (v3+(1:Int))))]::l
def Fl(v1:ar)(v3:Int)(l:apH an):apH an:= .cells (aW v1).cells:: .cells [(aq v3)]::l
def NF(v1:ar)(l:apH an):apH an:= .cells (aW v1).cells:: .cells [(aq (0:Int))]::l
theorem ans{N v1 r}(J:EJ N v1=some r):KF 167 [(aW v1)] (aq r):=by
 rw[EJ]at J;refine ER Tryz.func167 rfl (by kernel_rfl) ?_;refine mc [0] 0 (ao3 _) (s':=⟨12,[(0,(aW v1))],[]⟩) (by kernel_rfl) ?_;refine bP ?_;refine rg [] [(1,(.ptr 0 0))] [.cells (aW v1).cells] (by kernel_rfl) ?_;refine bP ?_;refine rg [] [(3,(.ptr 1 0))] (NF v1 []) (by kernel_rfl) ?_;refine bP ?_;refine bP ?_;obtain⟨v2,h1,J⟩:=dv J;refine rg [(4,cL (YY h1))] [(5,(.fn 197 [(.bz [eI v2] 0 0)]))] (NF v1 []) (by kernel_rfl) ?_;refine kf ?_;refine mc [3,5] 2 (ao0 rfl) (s':=⟨12,[(3,(.ptr 1 0)),(5,(.fn 197 [(.bz [eI v2] 0 0)]))],(NF v1 [])⟩) (by kernel_rfl) ?_;refine Qb (m:=2) (enc:=aW) (xs:=(cy v2)) (by kernel_rfl) (Zf v2) (λ(v3:Int)=>(Fl v1 v3 [])) (λ(v3:Int) l=>vy N l v3=some r) (0:Int) (by kernel_rfl) J (by rintro v3;rfl) (by rintro v3;kernel_rfl) (by kernel_rfl) rfl ?_ ?_
 ·rintro v3 v4 v5 J h2 kh ko
  try dsimp only at J
  rw[vy]at J;refine mc [3] 3 (ao3 _) (s':=⟨12,[(3,(.ptr 1 0))],(Fl v1 v3 [.lp .ready 6 kh ko (er 12 [(3,(.ptr 1 0)),(5,(.fn 197 [(.bz [eI v2] 0 0)]))])])⟩) (by kernel_rfl) ?_;refine jG ?_;refine dJ ?_;refine⟨(Fl v1 v3 []),[],rfl,(by kernel_rfl),?_⟩;refine mc [3] 3 (ao0 rfl) (s':=⟨12,[(3,(.ptr 1 0))],(Fl v1 v3 [.lp .busy 6 kh ko (er 12 [(3,(.ptr 1 0)),(5,(.fn 197 [(.bz [eI v2] 0 0)]))])])⟩) (by kernel_rfl) ?_;refine kf ?_;refine bP ?_;refine rg [] [] (qP v1 v3 [.lp .busy 6 kh ko (er 12 [(3,(.ptr 1 0)),(5,(.fn 197 [(.bz [eI v2] 0 0)]))])]) (by kernel_rfl) ?_;refine bP ?_;refine rg [] [(10,(aZ (decide ((bh (v3+(1:Int)))>2000))))] (qP v1 v3 [.lp .busy 6 kh ko (er 12 [(3,(.ptr 1 0)),(5,(.fn 197 [(.bz [eI v2] 0 0)]))])]) (by kernel_rfl) ?_;rcases jK (decide ((bh (v3+(1:Int)))>2000))with h3|h3
  ·replace J:=(fJ h3).symm.trans J;refine jA (t:=(decide ((bh (v3+(1:Int)))>2000))) (by kernel_rfl) h3 ?_;refine uC (aip rfl ?_);refine ah1 (qP v1 v3 []) rfl (by kernel_rfl) (by kernel_rfl) ?_;refine(Cf rfl ?_);refine dJ ?_;refine bP ?_;refine rg [] [(2,(aq (bh (v3+(1:Int)))))] (qP v1 v3 [.gone]) (by kernel_rfl) ?_;refine gM ?_;have hr:=apb J;subst hr;exact mj (by kernel_rfl)
  replace J:=(jI h3).symm.trans J;refine jg (t:=(decide ((bh (v3+(1:Int)))>2000))) (by kernel_rfl) h3 ?_;refine jG ?_;refine jz ?_;refine P4 (qP v1 v3 []) rfl (by kernel_rfl) (by kernel_rfl) ?_;exact⟨(bh (v3+(1:Int))),(by kernel_rfl),J⟩
 rintro v3 J
 try dsimp only at J
 rw[vy]at J;refine jz ?_;refine dJ ?_;refine bP ?_;refine rg [] [(2,(aq v3))] (Fl v1 v3 [.gone]) (by kernel_rfl) ?_;refine gM ?_;have hr:=apb J;subst hr;exact mj (by kernel_rfl)
def Eh(N:Nat)(v1:aN):apJ Bool:=
 Option.bind (bif (v1.xK.toInt==0)then some ((v1.xL.length:Int)==0)else some false) λv2=>
 some v2
theorem Vj{N v1}:KO 230 [(cP v1)] aZ (Eh N v1):=
 fw Tryz.func230 (gA [[]] (gG (λv2=>[(2,(aZ v2))]) (λ_=>[.cells (cP v1).cells]) (aC (λh1=>gE [(3,bT h1)] [(19,oL v1.xL fG)]) λh1=>gE [(3,bF h1)] []) λv2=>gR []))
def Hj(N:Nat)(v1:bu):apJ Bool:=
 bif (bL v1.bH==bL (bs []))then
  some ((v1.bG.length:Int)==0)
 else
  (Eh N v1.aQ).bind λv2=>
  some v2
theorem ajN{N v1}:KO 233 [(gN v1)] aZ (Hj N v1):=
 fw Tryz.func233 (gA [[],[]] (aC (λh1=>gR [[t0 h1],[(7,oL v1.bG gj)]]) λh1=>au λv2 h2=>gR [[f0 h1],[(7,cK Vj h2)]]))
def Pj(N:Nat)(v1:bu):apJ Bool:=
 (Hj N v1).bind λv2=>
 some (!v2)
theorem adb{N v1}:KO 232 [(gN v1)] aZ (Pj N v1):=
 fw Tryz.func232 (au λv2 h1=>gR [[],[(4,cK ajN h1)]])
def Ix(N:Nat):apH bu->Nat->apJ Int
 |[],_=>
  some (-1:Int)
 |v4::v5,v2=>
  (Pj N v4).bind λv6=>
  bif v6 then
   some (v2:Int)
  else
   (Ix N v5 (v2+1))
def Rk(N:Nat)(v1:apH bu):apJ Int:=
 Ix N v1 0
theorem ahJ{N v1}:KP 255 [(.d (.sl (cQ v1))),(.fn 232 [])] [] aq (λ_=>[]) (Rk N v1):=
 fh 0 Tryz.func255 (gA [[],[(4,oL v1 jD)]] (gT rW 0 v1 λh2=>fu 1 [] [0,1,7,8] 0 (λv2=>⟨19,[(0,(.d (.sl (cQ v1)))),(1,(.fn 232 [])),(7,(aq (v1.length:Int))),(8,(aq (v2:Int)))],[]⟩) (λv2 h3 f1=>gH [[],[f0 (bK h3)],[]]) (λv2 v4 v5 h3 f1 aR=>au λv6 h4=>gA [[],[t0 (bI h3)],[],[(10,oE (kO (bt h3))),(16,cK adb h4)]] (aC (λh5=>gH [[t0 h5],[]]) λh5=>gb aR () [[f0 h5],[(2,oq (b5 h3 rfl h2))]] h3))))
def I6(N:Nat)(v1:apH bu):apJ Bool:=
 (Rk N v1).bind λv2=>
 some (decide (v2>=0))
theorem ahK{N v1}:KP 231 [(.d (.sl (cQ v1))),(.fn 232 [])] [] aZ (λ_=>[]) (I6 N v1):=
 fh 0 Tryz.func231 (au λv2 h1=>gH [[],[(7,oQ [(.d (.sl (cQ v1))),(.fn 232 [])] [] [] (ahJ _ h1))]])
def K6(N:Nat)(v1:ar):apJ Bool:=
 Option.bind (bif (v1.aJ==1)then some true else some (v1.aJ==12)) λv2=>
 Option.bind (bif (decide (v1.aJ<1))then some true else some (decide (v1.aJ>18))) λv3=>
 bif v3 then
  some false
 else
  Option.bind (bif (v1.aJ==1)then some false else some (!((v1.dK.xN.toInt==(0:Int64).toInt)&&((v1.dK.xD.toInt==(0:Int64).toInt)&&true)))) λv4=>
  bif v4 then
   some false
  else
   Option.bind (bif v2 then some false else some (!((v1.aM.bS==0)&&((v1.aM.cb==0)&&((v1.aM.ca==0)&&((v1.aM.cJ==0)&&((v1.aM.cH==0)&&true))))))) λv5=>
   bif v5 then
    some false
   else
    Option.bind (bif (v1.aJ==2)then some false else (Eh N v1.aQ).bind λv6=>
    some (!v6)) λv7=>
    bif v7 then
     some false
    else
     Option.bind (bif (v1.aJ==3)then some false else(bif (bL v1.ao==bL (bs []))then some (decide ((v1.xIdx.length:Int)>0))else some true)) λv8=>
     bif v8 then
      some false
     else
      (I6 N v1.xIdx).bind λv9=>
      some (!v9)
def xh(v1:ar)(l:apH an):apH an:= .cells (aW v1).cells::l
theorem agW{N v1}:KO 199 [(aW v1)] aZ (K6 N v1):=
 fw Tryz.func199 (gA [[]] (gG (λv2=>[(3,(aZ (v1.aJ==1))),(4,(aZ v2))]) (λ_=>(xh v1 [])) (aC (λh1=>gE [(6,bT h1)] []) λh1=>gE [(6,bF h1)] []) λv2=>gA [[]] (gG (λv3=>[(24,(aZ v3))]) (λ_=>(xh v1 [])) (aC (λh3=>gE [(3,bT h3)] []) λh3=>gE [(3,bF h3)] []) λv3=>cF λh5=>gA [[f0 h5]] (gG (λv4=>[(33,(aZ v4))]) (λ_=>(xh v1 [])) (aC (λh6=>gE [(2,bF (dw h6))] []) λh6=>gE [(2,bT (eC h6))] []) λv4=>cF λh8=>gA [[f0 h8]] (gG (λv5=>[(42,(aZ v5))]) (λ_=>(xh v1 [])) (aC (λh9=>gE [(2,bF (dw h9))] []) λh9=>gE [(2,bT (eC h9))] []) λv5=>cF λbY=>gA [[f0 bY]] (gG (λv7=>[(51,(aZ v7))]) (λ_=>(xh v1 [])) (aC (λbU=>gE [(2,bF (dw bU))] []) λbU=>au λv6 dp=>gE [(2,bT (eC bU))] [(16,cK Vj dp)]) λv7=>cF λcN=>gA [[f0 cN]] (gG (λv8=>[(60,(aZ v8))]) (λ_=>(xh v1 [])) (aC (λb9=>gE [(2,bF (dw b9)),(6,uN)] []) λb9=>dn (2,bT (eC b9)) (aC (λdG=>gE [(6,bF (dw dG))] [(28,oL v1.xIdx jD),(34,bF (dw dG))]) λdG=>gE [(6,bT (eC dG))] [(34,bT (eC dG))])) λv8=>cF λfE=>au λv9 dx=>gR [[f0 fE],[(7,oQ [(.d (.sl (cQ v1.xIdx))),(.fn 232 [])] (xh v1 []) [] (ahK _ dx))]])))))))
def G8(N:Nat)(v1:bu):apJ Bool:=
 Option.bind (bif (bL v1.bH==bL (bs []))then some false else (pj N v1.bH).bind λv2=>
 some (!v2)) λv3=>
 some v3
theorem akq{N v1}:KO 234 [(gN v1)] aZ (G8 N v1):=
 fw Tryz.func234 (gA [[]] (gG (λv3=>[(2,(aZ v3))]) (λ_=>[.cells (gN v1).cells]) (aC (λh1=>gE [(3,bF (dw h1))] []) λh1=>au λv2 h2=>gE [(3,bT (eC h1))] [(19,cK tO h2)]) λv3=>gR []))
def KT(N:Nat):apH bu->Nat->apJ Int
 |[],_=>
  some (-1:Int)
 |v4::v5,v2=>
  (G8 N v4).bind λv6=>
  bif v6 then
   some (v2:Int)
  else
   (KT N v5 (v2+1))
def P3(N:Nat)(v1:apH bu):apJ Int:=
 KT N v1 0
theorem anv{N v1}:KP 255 [(.d (.sl (cQ v1))),(.fn 234 [])] [] aq (λ_=>[]) (P3 N v1):=
 fh 0 Tryz.func255 (gA [[],[(4,oL v1 jD)]] (gT rW 0 v1 λh2=>fu 1 [] [0,1,7,8] 0 (λv2=>⟨19,[(0,(.d (.sl (cQ v1)))),(1,(.fn 234 [])),(7,(aq (v1.length:Int))),(8,(aq (v2:Int)))],[]⟩) (λv2 h3 f1=>gH [[],[f0 (bK h3)],[]]) (λv2 v4 v5 h3 f1 aR=>au λv6 h4=>gA [[],[t0 (bI h3)],[],[(10,oE (kO (bt h3))),(16,cK akq h4)]] (aC (λh5=>gH [[t0 h5],[]]) λh5=>gb aR () [[f0 h5],[(2,oq (b5 h3 rfl h2))]] h3))))
def NC(N:Nat)(v1:apH bu):apJ Bool:=
 (P3 N v1).bind λv2=>
 some (decide (v2>=0))
theorem ajt{N v1}:KP 231 [(.d (.sl (cQ v1))),(.fn 234 [])] [] aZ (λ_=>[]) (NC N v1):=
 fh 0 Tryz.func231 (au λv2 h1=>gH [[],[(7,oQ [(.d (.sl (cQ v1))),(.fn 234 [])] [] [] (anv _ h1))]])
def LB(N:Nat)(v1:ar):apJ Bool:=
 Option.bind (bif (v1.aJ==3)then (pj N v1.ao).bind λv2=>
 some (!v2)else some false) λv3=>
 bif v3 then
  some false
 else
  (NC N v1.xIdx).bind λv4=>
  some (!v4)
theorem ahA{N v1}:KO 200 [(aW v1)] aZ (LB N v1):=
 fw Tryz.func200 (gA [[]] (gG (λv3=>[(11,(aZ v3))]) (λ_=>[.cells (aW v1).cells]) (aC (λh1=>au λv2 h2=>gE [(3,bT h1)] [(19,cK tO h2)]) λh1=>gE [(3,bF h1)] []) λv3=>cF λh4=>au λv4 h5=>gR [[f0 h4],[(7,oQ [(.d (.sl (cQ v1.xIdx))),(.fn 234 [])] [.cells (aW v1).cells] [] (ajt _ h5))]]))
def FH(N:Nat)(v1:Int)(v3:Bool):apJ Int:=
 bif v3 then
  some (1:Int)
 else
  bif (v1==11)then
   some (3:Int)
  else
   some (2:Int)
def EF(N:Nat)(v1:Int)(v2:Bool):apJ Int:=
 bif v2 then
  some (0:Int)
 else
  bif (v1==8)then
   FH N v1 (v1==8)
  else
   bif (v1==12)then
    FH N v1 (v1==12)
   else
    FH N v1 (v1==18)
def G4(N:Nat)(v1:Int):apJ Int:=
 bif (v1==1)then
  EF N v1 (v1==1)
 else
  bif (v1==2)then
   EF N v1 (v1==2)
  else
   EF N v1 (v1==3)
theorem amj{N v1}:KO 235 [(aq v1)] aq (G4 N v1):=
 fw Tryz.func235 (gv 1 [[],[],[]] [3,4] 0 (λ(v2:Bool)=>⟨14,[(3,(aq v1)),(4,(aZ v2))],[]⟩) (EF N v1) (λf1 aR=>aC (λh6=>gm aR (v1==1) [[t0 h6]]) λh6=>gA [[f0 h6],[]] (aC (λh7=>gm aR (v1==2) [[t0 h7]]) λh7=>gm aR (v1==3) [[f0 h7],[]])) (λv2=>cF λh1=>gv 2 [[f0 h1],[]] [3,8] 0 (λ(v3:Bool)=>⟨14,[(3,(aq v1)),(8,(aZ v3))],[]⟩) (FH N v1) (λf2 cM=>aC (λh4=>gm cM (v1==8) [[t0 h4]]) λh4=>gA [[f0 h4],[]] (aC (λh5=>gm cM (v1==12) [[t0 h5]]) λh5=>gm cM (v1==18) [[f0 h5],[]])) (λv3=>gJ λ_=>cF λh3=>gR [[f0 h3],[]])))
def Nd(N:Nat)(v1:bu):apJ Bool:=
 some (decide ((v1.bG.length:Int)>6))
theorem agz{N v1}:KO 236 [(gN v1)] aZ (Nd N v1):=
 fw Tryz.func236 (gR [[],[(7,oL v1.bG gj)]])
def Ib(N:Nat):apH bu->Nat->apJ Int
 |[],_=>
  some (-1:Int)
 |v4::v5,v2=>
  (Nd N v4).bind λv6=>
  bif v6 then
   some (v2:Int)
  else
   (Ib N v5 (v2+1))
def O4(N:Nat)(v1:apH bu):apJ Int:=
 Ib N v1 0
theorem agy{N v1}:KP 255 [(.d (.sl (cQ v1))),(.fn 236 [])] [] aq (λ_=>[]) (O4 N v1):=
 fh 0 Tryz.func255 (gA [[],[(4,oL v1 jD)]] (gT rW 0 v1 λh2=>fu 1 [] [0,1,7,8] 0 (λv2=>⟨19,[(0,(.d (.sl (cQ v1)))),(1,(.fn 236 [])),(7,(aq (v1.length:Int))),(8,(aq (v2:Int)))],[]⟩) (λv2 h3 f1=>gH [[],[f0 (bK h3)],[]]) (λv2 v4 v5 h3 f1 aR=>au λv6 h4=>gA [[],[t0 (bI h3)],[],[(10,oE (kO (bt h3))),(16,cK agz h4)]] (aC (λh5=>gH [[t0 h5],[]]) λh5=>gb aR () [[f0 h5],[(2,oq (b5 h3 rfl h2))]] h3))))
def NG(N:Nat)(v1:apH bu):apJ Bool:=
 (O4 N v1).bind λv2=>
 some (decide (v2>=0))
theorem akz{N v1}:KP 231 [(.d (.sl (cQ v1))),(.fn 236 [])] [] aZ (λ_=>[]) (NG N v1):=
 fh 0 Tryz.func231 (au λv2 h1=>gH [[],[(7,oQ [(.d (.sl (cQ v1))),(.fn 236 [])] [] [] (agy _ h1))]])
def Jj(N:Nat)(v1:ar):apJ Bool:=
 (G4 N v1.aJ).bind λv2=>
 Option.bind (bif ((v1.bk.length:Int) !=v2)then some true else some (decide ((v1.xIdx.length:Int)>6))) λv3=>
 bif v3 then
  some false
 else
  (NG N v1.xIdx).bind λv4=>
  some (!v4)
theorem aku{N v1}:KO 201 [(aW v1)] aZ (Jj N v1):=
 fw Tryz.func201 (gA [[]] (au λv2 h1=>gG (λv3=>[(15,(aZ v3))]) (λ_=>[.cells (aW v1).cells]) (c8 (7,oL v1.bk j0) (c8 (16,cK amj h1) (aC (λh2=>gE [(7,bT h2)] []) λh2=>gE [(7,bF h2)] [(31,oL v1.xIdx jD)]))) λv3=>cF λh4=>au λv4 h5=>gR [[f0 h4],[(7,oQ [(.d (.sl (cQ v1.xIdx))),(.fn 236 [])] [.cells (aW v1).cells] [] (akz _ h5))]]))
def CA(N:Nat)(v1:ar):apJ Bool:=
 Option.bind (bif (decide ((13:Int)<=v1.aJ))then some (decide (v1.aJ<=18))else some false) λv2=>
 some v2
theorem Wn{N v1}:KO 141 [(aW v1)] aZ (CA N v1):=
 fw Tryz.func141 (gA [[]] (gG (λv2=>[(2,(aZ v2))]) (λ_=>[.cells (aW v1).cells]) (aC (λh1=>gE [(3,bT h1)] []) λh1=>gE [(3,bF h1)] []) λv2=>gR []))
def Ek(N:Nat)(v1:Int)(v2:Int)(v3:Bool):apJ Bool:=
 bif v3 then
  some true
 else
  Option.bind (bif (v1==11)then some (v2==0)else some false) λv4=>
  some v4
def KW(N:Nat)(v1:Int)(v2:Int):apJ Bool:=
 bif (v1==16)then
  Ek N v1 v2 (v1==16)
 else
  bif (v1==17)then
   Ek N v1 v2 (v1==17)
  else
   Ek N v1 v2 (v1==18)
theorem ajI{N v1 v2}:KO 237 [(aq v1),(aq v2)] aZ (KW N v1 v2):=
 fw Tryz.func237 (gv 1 [[],[],[]] [0,1,6] 0 (λ(v3:Bool)=>⟨16,[(0,(aq v1)),(1,(aq v2)),(6,(aZ v3))],[]⟩) (Ek N v1 v2) (λf1 aR=>aC (λh4=>gm aR (v1==16) [[t0 h4]]) λh4=>gA [[f0 h4],[]] (aC (λh5=>gm aR (v1==17) [[t0 h5]]) λh5=>gm aR (v1==18) [[f0 h5],[]])) (λv3=>cF λh1=>gA [[f0 h1]] (gG (λv4=>[(4,(aZ v4))]) (λ_=>[]) (aC (λh2=>gE [(2,bT h2)] []) λh2=>gE [(2,bF h2)] []) λv4=>gR [])))
def IX(N:Nat)(v1:ar):apH ar->Nat->apJ Bool
 |[],_=>
  some true
 |v7::v8,v5=>
  (CA N v7).bind λv9=>
  Option.bind (KW N v1.aJ (v5:Int)) λv10=>
  bif (v9==v10)then
   (IX N v1 v8 (v5+1))
  else
   some false
def Mg(N:Nat)(v1:ar):apJ Bool:=
 Option.bind (bif (v1.aJ==1)then (qv N v1.aM).bind λv2=>
 some (v2 !=0)else(bif (v1.aJ==12)then (qv N v1.aM).bind λv3=>
 some (v3 !=0)else some false)) λv4=>
 bif v4 then
  some false
 else
  IX N v1 v1.bk 0
theorem afq{N v1}:KO 202 [(aW v1)] aZ (Mg N v1):=
 fw Tryz.func202 (gA [[]] (gG (λv4=>[(18,(aZ v4))]) (λ_=>[.cells (aW v1).cells]) (aC (λh1=>au λv2 h2=>gE [(3,bT h1),(8,bT rfl)] [(34,cK ya h2)]) λh1=>dn (3,bF h1) (aC (λh3=>au λv3 h4=>gE [(8,bT h3)] [(34,cK ya h4)]) λh3=>gE [(8,bF h3)] [])) λv4=>cF λh6=>gA [[f0 h6],[(7,oL v1.bk j0)]] (gT pD 20 v1.bk λh8=>fu 1 [] [1,20,21,22] 1 (λv5=>⟨35,[(1,(.ptr 0 0)),(20,(.d (.sl (dU v1.bk)))),(21,(aq (v1.bk.length:Int))),(22,(aq (v5:Int)))],[.cells (aW v1).cells]⟩) (λv5 h9 f1=>gR [[],[f0 (bK h9)],[]]) (λv5 v7 v8 h9 f1 aR=>au λv9 bM=>au λv10 bY=>gA [[],[t0 (bI h9)],[(4,oE (ma (bt h9)))],[(4,cK Wn bM),(16,cK ajI bY)]] (mm λbU=>gb aR () [[f0 (dw bU)],[(2,oq (b5 h9 rfl h8))]] h9)))))
def GM(N:Nat)(v1:Int):apJ Bool:=
 Option.bind (bif (decide (v1>=2))then some (decide (v1<=31))else some false) λv2=>
 some v2
theorem WT{N v1}:KO 271 [(aq v1)] aZ (GM N v1):=
 fw Tryz.func271 (gA [[]] (gG (λv2=>[(2,(aZ v2))]) (λ_=>[]) (aC (λh1=>gE [(2,bT h1)] []) λh1=>gE [(2,bF h1)] []) λv2=>gR []))
def M9(N:Nat)(v1:Int):apJ Int64:=
 (GM N v1).bind λv2=>
 bif v2 then
  bif (decide ((0:Int)<=(IntKind.u64.wrap (bh (v1-(1:Int))))))then
  some (-(Int64.ofInt ((1:Int)*2^(min ((IntKind.u64.wrap (bh (v1-(1:Int))))).toNat (IntKind.bits .i64)))))
  else none
 else
  some (0:Int64)
theorem ad6{N v1}:KO 256 [(aq v1)] de (M9 N v1):=
 fw Tryz.func256 (au λv2 h1=>gA [[],[(4,cK WT h1)]] (mm λh2=>bl λh3=>gR [[f0 (dw h2)],[(10,⟨_,_, .nn (b:=(IntKind.u64.wrap (bh (v1-(1:Int))))) (of_decide_eq_true h3)⟩),(11,⟨_,_, .eq (vb ((1:Int)*2^(min ((IntKind.u64.wrap (bh (v1-(1:Int))))).toNat (IntKind.bits .i64))))⟩),(14,⟨_,_, .eq (Nx (Int64.ofInt ((1:Int)*2^(min ((IntKind.u64.wrap (bh (v1-(1:Int))))).toNat (IntKind.bits .i64)))))⟩)]]))
def PC(N:Nat)(v1:Int):apJ Int64:=
 (GM N v1).bind λv2=>
 bif v2 then
  bif (decide ((0:Int)<=(IntKind.u64.wrap (bh (v1-(1:Int))))))then
  some ((Int64.ofInt ((1:Int)*2^(min ((IntKind.u64.wrap (bh (v1-(1:Int))))).toNat (IntKind.bits .i64))))-(1:Int64))
  else none
 else
  some (0:Int64)
theorem aiZ{N v1}:KO 257 [(aq v1)] de (PC N v1):=
 fw Tryz.func257 (au λv2 h1=>gA [[],[(4,cK WT h1)]] (mm λh2=>bl λh3=>gR [[f0 (dw h2)],[(10,⟨_,_, .nn (b:=(IntKind.u64.wrap (bh (v1-(1:Int))))) (of_decide_eq_true h3)⟩),(11,⟨_,_, .eq (vb ((1:Int)*2^(min ((IntKind.u64.wrap (bh (v1-(1:Int))))).toNat (IntKind.bits .i64))))⟩),(14,⟨_,_, .eq (amf (Int64.ofInt ((1:Int)*2^(min ((IntKind.u64.wrap (bh (v1-(1:Int))))).toNat (IntKind.bits .i64)))) (1:Int64))⟩)]]))
def vL(N:Nat)(v1:bq)(v2:dy):apJ Bool:=
 (uu N v1).bind λv3=>
 Option.bind (bif (v3==0)then(bif (v2.xD.toInt==1)then (M9 N v1.cb).bind λv4=>
 (bif (decide (v2.xN.toInt>=v4.toInt))then (PC N v1.cb).bind λv5=>
 some (decide (v2.xN.toInt<=v5.toInt))else some false)else some false)else some false) λv6=>
 some v6
theorem acd{N v1 v2}:KO 238 [(fV v1),(mN v2)] aZ (vL N v1 v2):=
 fw Tryz.func238 (gA [[]] (au λv3 h1=>gG (λv6=>[(4,(aZ v6))]) (λ_=>[.cells (fV v1).cells, .cells (mN v2).cells]) (c8 (4,cK MN h1) (aC (λh2=>dn (3,bT h2) (aC (λh3=>au λv4 h4=>dn (8,bT h3) (c8 (40,cK ad6 h4) (aC (λh5=>au λv5 h6=>gE [(16,bT h5)] [(64,cK aiZ h6)]) λh5=>gE [(16,bF h5)] []))) λh3=>gE [(8,bF h3),(16,bF rfl)] [])) λh2=>gE [(3,bF h2),(8,bF rfl),(16,bF rfl)] [])) λv6=>gR []))
def RD(N:Nat)(v1:Int64):apJ Bool:=
 Option.bind (bif (decide (v1.toInt>=(-2147483647:Int)))then some (decide (v1.toInt<=2147483647))else some false) λv2=>
 some v2
theorem amB{N v1}:KO 239 [(de v1)] aZ (RD N v1):=
 fw Tryz.func239 (gA [[]] (gG (λv2=>[(2,(aZ v2))]) (λ_=>[]) (aC (λh1=>gE [(2,bT h1)] []) λh1=>gE [(2,bF h1)] []) λv2=>gR []))
def OF(N:Nat)(v1:Int64):apJ Bool:=
 Option.bind (bif (decide (v1.toInt>=(-2147483647:Int)))then some (decide (v1.toInt<=2147483647))else some false) λv2=>
 some v2
theorem af8{N v1}:KO 258 [(de v1)] aZ (OF N v1):=
 fw Tryz.func258 (gA [[]] (gG (λv2=>[(2,(aZ v2))]) (λ_=>[]) (aC (λh1=>gE [(2,bT h1)] []) λh1=>gE [(2,bF h1)] []) λv2=>gR []))
def BU(N:Nat)(v1:Int64):apJ Int:=
 bif (decide (v1.toInt<0))then
  some (IntKind.u64.wrap (0-(IntKind.u64.wrap v1.toInt)))
 else
  some (IntKind.u64.wrap v1.toInt)
theorem Oh{N v1}:KO 260 [(de v1)] (λr=> .d (.v (.int .u64 r))) (BU N v1):=
 fw Tryz.func260 (gA [[],[]] (cF λh1=>gR [[f0 h1],[]]))
def y5(N:Nat):Nat->Int->Int->apJ Int
 |0,_,_=>none
 |v3+1,v4,v5=>
  bif (v5 !=0)then
   (λbm eY=>y5 N v3 bm eY) v5 ((v4).tmod v5)
  else
   some v4
def GA(N:Nat)(v1:Int)(v2:Int):apJ Int:=
 y5 N N v1 v2
theorem aap{N v1 v2}:KO 259 [(.d (.v (.int .u64 v1))),(.d (.v (.int .u64 v2)))] (λr=> .d (.v (.int .u64 r))) (GA N v1 v2):=
 fw Tryz.func259 (yO 1 [[]] [0,1] 0 (λ(v4:Int)(v5:Int)=>⟨12,[(0,(.d (.v (.int .u64 v4)))),(1,(.d (.v (.int .u64 v5))))],[]⟩) (y5 N) (λv3 v4 v5 f1 aR=>gA [[]] (rH λh1=>qO aR (v5,((v4).tmod v5)) [[t0 h1],[(10,⟨_,_, .nz (b:=v5) (bne_iff_ne.1 h1)⟩)]])))
def x7(N:Nat)(v1:dy):apJ Bool:=
 Option.bind (bif (decide (v1.xD.toInt>=1))then(bif (decide (v1.xD.toInt<=2147483647))then (OF N v1.xN).bind λv2=>
 (bif v2 then (BU N v1.xN).bind λv3=>
 Option.bind (GA N v3 (IntKind.u64.wrap v1.xD.toInt)) λv4=>
 some (v4==1)else some false)else some false)else some false) λv5=>
 some v5
theorem ZR{N v1}:KO 240 [(mN v1)] aZ (x7 N v1):=
 fw Tryz.func240 (gA [[]] (gG (λv5=>[(2,(aZ v5))]) (λ_=>[.cells (mN v1).cells]) (aC (λh1=>dn (3,bT h1) (aC (λh2=>au λv2 h3=>dn (8,bT h2) (c8 (34,cK af8 h3) (aC (λh4=>au λv3 h5=>au λv4 h6=>gE [(13,bT h4)] [(49,cK Oh h5),(61,cK aap h6)]) λh4=>gE [(13,bF h4)] []))) λh2=>gE [(8,bF h2),(13,bF rfl)] [])) λh1=>gE [(3,bF h1),(8,bF rfl),(13,bF rfl)] []) λv5=>gR []))
def vH(N:Nat)(v1:bq)(v2:dy):apJ Bool:=
 (qv N v1).bind λv3=>
 bif (v3 !=0)then
  some false
 else
  bif (v1.bS==2)then
   (vL N v1 v2).bind λv4=>
   some v4
  else
   bif (v1.bS==3)then
    Option.bind (bif (v2.xD.toInt==1)then (RD N v2.xN).bind λv5=>
    some v5 else some false) λv6=>
    some v6
   else
    (x7 N v2).bind λv7=>
    some v7
theorem Y3{N v1 v2}:KO 203 [(fV v1),(mN v2)] aZ (vH N v1 v2):=
 fw Tryz.func203 (au λv3 h1=>gA [[],[(4,cK ya h1)]] (cF λh2=>gA [[f0 h2],[],[]] (aC (λh3=>au λv4 h4=>gR [[t0 h3],[(7,cK acd h4)]]) λh3=>gA [[f0 h3],[]] (aC (λh5=>gA [[t0 h5]] (gG (λv6=>[(4,(aZ v6))]) (λ_=>[.cells (fV v1).cells, .cells (mN v2).cells]) (aC (λh6=>au λv5 h7=>gE [(3,bT h6)] [(19,cK amB h7)]) λh6=>gE [(3,bF h6)] []) λv6=>gR [])) λh5=>au λv7 h9=>gR [[f0 h5],[(4,cK ZR h9)]]))))
def R5(N:Nat)(v1:ar):apJ ar:=some v1
theorem alG{N v1 r}(J:R5 N v1=some r):ic Tryz.prog 204 [(aW v1)] (·=(.fn 241 [(.bz [eI r] 0 0)])):=by
 cases J;exact ahM v1
def wC(N:Nat):apH aN->apJ Int
 |[]=>
  some (0:Int)
 |v9::v10=>
  (rR N v9).bind λv11=>
  bif (v11 !=0)then
   some (1:Int)
  else
   (wC N v10)
def EP(N:Nat)(v1:ar):apJ Int:=
 (K6 N v1).bind λv2=>
 bif v2 then
  (LB N v1).bind λv3=>
  bif v3 then
   (Jj N v1).bind λv4=>
   bif v4 then
    (Mg N v1).bind λv5=>
    bif v5 then
     Option.bind (bif (v1.aJ==1)then (vH N v1.aM v1.dK).bind λv6=>
     some (!v6)else some false) λv7=>
     bif v7 then
      some (1:Int)
     else
      (R5 N v1).bind λv8=>
      wC N (mY v8)
    else
     some (10:Int)
   else
    some (11:Int)
  else
   some (7:Int)
 else
  some (5:Int)
def lX(v1:ar)(l:apH an):apH an:= .cells (aW v1).cells:: .cells [(aq (0:Int))]::l
def yD(v1:ar)(l:apH an):apH an:= .cells (aW v1).cells::l
theorem adV{N v1 r}(J:EP N v1=some r):KF 169 [(aW v1)] (aq r):=by
 rw[EP]at J;refine ER Tryz.func169 rfl (by kernel_rfl) ?_;refine mc [0] 0 (ao3 _) (s':=⟨38,[(0,(aW v1))],[]⟩) (by kernel_rfl) ?_;refine bP ?_;refine rg [] [(1,(.ptr 0 0)),(2,(.ptr 1 0))] (lX v1 []) (by kernel_rfl) ?_;refine bP ?_;refine kf ?_;refine bP ?_;obtain⟨v2,h1,J⟩:=dv J;refine rg [(4,cK agW h1)] [(4,(aZ (!v2)))] (lX v1 []) (by kernel_rfl) ?_;rcases jK v2 with h2|h2
 ·replace J:=(fJ h2).symm.trans J;refine jg (t:=(!v2)) (by kernel_rfl) (dw h2) ?_;refine bP ?_;obtain⟨v3,h3,J⟩:=dv J;refine rg [(4,cK ahA h3)] [(8,(aZ (!v3)))] (lX v1 []) (by kernel_rfl) ?_;rcases jK v3 with h4|h4
  ·replace J:=(fJ h4).symm.trans J;refine jg (t:=(!v3)) (by kernel_rfl) (dw h4) ?_;refine bP ?_;obtain⟨v4,h5,J⟩:=dv J;refine rg [(4,cK aku h5)] [(12,(aZ (!v4)))] (lX v1 []) (by kernel_rfl) ?_;rcases jK v4 with h6|h6
   ·replace J:=(fJ h6).symm.trans J;refine jg (t:=(!v4)) (by kernel_rfl) (dw h6) ?_;refine bP ?_;obtain⟨v5,h7,J⟩:=dv J;refine rg [(4,cK afq h7)] [(16,(aZ (!v5)))] (lX v1 []) (by kernel_rfl) ?_;rcases jK v5 with h8|h8
    ·replace J:=(fJ h8).symm.trans J;refine jg (t:=(!v5)) (by kernel_rfl) (dw h8) ?_;refine bP ?_;obtain⟨v7,bY,J⟩:=dv J;refine rgE [(20,(aZ v7))] (lX v1 []) ?_ ?_
     ·rcases jK (v1.aJ==1)with h9|h9
      ·replace bY:=(fJ h9).symm.trans bY;obtain⟨v6,bM,bY⟩:=dv bY;have he:=apb bY;subst he;exact⟨[(12,bT h9),(15,bT h9),(18,bT h9),(21,bT h9),(24,bT h9),(25,cK Y3 bM),(27,bT h9),(31,bT h9)],by kernel_rfl⟩
      replace bY:=(jI h9).symm.trans bY;have he:=apb bY;subst he;exact⟨[(12,bF h9),(15,bF h9),(18,bF h9),(21,bF h9),(24,bF h9),(27,bF h9),(31,bF h9)],by kernel_rfl⟩
     rcases jK v7 with bU|bU
     ·replace J:=(fJ bU).symm.trans J;refine jA (t:=v7) (by kernel_rfl) bU ?_;refine bP ?_;refine rg [] [] (yD v1 [.cells [(aq (1:Int))]]) (by kernel_rfl) ?_;refine gM (lz (jU ?_));have hr:=apb J;subst hr;exact mj (by kernel_rfl)
     replace J:=(jI bU).symm.trans J;refine jg (t:=v7) (by kernel_rfl) bU ?_;refine jG ?_;refine jz ?_;refine dJ ?_;refine bP ?_;refine bP ?_;obtain⟨v8,dp,J⟩:=dv J;refine rg [(4,cL (alG dp))] [(33,(.fn 241 [(.bz [eI v8] 0 0)]))] (lX v1 []) (by kernel_rfl) ?_;refine kf ?_;refine mc [2,33] 2 (ao0 rfl) (s':=⟨38,[(2,(.ptr 1 0)),(33,(.fn 241 [(.bz [eI v8] 0 0)]))],(lX v1 [])⟩) (by kernel_rfl) ?_;refine Qb (m:=2) (enc:=cP) (xs:=(mY v8)) (by kernel_rfl) (ac4 v8) (λ(_:Unit)=>(lX v1 [])) (λ(_:Unit) l=>wC N l=some r) () (by kernel_rfl) J (by rintro _;rfl) (by rintro _;kernel_rfl) (by kernel_rfl) rfl ?_ ?_
     ·rintro _ v9 v10 J dt kh ko
      try dsimp only at J
      rw[wC]at J;refine mc [2,34] 3 (ao3 _) (s':=⟨38,[(2,(.ptr 1 0)),(34,(cP v9))],(lX v1 [.lp .ready 34 kh ko (er 38 [(2,(.ptr 1 0)),(33,(.fn 241 [(.bz [eI v8] 0 0)]))])])⟩) (by kernel_rfl) ?_;refine re [] [(3,(.ptr 3 0))] (lX v1 [.lp .ready 34 kh ko (er 38 [(2,(.ptr 1 0)),(33,(.fn 241 [(.bz [eI v8] 0 0)]))]), .cells (cP v9).cells]) (by kernel_rfl) ?_;refine dJ ?_;refine⟨(lX v1 []),[.cells (cP v9).cells],rfl,(by kernel_rfl),?_⟩;refine mc [2,3] 4 (ao0 rfl) (s':=⟨38,[(2,(.ptr 1 0)),(3,(.ptr 3 0))],(lX v1 [.lp .busy 34 kh ko (er 38 [(2,(.ptr 1 0)),(33,(.fn 241 [(.bz [eI v8] 0 0)]))]), .cells (cP v9).cells])⟩) (by kernel_rfl) ?_;refine kf ?_;refine bP ?_;obtain⟨v11,cN,J⟩:=dv J;refine rg [(4,cK w7 cN)] [(37,(aZ (v11 !=0)))] (lX v1 [.lp .busy 34 kh ko (er 38 [(2,(.ptr 1 0)),(33,(.fn 241 [(.bz [eI v8] 0 0)]))]), .cells (cP v9).cells]) (by kernel_rfl) ?_;rcases jK (v11 !=0)with b9|b9
      ·replace J:=(fJ b9).symm.trans J;refine jA (t:=(v11 !=0)) (by kernel_rfl) b9 ?_;refine bP ?_;refine rg [] [] (yD v1 [.cells [(aq (1:Int))], .lp .busy 34 kh ko (er 38 [(2,(.ptr 1 0)),(33,(.fn 241 [(.bz [eI v8] 0 0)]))]), .cells (cP v9).cells]) (by kernel_rfl) ?_;refine gM (lz ?_);refine XL (yD v1 [.cells [(aq (1:Int))]]) rfl (by kernel_rfl) (by kernel_rfl) ?_;refine(lz (jU ?_));have hr:=apb J;subst hr;exact mj (by kernel_rfl)
      replace J:=(jI b9).symm.trans J;refine jg (t:=(v11 !=0)) (by kernel_rfl) b9 ?_;refine jG ?_;refine jz ?_;refine P4 (lX v1 []) rfl (by kernel_rfl) (by kernel_rfl) ?_;exact⟨(),(by kernel_rfl),J⟩
     rintro _ J
     try dsimp only at J
     rw[wC]at J;refine jz ?_;refine dJ ?_;refine bP ?_;refine rg [] [] (lX v1 [.gone]) (by kernel_rfl) ?_;refine gM ?_;have hr:=apb J;subst hr;exact mj (by kernel_rfl)
    replace J:=(jI h8).symm.trans J;refine jA (t:=(!v5)) (by kernel_rfl) (eC h8) ?_;refine bP ?_;refine rg [] [] (yD v1 [.cells [(aq (10:Int))]]) (by kernel_rfl) ?_;refine gM (lz (jU ?_));have hr:=apb J;subst hr;exact mj (by kernel_rfl)
   replace J:=(jI h6).symm.trans J;refine jA (t:=(!v4)) (by kernel_rfl) (eC h6) ?_;refine bP ?_;refine rg [] [] (yD v1 [.cells [(aq (11:Int))]]) (by kernel_rfl) ?_;refine gM (lz (jU ?_));have hr:=apb J;subst hr;exact mj (by kernel_rfl)
  replace J:=(jI h4).symm.trans J;refine jA (t:=(!v3)) (by kernel_rfl) (eC h4) ?_;refine bP ?_;refine rg [] [] (yD v1 [.cells [(aq (7:Int))]]) (by kernel_rfl) ?_;refine gM (lz (jU ?_));have hr:=apb J;subst hr;exact mj (by kernel_rfl)
 replace J:=(jI h2).symm.trans J;refine jA (t:=(!v2)) (by kernel_rfl) (eC h2) ?_;refine bP ?_;refine rg [] [] (yD v1 [.cells [(aq (5:Int))]]) (by kernel_rfl) ?_;refine gM (lz (jU ?_));have hr:=apb J;subst hr;exact mj (by kernel_rfl)
end Go.Proofs.YtmkmibahjanejaaGreatDoor
