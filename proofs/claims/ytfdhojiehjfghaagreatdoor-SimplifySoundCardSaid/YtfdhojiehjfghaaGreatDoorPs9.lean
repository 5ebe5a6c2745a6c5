/-
  Part 9 of the proof: Cmp, Sorts, AbsWs, AbsDl, AbsTm, AbsUnr, AbsOT, IterB, RndD.
-/
import Derived.Test.YtfdhojiehjfghaaGreatDoorPs8
import Derived.WalkKit
import Derived.Lib.Bytealg
import Derived.Shelf.Sort.Plain
import Derived.Shelf.Slices.CompactS
import Derived.Shelf.Slices.In.SortNone
import Derived.Sort.OwnSorted
import Derived.LoopNIn
namespace Go.Proofs.YtfdhojiehjfghaaGreatDoor
open Go.RowKit
set_option maxRecDepth 100000
def Hn(a b:anE):Int:=Lib.compareBytes (bL a) (bL b)
theorem ZQ(a b:anE)(w:anI):Calls Tryz.prog 323 #[.string a, .string b] w λe w'=>e= .returned (.int .i64 (Hn a b))/\w'=w:=by
 go_enter Tryz.func323,Tryz.ntmps323
 go_wp2
 rw[run_callFunc_extern Tryz.func358 (by kernel_rfl) (by kernel_rfl) (by kernel_rfl) (e:=Extern.BytealgCompare.compare) (by kernel_rfl),Lib.run_compareString];simp only[Result.andThen];rw[Oper.upon_value]
 go_wp2
 go_ret
 exact⟨rfl,rfl⟩
theorem akX(a b:anE)(w:anI):Calls Tryz.prog 277 #[.string a, .string b] w λe w'=>e= .returned (.int .i64 (Hn a b))/\w'=w:=by
 go_enter Tryz.func277,Tryz.ntmps277
 go_wp2_with (go_at_call 323;refine(ZQ _ _ _).mono ?_;rintro e w' ⟨rfl,rfl⟩)
 go_ret
 exact⟨rfl,rfl⟩
theorem ahz(a b:anE):gn Tryz.prog 277 [bu a,bu b] (·=au (Hn a b)):=by
 refine⟨by kernel_rfl,λG w vs hi hl hr=> ?_⟩;have h0:∃u v,vs= #[u,v]:=⟨vs[0]'(by rw[hl];exact amV rfl),vs[1]'(by rw[hl];exact amV rfl),Array.ext hl λi h1 h2=>by
  match i,h2 with
  |0,_=>rfl
  |1,_=>rfl⟩
 obtain⟨u,v,rfl⟩:=h0;have e0:=(hr 0 u _ rfl rfl).val;have e1:=(hr 1 v _ rfl rfl).val;subst e0;subst e1;refine(akX a b w).mono λe w' hp=> ?_;obtain⟨rfl,rfl⟩:=hp;exact⟨_,G,_,_,rfl,bx.refl _ _ _,amY _,hi, .d (.v _),rfl,rfl⟩
end Go.Proofs.YtfdhojiehjfghaaGreatDoor
namespace Go.Proofs.YtfdhojiehjfghaaGreatDoor
open Go.RowKit Go.Shelf
set_option maxRecDepth 100000
set_option linter.unusedVariables false
end Go.Proofs.YtfdhojiehjfghaaGreatDoor
namespace Go.Proofs.YtfdhojiehjfghaaGreatDoor
open Go.RowKit
set_option linter.unusedSimpArgs false
set_option linter.unusedVariables false
structure DL{α:Type}(f:List α->List (List D))(k:Nat):Prop where
 len:∀l,(f l).length=l.length
 all:∀l,∀c∈f l,c.length=k
 app:∀a b,f a++f b=f (a++b)
section
variable {P:anG} {α:Type} {f:anD α->anD (anD D)} {k cr:Nat}
theorem Xr{n:Nat}(hb:0<cr)(h:Nat.ble (n*cr) 140737488355328=true):n<=maxLen/\n*cr<=140737488355328:=by
 have h1:=amV h;have h2:n*1<=n*cr:=Nat.mul_le_mul_left n hb;refine⟨?_,h1⟩;unfold maxLen;omega
def oA(F:DL f k)(A B:anD α)(h:Nat.ble ((A.length+B.length)*cr) 140737488355328=true)(hb:0<cr:=by decide):Ob P:=
 ⟨_,_, .app (xs:=f A) (ys:=f B) (zs:=f (A++B)) (len:=A.length) (n:=(A++B).length) (F.len A).symm (F.all A) (F.all B) (by rw[F.len,F.len];exact(Xr hb h).1) (by rw[F.len,F.len];exact(Xr hb h).2) (F.app A B) (by rw[F.len,F.len,amO])⟩
end
section
variable {P:anG} {f:FuncId} {dN:anD AV} {H H':anD ao} {r:AV}
def oQ(mB:anD AV)(h:anD ao)(l:anD Nat)(hc:cp P f dN H λr1 h1=>r1=r/\h1=H)(ha:mB=dN.map (AV.aG (rn l 0)):=by kernel_rfl)(hd:ph l=true:=by kernel_rfl)(hb:l.map (λj=>h[j]?)=H.map (λB=>some (B.aG (rn l 0))):=by kernel_rfl)(hl:(dN.all (AV.aH H.length)&&H.all (ao.aH H.length)&&r.aH H.length)=true:=by kernel_rfl):Ob P:=⟨_,_, .rq ha hd hb hl hc⟩
def oR(mB:anD AV)(h:anD ao)(l:anD Nat)(hc:cp P f dN H λr1 h1=>r1=r/\h1=H')(ha:mB=dN.map (AV.aG (rn l h.length)):=by kernel_rfl)(hd:ph l=true:=by kernel_rfl)(hb:l.map (λj=>h[j]?)=H.map (λB=>some (B.aG (rn l h.length))):=by kernel_rfl)(hl:(dN.all (AV.aH H.length)&&H.all (ao.aH H.length))=true:=by kernel_rfl):Ob P:=⟨_,_, .nv ha hd hb hl hc⟩
def oX(rh:VD H)(hv:VD H')(mB:anD AV)(h:anD ao)(l:anD Nat)(hc:cp P f dN H λr1 h1=>r1=r/\h1=H')(ha:mB=dN.map (AV.aG (rn l h.length)):=by kernel_rfl)(hd:ph l=true:=by kernel_rfl)(hb:l.map (λj=>h[j]?)=H.map (λB=>some (B.ra (rn l h.length))):=by kernel_rfl)(hl:(dN.all (AV.aH H.length)&&H.all (ao.uu H.length))=true:=by kernel_rfl):Ob P:=⟨_,_, .S0 rh hv ha hd hb hl hc⟩
end
section
variable {P:anG} {r:anF Nat} {N0:Nat} {Q:Exit->St->Prop} {w0:WO}
theorem Kq{α:Type}{f:anD α->anD (anD D)}{z:Nat}(F:DL f z)(k:Nat)(l:anD α)(h:l.length<=maxLen->GW P r N0 Q w0)(hx:(aY (wS w0).t k).eY=some (f l):=by kernel_rfl):GW P r N0 Q w0:=
 afI k (f l) hx λe=>h (Km (F.len l) e)
theorem ahg{α:Type}{f:anD α->anD (anD D)}{z:Nat}(F:DL f z)(b i:Nat)(l:anD α)(h:l.length<=maxLen->GW P r N0 Q w0)(hx:(((wS w0).h[b]?).bind λB=>match B with| .cells cs=>(cs[i]?).bind AV.eY|_=>none)=some (f l):=by kernel_rfl):GW P r N0 Q w0:=
 YC b i (f l) hx λe=>h (Km (F.len l) e)
structure rp{α ι R:Type}(k:Nat)(live:List Nat)(m:Nat)(L:List α)(st:Nat->ι->St)(G:List α->Nat->ι->Option R)(rr:R)(n:Nat)(x:α)(l:List α)(i:ι)(f:St->Prop):Prop where
 h:Jx k live m (λz:Nat×List α×ι=>st z.1 z.2.2) (λz=>L.drop z.1=z.2.1/\G z.2.1 z.1 z.2.2=some rr) (λz=>z.2.1.length) (n,x::l,i) f
structure uJ{ι R:Type}(k:Nat)(live:List Nat)(m:Nat)(st:ι->St)(G:Nat->ι->Option R)(rr:R)(d:Nat)(f:St->Prop):Prop where
 h:∀i,Jx k live m (λz:Nat×ι=>st z.2) (λz=>G z.1 z.2=some rr) (λz=>z.1) (d+1,i) f
theorem KX(hm:P.follows .mixedOrders=true){α ι R:Type}{rr:R}(k:Nat)(az:anD (anD (Nat×Ob P)))(live:anD Nat)(m:Nat)(L:anD α)(st:Nat->ι->St)(G:anD α->Nat->ι->anF R)(i0:ι)(hI:G L 0 i0=some rr)
 (nil:∀n i,L.drop n=[]->G [] n i=some rr->∀f:St->Prop,GW P r N0 Q (gk k f (st n i) (wk P w0 az)))
 (cons:∀n x l i,L.drop n=x::l->G (x::l) n i=some rr->∀f:St->Prop,rp k live m L st G rr n x l i f->GW P r N0 Q (gk k f (st n i) (wk P w0 az)))
 (hN:N0<=m) (e:mS live m (wk P w0 az)=some (st 0 i0,cZ az)):GW P r N0 Q w0:=by
 refine KC hm k az live m (λz:Nat×anD α×ι=>st z.1 z.2.2) (λz=>L.drop z.1=z.2.1/\G z.2.1 z.1 z.2.2=some rr) (λz=>z.2.1.length) (0,L,i0) ⟨rfl,hI⟩ (λz hz f hf=> ?_) hN e;obtain⟨n,l,i⟩:=z;obtain⟨h1,h2⟩:=hz;cases l with
 |nil=>exact nil n i h1 h2 f
 |cons x l=>exact cons n x l i h1 h2 f ⟨hf⟩
theorem acM(hm:P.follows .mixedOrders=true){α ι R:Type}{rr:R}{live:anD Nat}{m k:Nat}{L:anD α}{st:Nat->ι->St}{G:anD α->Nat->ι->anF R}{n:Nat}{x:α}{l:anD α}{i:ι}{f:St->Prop}(hf:rp k live m L st G rr n x l i f)(j:ι)(az:anD (anD (Nat×Ob P)))(hd:L.drop n=x::l)(hI:G l (n+1) j=some rr)(e1:jb k (wK w0)=[f])(e:pL k live m (wk P w0 az)=some (st (n+1) j,cZ az)):GW P r N0 Q w0:=
 Ec hm hf.h (n+1,l,j) az ⟨oc hd,hI⟩ (anB _) e1 e
theorem S3(hm:P.follows .mixedOrders=true){ι R:Type}{rr:R}(k:Nat)(az:anD (anD (Nat×Ob P)))(live:anD Nat)(m:Nat)(st:ι->St)(G:Nat->ι->anF R)(d:Nat)(i0:ι)(hI:G d i0=some rr)(h0:∀i,G 0 i=none)
 (succ:∀d i,G (d+1) i=some rr->∀f:St->Prop,uJ k live m st G rr d f->GW P r N0 Q (gk k f (st i) (wk P w0 az)))
 (hN:N0<=m) (e:mS live m (wk P w0 az)=some (st i0,cZ az)):GW P r N0 Q w0:=by
 refine KC hm k az live m (λz:Nat×ι=>st z.2) (λz=>G z.1 z.2=some rr) (λz=>z.1) (d,i0) hI (λz hz f hf=> ?_) hN e;obtain⟨d,i⟩:=z;cases d with
 |zero=>exact absurd ((h0 i).symm.trans hz) (by simp)
 |succ d=>exact succ d i hz f ⟨λj=>⟨λs' i' h1 h2 h3=>hf.h s' i' h1 h2 h3⟩⟩
theorem ajb(hm:P.follows .mixedOrders=true){ι R:Type}{rr:R}{live:anD Nat}{m k:Nat}{st:ι->St}{G:Nat->ι->anF R}{d:Nat}{f:St->Prop}(hf:uJ k live m st G rr d f)(j:ι)(az:anD (anD (Nat×Ob P)))(hI:G d j=some rr)(e1:jb k (wK w0)=[f])(e:pL k live m (wk P w0 az)=some (st j,cZ az)):GW P r N0 Q w0:=
 Ec hm (hf.h j) (d,j) az hI (anB _) e1 e
theorem afw{P:anG}{f:FuncId}{fn:Func}{args:anD AV}{R:AV}(hf:P.funcs[f]?=some fn)(hw:GW P none 0 (j9 P fn R) (yJ fn args []))(hb:fn.body.isSome=true:=by kernel_rfl)(hn:(fn.name== "runtime.NumGoroutine")=false:=by kernel_rfl):gn P f args (·=R):=ag3 hf hb hn hw
theorem tF{P:anG}{f:FuncId}{fn:Func}{args:anD AV}{h H:anD ao}{R:AV}(m:Nat)(hf:P.funcs[f]?=some fn)(hw:GW P none h.length (vo P fn m R H) (yJ fn args h))(hb:fn.body.isSome=true:=by kernel_rfl)(hn:(fn.name== "runtime.NumGoroutine")=false:=by kernel_rfl)(hm:h.length<=m:=by exact amV rfl):cp P f args h λr1 h1=>r1=R/\h1=H:=aaQ m hf hb hn hm hw
variable {α A B C D' R:Type} {rr:R}
theorem wl0(hm:P.follows .mixedOrders=true)(k:Nat)(az:anD (anD (Nat×Ob P)))(live:anD Nat)(m:Nat)(L:anD α)(st:Nat->St)(G:anD α->Nat->anF R)(hI:G L 0=some rr)
 (nil:∀n,L.drop n=[]->G [] n=some rr->∀f:St->Prop,GW P r N0 Q (gk k f (st n) (wk P w0 az)))
 (cons:∀n x l,L.drop n=x::l->G (x::l) n=some rr->∀f:St->Prop,rp k live m L (λn(_:Unit)=>st n) (λl n _=>G l n) rr n x l () f->GW P r N0 Q (gk k f (st n) (wk P w0 az)))
 (hN:N0<=m:=by exact amV rfl) (e:mS live m (wk P w0 az)=some (st 0,cZ az):=by kernel_rfl):GW P r N0 Q w0:=
 KX hm k az live m L (λn(_:Unit)=>st n) (λl n _=>G l n) () hI (λn _=>nil n) (λn x l _=>cons n x l) hN e
theorem wl1(hm:P.follows .mixedOrders=true)(k:Nat)(az:anD (anD (Nat×Ob P)))(live:anD Nat)(m:Nat)(L:anD α)(st:Nat->A->St)(G:anD α->Nat->A->anF R)(a0:A)(hI:G L 0 a0=some rr)
 (nil:∀n a,L.drop n=[]->G [] n a=some rr->∀f:St->Prop,GW P r N0 Q (gk k f (st n a) (wk P w0 az)))
 (cons:∀n x l a,L.drop n=x::l->G (x::l) n a=some rr->∀f:St->Prop,rp k live m L st G rr n x l a f->GW P r N0 Q (gk k f (st n a) (wk P w0 az)))
 (hN:N0<=m:=by exact amV rfl) (e:mS live m (wk P w0 az)=some (st 0 a0,cZ az):=by kernel_rfl):GW P r N0 Q w0:=
 KX hm k az live m L st G a0 hI nil cons hN e
theorem wl3(hm:P.follows .mixedOrders=true)(k:Nat)(az:anD (anD (Nat×Ob P)))(live:anD Nat)(m:Nat)(L:anD α)(st:Nat->A->B->C->St)(G:anD α->Nat->A->B->C->anF R)(a0:A)(b0:B)(c0:C)(hI:G L 0 a0 b0 c0=some rr)
 (nil:∀n a b c,L.drop n=[]->G [] n a b c=some rr->∀f:St->Prop,GW P r N0 Q (gk k f (st n a b c) (wk P w0 az)))
 (cons:∀n x l a b c,L.drop n=x::l->G (x::l) n a b c=some rr->∀f:St->Prop,rp k live m L (λn(i:A×B×C)=>st n i.1 i.2.1 i.2.2) (λl n i=>G l n i.1 i.2.1 i.2.2) rr n x l (a,b,c) f->GW P r N0 Q (gk k f (st n a b c) (wk P w0 az)))
 (hN:N0<=m:=by exact amV rfl) (e:mS live m (wk P w0 az)=some (st 0 a0 b0 c0,cZ az):=by kernel_rfl):GW P r N0 Q w0:=
 KX hm k az live m L (λn(i:A×B×C)=>st n i.1 i.2.1 i.2.2) (λl n i=>G l n i.1 i.2.1 i.2.2) (a0,b0,c0) hI (λn i=>nil n i.1 i.2.1 i.2.2) (λn x l i=>cons n x l i.1 i.2.1 i.2.2) hN e
theorem wb(hm:P.follows .mixedOrders=true){ι:Type}{live:anD Nat}{m k:Nat}{L:anD α}{st:Nat->ι->St}{G:anD α->Nat->ι->anF R}{n:Nat}{x:α}{l:anD α}{i:ι}{f:St->Prop}(hf:rp k live m L st G rr n x l i f)(j:ι)(az:anD (anD (Nat×Ob P)))(hd:L.drop n=x::l)(hI:G l (n+1) j=some rr)(e1:jb k (wK w0)=[f]:=by kernel_rfl)(e:pL k live m (wk P w0 az)=some (st (n+1) j,cZ az):=by kernel_rfl):GW P r N0 Q w0:=acM hm hf j az hd hI e1 e
theorem wf1(hm:P.follows .mixedOrders=true)(k:Nat)(az:anD (anD (Nat×Ob P)))(live:anD Nat)(m:Nat)(st:A->St)(G:Nat->A->anF R)(d:Nat)(a0:A)(hI:G d a0=some rr)
 (succ:∀d a,G (d+1) a=some rr->∀f:St->Prop,uJ k live m st G rr d f->GW P r N0 Q (gk k f (st a) (wk P w0 az))) (h0:∀a,G 0 a=none:=by intros;rfl)
 (hN:N0<=m:=by exact amV rfl) (e:mS live m (wk P w0 az)=some (st a0,cZ az):=by kernel_rfl):GW P r N0 Q w0:=
 S3 hm k az live m st G d a0 hI h0 succ hN e
theorem wf2(hm:P.follows .mixedOrders=true)(k:Nat)(az:anD (anD (Nat×Ob P)))(live:anD Nat)(m:Nat)(st:A->B->St)(G:Nat->A->B->anF R)(d:Nat)(a0:A)(b0:B)(hI:G d a0 b0=some rr)
 (succ:∀d a b,G (d+1) a b=some rr->∀f:St->Prop,uJ k live m (λ(i:A×B)=>st i.1 i.2) (λd i=>G d i.1 i.2) rr d f->GW P r N0 Q (gk k f (st a b) (wk P w0 az))) (h0:∀a b,G 0 a b=none:=by intros;rfl)
 (hN:N0<=m:=by exact amV rfl) (e:mS live m (wk P w0 az)=some (st a0 b0,cZ az):=by kernel_rfl):GW P r N0 Q w0:=
 S3 hm k az live m (λ(i:A×B)=>st i.1 i.2) (λd i=>G d i.1 i.2) d (a0,b0) hI (λi=>h0 i.1 i.2) (λd i=>succ d i.1 i.2) hN e
theorem wbf(hm:P.follows .mixedOrders=true){ι:Type}{live:anD Nat}{m k:Nat}{st:ι->St}{G:Nat->ι->anF R}{d:Nat}{f:St->Prop}(hf:uJ k live m st G rr d f)(j:ι)(az:anD (anD (Nat×Ob P)))(hI:G d j=some rr)(e1:jb k (wK w0)=[f]:=by kernel_rfl)(e:pL k live m (wk P w0 az)=some (st j,cZ az):=by kernel_rfl):GW P r N0 Q w0:=ajb hm hf j az hI e1 e
def yj(g:Nat)(t:anF Nat):anD Oper->Nat->anD Nat
 |[],_=>[]
 |o::l,j=>match o.guard with
  |some (g',_)=>bif g'==g then(3*j)::yj g t l (j+1)else yj g t l (j+1)
  |none=>match o.op,t with
   | .pick (.tmp c) _ _,some t'=>bif c==t' then(3*j+1)::yj g t l (j+1)else yj g t l (j+1)
   |_,_=>yj g t l (j+1)
def aee(l:anD Oper)(g:Nat):anF Nat:=match l[g]? with
 |some o=>o.dst
 |none=>none
def uj:WO->anD Oper
 |some (.at (.region _ ops _) _ _,_)=>ops.toList
 |_=>[]
noncomputable def u9(ops:anD Oper)(sp si:anD (Nat×Ob P)):anD (Nat×Ob P):=so (sp.foldr (λx t=>os (yj x.1 (aee ops x.1) ops 0) x.2 t) si)
theorem tr(hm:P.follows .mixedOrders=true)(Δ:anD (Nat×AV))(h':anD ao)(e:∃sp si:anD (Nat×Ob P),Ib P (Δ.map (·.1)) (iD (u9 (uj (wk P w0 [])) sp si)) (wk P w0 [])=some (Δ,h',iS (u9 (uj (wk P w0 [])) sp si)))(k:GW P r N0 Q (rz Δ h' (wk P w0 [])))(e0:oP (wk P w0 [])=some []:=by kernel_rfl):GW P r N0 Q w0:=
 ale hm Δ h' (let ⟨_,_,h⟩:=e;⟨_,h⟩) k e0
theorem abv(m:Nat)(hm:P.follows .mixedOrders=true)(Δ:anD (Nat×AV))(h':anD ao)(e:∃sp si:anD (Nat×Ob P),Gg P (Δ.map (·.1)) (iD (u9 (uj (wk P w0 [])) sp si)) (wk P w0 [])=some (List.replicate m (Δ,h',iS (u9 (uj (wk P w0 [])) sp si))))(k:GW P r N0 Q (rz Δ h' (wk P w0 [])))(e0:oP (wk P w0 [])=some []:=by kernel_rfl):GW P r N0 Q w0:=
 yw m hm Δ h' (let ⟨_,_,h⟩:=e;⟨_,h⟩) k e0
theorem wj0(hm:P.follows .mixedOrders=true)(rr:R)(k:Nat)(az:anD (anD (Nat×Ob P)))(live:anD Nat)(m:Nat)(st:St)(G:anF R)
 (br:∀f:St->Prop,sZ k live m (λ(_:Unit)=>st) (λ_=>G=some rr) f->GW P r N0 Q (rj k f (wk P w0 az)))
 (rest:G=some rr->GW P r N0 Q (qy st (wk P w0 az))) (hN:N0<=m:=by exact amV rfl) (e:oy (wk P w0 az)=some (cZ az):=by kernel_rfl):GW P r N0 Q w0:=
 Dq hm k az live m (λ(_:Unit)=>st) (λ_=>G=some rr) br (λ_=>rest) hN e
theorem Dl(hm:P.follows .mixedOrders=true)(rr:R)(k:Nat)(az:anD (anD (Nat×Ob P)))(live:anD Nat)(m:Nat)(st:A->St)(G:A->anF R)
 (br:∀f:St->Prop,sZ k live m st (λa=>G a=some rr) f->GW P r N0 Q (rj k f (wk P w0 az)))
 (rest:∀a,G a=some rr->GW P r N0 Q (qy (st a) (wk P w0 az))) (hN:N0<=m:=by exact amV rfl) (e:oy (wk P w0 az)=some (cZ az):=by kernel_rfl):GW P r N0 Q w0:=
 Dq hm k az live m st (λa=>G a=some rr) br rest hN e
theorem wj2(hm:P.follows .mixedOrders=true)(rr:R)(k:Nat)(az:anD (anD (Nat×Ob P)))(live:anD Nat)(m:Nat)(st:A->B->St)(G:A->B->anF R)
 (br:∀f:St->Prop,sZ k live m (λ(i:A×B)=>st i.1 i.2) (λi=>G i.1 i.2=some rr) f->GW P r N0 Q (rj k f (wk P w0 az)))
 (rest:∀a b,G a b=some rr->GW P r N0 Q (qy (st a b) (wk P w0 az))) (hN:N0<=m:=by exact amV rfl) (e:oy (wk P w0 az)=some (cZ az):=by kernel_rfl):GW P r N0 Q w0:=
 Dq hm k az live m (λ(i:A×B)=>st i.1 i.2) (λi=>G i.1 i.2=some rr) br (λi=>rest i.1 i.2) hN e
theorem akI{α:Type}{f:α->anD D}{E:anD α}{h:anD ao}{k cr:Nat}{y:AV}(hk:∀c∈E.map f,c.length=k)(hy:y.eY=some (E.map f))(hm:E.length<=maxLen)(hb:E.length*cr<=140737488355328):
 ([]:anD (anD D))=[]/\yR h k y (bG (E.map f))/\bG (E.map f)=bG (E.map f)/\E.length=(bG (E.map f)).length/\E.length=(bG (E.map f)).length/\E.length<=maxLen/\E.length*cr<=140737488355328:=
 have hl:E.length=(bG (E.map f)).length:=by rw[JI,amS]
 ⟨rfl, .inl ⟨_,hy,hk,rfl⟩,rfl,hl,hl,hm,hb⟩
end
theorem F7:DL iQ 1:=⟨λ_=>uS,λ_=>adJ,λ_ _=>ZY⟩
theorem ZI:DL mR 1:=⟨λ_=>Vn,λ_=>agf,λ_ _=>agJ⟩
theorem vP:DL cC 2:=⟨λ_=>fc,λ_=>AN,λ_ _=>agH⟩
theorem VH:DL kf 2:=⟨λ_=>JC,λ_=>aeP,λ_ _=>ajd⟩
theorem ae5:DL bt 2:=⟨λ_=>QM,λ_=>aky,λ_ _=>agN⟩
theorem Ij:DL ew 2:=⟨λ_=>gW,λ_=>R3,λ_ _=>ahR⟩
theorem ad6:DL bq 8:=⟨λ_=>OV,λ_=>ak7,λ_ _=>adg⟩
theorem vj:DL cH 4:=⟨λ_=>fU,λ_=>Vi,λ_ _=>abF⟩
theorem rY:DL dh 13:=⟨λ_=>fS,λ_=>L0,λ_ _=>agF⟩
abbrev KF(f:FuncId)(args:anD AV)(R:AV):Prop:=gn Tryz.prog f args (·=R)
abbrev KH(f:FuncId)(args:anD AV)(h:anD ao)(R:AV)(H:anD ao):Prop:=cp Tryz.prog f args h λr1 h1=>r1=R/\h1=H
def KO{α:Type}(f:FuncId)(args:anD AV)(en:α->AV)(o:anF α):Prop:=∀r:α,o=some r->KF f args (en r)
def KP{α:Type}(f:FuncId)(args:anD AV)(h:anD ao)(en:α->AV)(eh:α->anD ao)(o:anF α):Prop:=∀r:α,o=some r->KH f args h (en r) (eh r)
def cK{α:Type}{f:FuncId}{args:anD AV}{en:α->AV}{o:anF α}{r:α}(k:KO f args en o)(h:o=some r):Ob Tryz.prog:=cL (k r h)
def IE{α:Type}(o:anF α)(G:α->Prop):Prop:=∀v,o=some v->G v
section
variable {α β:Type} {x:anF α} {G:α->Prop}
theorem ax{x:anF β}{f:β->anF α}(k:∀a,x=some a->IE (f a) G):IE (Option.bind x f) G:=λv h=>
 have ⟨a,h1,h2⟩:=b8 h
 k a h1 v h2
theorem gy{c:Bool}(k:c=true->IE x G):IE (bif c then x else none) G:=λv h=>
 have ⟨h1,h2⟩:=lN h
 k h1 v h2
theorem ay{c:Bool}{a b:anF α}(t:c=true->IE a G)(f:c=false->IE b G):IE (bif c then a else b) G:=λv h=>bc h (λi j=>t i v j) λi j=>f i v j
theorem gE{α β γ:Type}{Φ:α->β->γ->Prop}{x:γ}(a:α)(b:β)(k:Φ a b x:=by kernel_rfl):IE (some x) λy=>∃a b,Φ a b y:=λv h=>sj h▸⟨a,b,k⟩
theorem cP{α β γ:Type}{Φ:α->anD β->γ->Prop}{o:anF γ}(x:β)(k:IE o λy=>∃a b,Φ a (x::b) y):IE o λy=>∃a b,Φ a b y:=λv h=>
 have ⟨a,b,c⟩:=k v h
 ⟨a,x::b,c⟩
theorem cm{α β γ:Type}{Φ:anD α->β->γ->Prop}{o:anF γ}(x:α)(k:IE o λy=>∃a b,Φ (x::a) b y):IE o λy=>∃a b,Φ a b y:=λv h=>
 have ⟨a,b,c⟩:=k v h
 ⟨x::a,b,c⟩
end
section
variable {α β:Type} {o:anF α} {x y:α} {r:anF Nat} {N0:Nat} {Q:α->Exit->St->Prop} {w0:WO}
theorem gA(az:anD (anD (Nat×Ob Tryz.prog)))(k:IE o λq=>q=y->GW Tryz.prog r N0 (Q q) (wk Tryz.prog w0 az))(e:oP (wk Tryz.prog w0 az)=some (cZ az):=by kernel_rfl):IE o λq=>q=y->GW Tryz.prog r N0 (Q q) w0:=λv h q=>ft aX az (k v h q) e
theorem gR{en:α->AV}{fn:Func}(az:anD (anD (Nat×Ob Tryz.prog)))(e:sT Tryz.prog fn.results.toList (wk Tryz.prog w0 az)=some (en x,cZ az):=by kernel_rfl):IE (some x) λq=>q=y->GW Tryz.prog r N0 (j9 Tryz.prog fn (en q)) w0:=λv h _=>sj h▸wr aX az e
theorem gH{en:α->AV}{eh:α->anD ao}{fn:Func}{m:Nat}(az:anD (anD (Nat×Ob Tryz.prog)))(e:FZ Tryz.prog fn.results.toList m (wk Tryz.prog w0 az)=some ((en x,eh x),cZ az):=by kernel_rfl):IE (some x) λq=>q=y->GW Tryz.prog r N0 (vo Tryz.prog fn m (en q) (eh q)) w0:=λv h _=>sj h▸iV aX az e
theorem gG{x:anF β}{f:β->anF α}(Δ:β->anD (Nat×AV))(h':β->anD ao)(e:IE x λv=>∃sp si:anD (Nat×Ob Tryz.prog),Ib Tryz.prog ((Δ v).map (·.1)) (iD (u9 (uj (wk Tryz.prog w0 [])) sp si)) (wk Tryz.prog w0 [])=some (Δ v,h' v,iS (u9 (uj (wk Tryz.prog w0 [])) sp si)))(k:∀v,IE (f v) λq=>q=y->GW Tryz.prog r N0 (Q q) (rz (Δ v) (h' v) (wk Tryz.prog w0 [])))(e0:oP (wk Tryz.prog w0 [])=some []:=by kernel_rfl):IE (Option.bind x f) λq=>q=y->GW Tryz.prog r N0 (Q q) w0:=λv h q=>
 have ⟨a,h1,h2⟩:=b8 h
 tr aX (Δ a) (h' a) (e a h1) (k a v h2 q) e0
theorem gU(m:Nat){x:anF β}{f:β->anF α}(Δ:β->anD (Nat×AV))(h':β->anD ao)(e:IE x λv=>∃sp si:anD (Nat×Ob Tryz.prog),Gg Tryz.prog ((Δ v).map (·.1)) (iD (u9 (uj (wk Tryz.prog w0 [])) sp si)) (wk Tryz.prog w0 [])=some (List.replicate m (Δ v,h' v,iS (u9 (uj (wk Tryz.prog w0 [])) sp si))))(k:∀v,IE (f v) λq=>q=y->GW Tryz.prog r N0 (Q q) (rz (Δ v) (h' v) (wk Tryz.prog w0 [])))(e0:oP (wk Tryz.prog w0 [])=some []:=by kernel_rfl):IE (Option.bind x f) λq=>q=y->GW Tryz.prog r N0 (Q q) w0:=λv h q=>
 have ⟨a,h1,h2⟩:=b8 h
 abv m aX (Δ a) (h' a) (e a h1) (k a v h2 q) e0
theorem bN{c:Bool}{b:anF α}{en:α->AV}{fn:Func}(f:c=false->IE b λq=>q=y->GW Tryz.prog r N0 (j9 Tryz.prog fn (en q)) w0)(e:∀h:c=true,sT Tryz.prog fn.results.toList (wk Tryz.prog w0 [[(0,bT h)],[]])=some (en x,cZ (P:=Tryz.prog) [[(0,bT h)],[]]):=by intro h;kernel_rfl):IE (bif c then some x else b) λq=>q=y->GW Tryz.prog r N0 (j9 Tryz.prog fn (en q)) w0:=ay (λh=>gR [[(0,bT h)],[]] (e h)) (f)
theorem rM{c:Bool}{b:anF α}{en:α->AV}{fn:Func}(f:c=false->IE b λq=>q=y->GW Tryz.prog r N0 (j9 Tryz.prog fn (en q)) w0)(e:∀h:c=true,sT Tryz.prog fn.results.toList (wk Tryz.prog w0 [[(0,bF (du h))],[]])=some (en x,cZ (P:=Tryz.prog) [[(0,bF (du h))],[]]):=by intro h;kernel_rfl):IE (bif c then some x else b) λq=>q=y->GW Tryz.prog r N0 (j9 Tryz.prog fn (en q)) w0:=ay (λh=>gR [[(0,bF (du h))],[]] (e h)) (f)
theorem ky{c:Bool}{b:anF α}{en:α->AV}{fn:Func}(f:c=true->IE b λq=>q=y->GW Tryz.prog r N0 (j9 Tryz.prog fn (en q)) w0)(e:∀h:c=false,sT Tryz.prog fn.results.toList (wk Tryz.prog w0 [[(0,bF h)],[]])=some (en x,cZ (P:=Tryz.prog) [[(0,bF h)],[]]):=by intro h;kernel_rfl):IE (bif c then b else some x) λq=>q=y->GW Tryz.prog r N0 (j9 Tryz.prog fn (en q)) w0:=ay (f) (λh=>gR [[(0,bF h)],[]] (e h))
theorem mu{c:Bool}{b:anF α}{en:α->AV}{fn:Func}(f:c=true->IE b λq=>q=y->GW Tryz.prog r N0 (j9 Tryz.prog fn (en q)) w0)(e:∀h:c=false,sT Tryz.prog fn.results.toList (wk Tryz.prog w0 [[(0,bT (dD h))],[]])=some (en x,cZ (P:=Tryz.prog) [[(0,bT (dD h))],[]]):=by intro h;kernel_rfl):IE (bif c then b else some x) λq=>q=y->GW Tryz.prog r N0 (j9 Tryz.prog fn (en q)) w0:=ay (f) (λh=>gR [[(0,bT (dD h))],[]] (e h))
theorem gF{c:Bool}{b:anF α}{en:α->AV}{fn:Func}(f:∀h:c=false,IE b λq=>q=y->GW Tryz.prog r N0 (j9 Tryz.prog fn (en q)) (wk Tryz.prog w0 [[(0,bF h)],[]]))(e:∀h:c=true,sT Tryz.prog fn.results.toList (wk Tryz.prog w0 [[(0,bT h)],[]])=some (en x,cZ (P:=Tryz.prog) [[(0,bT h)],[]]):=by intro h;kernel_rfl)(e2:∀h:c=false,oP (wk Tryz.prog w0 [[(0,bF h)],[]])=some (cZ (P:=Tryz.prog) [[(0,bF h)],[]]):=by intro h;kernel_rfl):IE (bif c then some x else b) λq=>q=y->GW Tryz.prog r N0 (j9 Tryz.prog fn (en q)) w0:=ay (λh=>gR [[(0,bT h)],[]] (e h)) (λh=>gA [[(0,bF h)],[]] (f h) (e2 h))
def t0{c:Bool}(h:c=true):Nat×Ob Tryz.prog:=(0,bT h)
def f0{c:Bool}(h:c=false):Nat×Ob Tryz.prog:=(0,bF h)
theorem li{w1:WO}(f:∀q,GW Tryz.prog r N0 (Q q) w1->GW Tryz.prog r N0 (Q q) w0)(k:IE o λq=>q=y->GW Tryz.prog r N0 (Q q) w1):IE o λq=>q=y->GW Tryz.prog r N0 (Q q) w0:=λv h q=>f v (k v h q)
theorem ZR{w1:WO}{p:Prop}(f:∀q,(p->GW Tryz.prog r N0 (Q q) w1)->GW Tryz.prog r N0 (Q q) w0)(k:p->IE o λq=>q=y->GW Tryz.prog r N0 (Q q) w1):IE o λq=>q=y->GW Tryz.prog r N0 (Q q) w0:=λv h q=>f v λa=>k a v h q
theorem gT{β:Type}{f:anD β->anD (anD D)}{z:Nat}(F:DL f z)(k:Nat)(l:anD β)(h:l.length<=maxLen->IE o λq=>q=y->GW Tryz.prog r N0 (Q q) w0)(hx:(aY (wS w0).t k).eY=some (f l):=by kernel_rfl):IE o λq=>q=y->GW Tryz.prog r N0 (Q q) w0:=λv h2 q=>Kq F k l (λa=>h a v h2 q) hx
theorem gB{β:Type}{f:anD β->anD (anD D)}{z:Nat}(F:DL f z)(b i:Nat)(l:anD β)(h:l.length<=maxLen->IE o λq=>q=y->GW Tryz.prog r N0 (Q q) w0)(hx:(((wS w0).h[b]?).bind λB=>match B with| .cells cs=>(cs[i]?).bind AV.eY|_=>none)=some (f l):=by kernel_rfl):IE o λq=>q=y->GW Tryz.prog r N0 (Q q) w0:=λv h2 q=>ahg F b i l (λa=>h a v h2 q) hx
theorem fw{f:FuncId}{fn:Func}{args:anD AV}{en:α->AV}(hf:Tryz.prog.funcs[f]?=some fn)(hw:∀{y},IE o λq=>q=y->GW Tryz.prog none 0 (j9 Tryz.prog fn (en q)) (yJ fn args []))(hb:fn.body.isSome=true:=by kernel_rfl)(hn:(fn.name== "runtime.NumGoroutine")=false:=by kernel_rfl):KO f args en o:=λr h=>afw hf (hw r h rfl) hb hn
theorem fh{f:FuncId}{fn:Func}{args:anD AV}{h:anD ao}{en:α->AV}{eh:α->anD ao}(m:Nat)(hf:Tryz.prog.funcs[f]?=some fn)(hw:∀{y},IE o λq=>q=y->GW Tryz.prog none h.length (vo Tryz.prog fn m (en q) (eh q)) (yJ fn args h))(hb:fn.body.isSome=true:=by kernel_rfl)(hn:(fn.name== "runtime.NumGoroutine")=false:=by kernel_rfl)(hm:h.length<=m:=by exact amV rfl):KP f args h en eh o:=λr q=>tF m hf (hw r q rfl) hb hn hm
end
section
variable {α A B C D' R:Type} {rr:R} {r:anF Nat} {N0:Nat} {Q:R->Exit->St->Prop} {w0:WO}
theorem js(k:Nat)(az:anD (anD (Nat×Ob Tryz.prog)))(live:anD Nat)(m:Nat){L:anD α}(st:Nat->St){G:anD α->Nat->anF R}
 (nil:∀n,L.drop n=[]->∀f:St->Prop,IE (G [] n) λq=>q=rr->GW Tryz.prog r N0 (Q q) (gk k f (st n) (wk Tryz.prog w0 az)))
 (cons:∀n x l,L.drop n=x::l->∀f:St->Prop,rp k live m L (λn(_:Unit)=>st n) (λl n _=>G l n) rr n x l () f->IE (G (x::l) n) λq=>q=rr->GW Tryz.prog r N0 (Q q) (gk k f (st n) (wk Tryz.prog w0 az)))
 (hN:N0<=m:=by exact amV rfl) (e:mS live m (wk Tryz.prog w0 az)=some (st 0,cZ az):=by kernel_rfl):IE (G L 0) λq=>q=rr->GW Tryz.prog r N0 (Q q) w0:=λv h q=>
 wl0 aX k az live m L st G (q▸h) (λn a2 b2 f=>q▸nil n a2 f rr b2 rfl) (λn x l a2 b2 f c2=>q▸cons n x l a2 f c2 rr b2 rfl) hN e
theorem q9(k:Nat)(az:anD (anD (Nat×Ob Tryz.prog)))(live:anD Nat)(m:Nat){L:anD α}(st:Nat->A->St){G:anD α->Nat->A->anF R}{a0:A}
 (nil:∀n a,L.drop n=[]->∀f:St->Prop,IE (G [] n a) λq=>q=rr->GW Tryz.prog r N0 (Q q) (gk k f (st n a) (wk Tryz.prog w0 az)))
 (cons:∀n x l a,L.drop n=x::l->∀f:St->Prop,rp k live m L st G rr n x l a f->IE (G (x::l) n a) λq=>q=rr->GW Tryz.prog r N0 (Q q) (gk k f (st n a) (wk Tryz.prog w0 az)))
 (hN:N0<=m:=by exact amV rfl) (e:mS live m (wk Tryz.prog w0 az)=some (st 0 a0,cZ az):=by kernel_rfl):IE (G L 0 a0) λq=>q=rr->GW Tryz.prog r N0 (Q q) w0:=λv h q=>
 wl1 aX k az live m L st G a0 (q▸h) (λn a1 a2 b2 f=>q▸nil n a1 a2 f rr b2 rfl) (λn x l a1 a2 b2 f c2=>q▸cons n x l a1 a2 f c2 rr b2 rfl) hN e
theorem gl3(k:Nat)(az:anD (anD (Nat×Ob Tryz.prog)))(live:anD Nat)(m:Nat){L:anD α}(st:Nat->A->B->C->St){G:anD α->Nat->A->B->C->anF R}{a0:A}{b0:B}{c0:C}
 (nil:∀n a b c,L.drop n=[]->∀f:St->Prop,IE (G [] n a b c) λq=>q=rr->GW Tryz.prog r N0 (Q q) (gk k f (st n a b c) (wk Tryz.prog w0 az)))
 (cons:∀n x l a b c,L.drop n=x::l->∀f:St->Prop,rp k live m L (λn(i:A×B×C)=>st n i.1 i.2.1 i.2.2) (λl n i=>G l n i.1 i.2.1 i.2.2) rr n x l (a,b,c) f->IE (G (x::l) n a b c) λq=>q=rr->GW Tryz.prog r N0 (Q q) (gk k f (st n a b c) (wk Tryz.prog w0 az)))
 (hN:N0<=m:=by exact amV rfl) (e:mS live m (wk Tryz.prog w0 az)=some (st 0 a0 b0 c0,cZ az):=by kernel_rfl):IE (G L 0 a0 b0 c0) λq=>q=rr->GW Tryz.prog r N0 (Q q) w0:=λv h q=>
 wl3 aX k az live m L st G a0 b0 c0 (q▸h) (λn a1 b1 c1 a2 b2 f=>q▸nil n a1 b1 c1 a2 f rr b2 rfl) (λn x l a1 b1 c1 a2 b2 f c2=>q▸cons n x l a1 b1 c1 a2 f c2 rr b2 rfl) hN e
theorem gb{ι:Type}{live:anD Nat}{m k:Nat}{L:anD α}{st:Nat->ι->St}{G:anD α->Nat->ι->anF R}{n:Nat}{x:α}{l:anD α}{i:ι}{f:St->Prop}(hf:rp k live m L st G rr n x l i f)(j:ι)(az:anD (anD (Nat×Ob Tryz.prog)))(hd:L.drop n=x::l)(e1:jb k (wK w0)=[f]:=by kernel_rfl)(e:pL k live m (wk Tryz.prog w0 az)=some (st (n+1) j,cZ az):=by kernel_rfl):IE (G l (n+1) j) λq=>q=rr->GW Tryz.prog r N0 (Q q) w0:=λv h q=>wb aX hf j az hd (q▸h) e1 e
theorem TL(k:Nat)(az:anD (anD (Nat×Ob Tryz.prog)))(live:anD Nat)(m:Nat)(st:A->St)(G:Nat->A->anF R){d:Nat}{a0:A}
 (succ:∀d a,∀f:St->Prop,uJ k live m st G rr d f->IE (G (d+1) a) λq=>q=rr->GW Tryz.prog r N0 (Q q) (gk k f (st a) (wk Tryz.prog w0 az))) (h0:∀a,G 0 a=none:=by intros;rfl)
 (hN:N0<=m:=by exact amV rfl) (e:mS live m (wk Tryz.prog w0 az)=some (st a0,cZ az):=by kernel_rfl):IE (G d a0) λq=>q=rr->GW Tryz.prog r N0 (Q q) w0:=λv h q=>wf1 aX k az live m st G d a0 (q▸h) (λd a1 b2 f c2=>q▸succ d a1 f c2 rr b2 rfl) h0 hN e
theorem gf2(k:Nat)(az:anD (anD (Nat×Ob Tryz.prog)))(live:anD Nat)(m:Nat)(st:A->B->St)(G:Nat->A->B->anF R){d:Nat}{a0:A}{b0:B}
 (succ:∀d a b,∀f:St->Prop,uJ k live m (λ(i:A×B)=>st i.1 i.2) (λd i=>G d i.1 i.2) rr d f->IE (G (d+1) a b) λq=>q=rr->GW Tryz.prog r N0 (Q q) (gk k f (st a b) (wk Tryz.prog w0 az))) (h0:∀a b,G 0 a b=none:=by intros;rfl)
 (hN:N0<=m:=by exact amV rfl) (e:mS live m (wk Tryz.prog w0 az)=some (st a0 b0,cZ az):=by kernel_rfl):IE (G d a0 b0) λq=>q=rr->GW Tryz.prog r N0 (Q q) w0:=λv h q=>wf2 aX k az live m st G d a0 b0 (q▸h) (λd a1 b1 b2 f c2=>q▸succ d a1 b1 f c2 rr b2 rfl) h0 hN e
theorem PK{ι:Type}{live:anD Nat}{m k:Nat}{st:ι->St}{G:Nat->ι->anF R}{d:Nat}{f:St->Prop}(hf:uJ k live m st G rr d f)(j:ι)(az:anD (anD (Nat×Ob Tryz.prog)))(e1:jb k (wK w0)=[f]:=by kernel_rfl)(e:pL k live m (wk Tryz.prog w0 az)=some (st j,cZ az):=by kernel_rfl):IE (G d j) λq=>q=rr->GW Tryz.prog r N0 (Q q) w0:=λv h q=>wbf aX hf j az (q▸h) e1 e
theorem gj0{o:anF R}(k:Nat)(az:anD (anD (Nat×Ob Tryz.prog)))(live:anD Nat)(m:Nat)(st:St)(G:anF R)
 (br:∀f:St->Prop,sZ k live m (λ(_:Unit)=>st) (λ_=>G=some rr) f->IE o λq=>q=rr->GW Tryz.prog r N0 (Q q) (rj k f (wk Tryz.prog w0 az)))
 (rest:IE G λq=>q=rr->GW Tryz.prog r N0 (Q q) (qy st (wk Tryz.prog w0 az))) (hN:N0<=m:=by exact amV rfl) (e:oy (wk Tryz.prog w0 az)=some (cZ az):=by kernel_rfl):IE o λq=>q=rr->GW Tryz.prog r N0 (Q q) w0:=λv h q=>wj0 aX rr k az live m st G (λf a=>br f a v h q) (λb2=>q▸rest rr b2 rfl) hN e
theorem lH{o:anF R}(k:Nat)(az:anD (anD (Nat×Ob Tryz.prog)))(live:anD Nat)(m:Nat)(st:A->St)(G:A->anF R)
 (br:∀f:St->Prop,sZ k live m st (λa=>G a=some rr) f->IE o λq=>q=rr->GW Tryz.prog r N0 (Q q) (rj k f (wk Tryz.prog w0 az)))
 (rest:∀a,IE (G a) λq=>q=rr->GW Tryz.prog r N0 (Q q) (qy (st a) (wk Tryz.prog w0 az))) (hN:N0<=m:=by exact amV rfl) (e:oy (wk Tryz.prog w0 az)=some (cZ az):=by kernel_rfl):IE o λq=>q=rr->GW Tryz.prog r N0 (Q q) w0:=λv h q=>Dl aX rr k az live m st G (λf a=>br f a v h q) (λa1 b2=>q▸rest a1 rr b2 rfl) hN e
theorem qg{o:anF R}(k:Nat)(az:anD (anD (Nat×Ob Tryz.prog)))(live:anD Nat)(m:Nat)(st:A->B->St)(G:A->B->anF R)
 (br:∀f:St->Prop,sZ k live m (λ(i:A×B)=>st i.1 i.2) (λi=>G i.1 i.2=some rr) f->IE o λq=>q=rr->GW Tryz.prog r N0 (Q q) (rj k f (wk Tryz.prog w0 az)))
 (rest:∀a b,IE (G a b) λq=>q=rr->GW Tryz.prog r N0 (Q q) (qy (st a b) (wk Tryz.prog w0 az))) (hN:N0<=m:=by exact amV rfl) (e:oy (wk Tryz.prog w0 az)=some (cZ az):=by kernel_rfl):IE o λq=>q=rr->GW Tryz.prog r N0 (Q q) w0:=λv h q=>wj2 aX rr k az live m st G (λf a=>br f a v h q) (λa1 b1 b2=>q▸rest a1 b1 rr b2 rfl) hN e
theorem gm{ι:Type}{live:anD Nat}{m k:Nat}{st:ι->St}{G:ι->anF R}{f:St->Prop}(hf:sZ k live m st (λi=>G i=some rr) f)(i:ι)(az:anD (anD (Nat×Ob Tryz.prog)))(e1:jb k (wK w0)=[f]:=by kernel_rfl)(e:pL k live m (wk Tryz.prog w0 az)=some (st i,cZ az):=by kernel_rfl):IE (G i) λq=>q=rr->GW Tryz.prog r N0 (Q q) w0:=λv h q=>lf aX hf i az (q▸h) e1 e
structure BX{α ι R:Type}(k:Nat)(live:List Nat)(m:Nat)(ks:List Nat)(kn:List (Nat×Nat))(L:List α)(st:Nat->ι->St)(G:List α->Nat->ι->Option R)(rr:R)(n:Nat)(x:α)(l:List α)(i:ι)(f:St->Prop):Prop where
 h:Kl k live m ks kn (λz:Nat×List α×ι=>st z.1 z.2.2) (λz=>L.drop z.1=z.2.1/\G z.2.1 z.1 z.2.2=some rr) (λz=>z.2.1.length) (n,x::l,i) f
structure YT{ι R:Type}(k:Nat)(live:List Nat)(m:Nat)(ks:List Nat)(kn:List (Nat×Nat))(st:ι->St)(G:Nat->ι->Option R)(rr:R)(d:Nat)(f:St->Prop):Prop where
 h:∀i,Kl k live m ks kn (λz:Nat×ι=>st z.2) (λz=>G z.1 z.2=some rr) (λz=>z.1) (d+1,i) f
theorem XG(k:Nat)(az:anD (anD (Nat×Ob Tryz.prog)))(live:anD Nat)(m:Nat)(ks:anD Nat)(kn:anD (Nat×Nat)){L:anD α}(st:Nat->A->St){G:anD α->Nat->A->anF R}{a0:A}
 (nil:∀n a,L.drop n=[]->∀f:St->Prop,IE (G [] n a) λq=>q=rr->GW Tryz.prog r N0 (Q q) (gk k f (st n a) (wk Tryz.prog w0 az)))
 (cons:∀n x l a,L.drop n=x::l->∀f:St->Prop,BX k live m ks kn L st G rr n x l a f->IE (G (x::l) n a) λq=>q=rr->GW Tryz.prog r N0 (Q q) (gk k f (st n a) (wk Tryz.prog w0 az)))
 (hN:N0<=m:=by exact amV rfl) (ee:anD (VE m):=[]) (e0:qt m (wk Tryz.prog w0 az)=ee.map VE.x:=by kernel_rfl) (e:AY live m ks kn (wk Tryz.prog w0 az)=some (st 0 a0,cZ az):=by kernel_rfl):IE (G L 0 a0) λq=>q=rr->GW Tryz.prog r N0 (Q q) w0:=λv h q=>
 Bg aX k az live m ks kn (λz:Nat×anD α×A=>st z.1 z.2.2) (λz=>L.drop z.1=z.2.1/\G z.2.1 z.1 z.2.2=some rr) (λz=>z.2.1.length) (0,L,a0) ⟨rfl,q▸h⟩ (λz hz f hf=>by
  obtain⟨n,l,i⟩:=z;obtain⟨h1,h2⟩:=hz;rw[q];cases l with
  |nil=>exact nil n i h1 f rr h2 rfl
  |cons x l=>exact cons n x l i h1 f ⟨hf⟩ rr h2 rfl) hN ee e0 e
theorem gx0(k:Nat)(az:anD (anD (Nat×Ob Tryz.prog)))(live:anD Nat)(m:Nat)(ks:anD Nat)(kn:anD (Nat×Nat)){L:anD α}(st:Nat->St){G:anD α->Nat->anF R}
 (nil:∀n,L.drop n=[]->∀f:St->Prop,IE (G [] n) λq=>q=rr->GW Tryz.prog r N0 (Q q) (gk k f (st n) (wk Tryz.prog w0 az)))
 (cons:∀n x l,L.drop n=x::l->∀f:St->Prop,BX k live m ks kn L (λn(_:Unit)=>st n) (λl n _=>G l n) rr n x l () f->IE (G (x::l) n) λq=>q=rr->GW Tryz.prog r N0 (Q q) (gk k f (st n) (wk Tryz.prog w0 az)))
 (hN:N0<=m:=by exact amV rfl) (ee:anD (VE m):=[]) (e0:qt m (wk Tryz.prog w0 az)=ee.map VE.x:=by kernel_rfl) (e:AY live m ks kn (wk Tryz.prog w0 az)=some (st 0,cZ az):=by kernel_rfl):IE (G L 0) λq=>q=rr->GW Tryz.prog r N0 (Q q) w0:=
 XG k az live m ks kn (λn(_:Unit)=>st n) (G:=(λl n _=>G l n)) (a0:=()) (λn i=>nil n) (λn x l i=>cons n x l) hN ee e0 e
theorem gx2(k:Nat)(az:anD (anD (Nat×Ob Tryz.prog)))(live:anD Nat)(m:Nat)(ks:anD Nat)(kn:anD (Nat×Nat)){L:anD α}(st:Nat->A->B->St){G:anD α->Nat->A->B->anF R}{a0:A}{b0:B}
 (nil:∀n a b,L.drop n=[]->∀f:St->Prop,IE (G [] n a b) λq=>q=rr->GW Tryz.prog r N0 (Q q) (gk k f (st n a b) (wk Tryz.prog w0 az)))
 (cons:∀n x l a b,L.drop n=x::l->∀f:St->Prop,BX k live m ks kn L (λn(i:A×B)=>st n i.1 i.2) (λl n i=>G l n i.1 i.2) rr n x l (a,b) f->IE (G (x::l) n a b) λq=>q=rr->GW Tryz.prog r N0 (Q q) (gk k f (st n a b) (wk Tryz.prog w0 az)))
 (hN:N0<=m:=by exact amV rfl) (ee:anD (VE m):=[]) (e0:qt m (wk Tryz.prog w0 az)=ee.map VE.x:=by kernel_rfl) (e:AY live m ks kn (wk Tryz.prog w0 az)=some (st 0 a0 b0,cZ az):=by kernel_rfl):IE (G L 0 a0 b0) λq=>q=rr->GW Tryz.prog r N0 (Q q) w0:=
 XG k az live m ks kn (λn(i:A×B)=>st n i.1 i.2) (G:=(λl n i=>G l n i.1 i.2)) (a0:=(a0,b0)) (λn i=>nil n i.1 i.2) (λn x l i=>cons n x l i.1 i.2) hN ee e0 e
theorem SO{ι:Type}{live:anD Nat}{m k:Nat}{ks:anD Nat}{kn:anD (Nat×Nat)}{L:anD α}{st:Nat->ι->St}{G:anD α->Nat->ι->anF R}{n:Nat}{x:α}{l:anD α}{i:ι}{f:St->Prop}(hf:BX k live m ks kn L st G rr n x l i f)(j:ι)(az:anD (anD (Nat×Ob Tryz.prog)))(hd:L.drop n=x::l)(e1:jb k (wK w0)=[f]:=by kernel_rfl)(ee:anD (VE m):=[])(e0:qt m (wk Tryz.prog w0 az)=ee.map VE.x:=by kernel_rfl)(e:wO k live m ks kn (wk Tryz.prog w0 az)=some (st (n+1) j,cZ az):=by kernel_rfl):IE (G l (n+1) j) λq=>q=rr->GW Tryz.prog r N0 (Q q) w0:=λv h q=>
 Fq aX hf.h (n+1,l,j) az ⟨oc hd,q▸h⟩ (anB _) e1 ee e0 e
theorem aiq(k:Nat)(az:anD (anD (Nat×Ob Tryz.prog)))(live:anD Nat)(m:Nat)(ks:anD Nat)(kn:anD (Nat×Nat))(st:A->B->St)(G:Nat->A->B->anF R){d:Nat}{a0:A}{b0:B}
 (succ:∀d a b,∀f:St->Prop,YT k live m ks kn (λ(i:A×B)=>st i.1 i.2) (λd i=>G d i.1 i.2) rr d f->IE (G (d+1) a b) λq=>q=rr->GW Tryz.prog r N0 (Q q) (gk k f (st a b) (wk Tryz.prog w0 az))) (h0:∀a b,G 0 a b=none:=by intros;rfl)
 (hN:N0<=m:=by exact amV rfl) (ee:anD (VE m):=[]) (e0:qt m (wk Tryz.prog w0 az)=ee.map VE.x:=by kernel_rfl) (e:AY live m ks kn (wk Tryz.prog w0 az)=some (st a0 b0,cZ az):=by kernel_rfl):IE (G d a0 b0) λq=>q=rr->GW Tryz.prog r N0 (Q q) w0:=λv h q=>
 Bg aX k az live m ks kn (λz:Nat×(A×B)=>((λ(i:A×B)=>st i.1 i.2)) z.2) (λz=>((λd i=>G d i.1 i.2)) z.1 z.2=some rr) (λz=>z.1) (d,(a0,b0)) (q▸h) (λz hz f hf=>by
  obtain⟨d,i⟩:=z;rw[q];cases d with
  |zero=>exact absurd ((h0 i.1 i.2).symm.trans hz) (by simp)
  |succ d=>exact succ d i.1 i.2 f ⟨λj=>⟨λs' i' z0 z1 z2 z3=>hf.h s' i' z0 z1 z2 z3⟩⟩ rr hz rfl) hN ee e0 e
theorem abz{ι:Type}{live:anD Nat}{m k:Nat}{ks:anD Nat}{kn:anD (Nat×Nat)}{st:ι->St}{G:Nat->ι->anF R}{d:Nat}{f:St->Prop}(hf:YT k live m ks kn st G rr d f)(j:ι)(az:anD (anD (Nat×Ob Tryz.prog)))(e1:jb k (wK w0)=[f]:=by kernel_rfl)(ee:anD (VE m):=[])(e0:qt m (wk Tryz.prog w0 az)=ee.map VE.x:=by kernel_rfl)(e:wO k live m ks kn (wk Tryz.prog w0 az)=some (st j,cZ az):=by kernel_rfl):IE (G d j) λq=>q=rr->GW Tryz.prog r N0 (Q q) w0:=λv h q=>
 Fq aX (hf.h j) (d,j) az (q▸h) (anB _) e1 ee e0 e
theorem TW{o:anF R}(k:Nat)(az:anD (anD (Nat×Ob Tryz.prog)))(live:anD Nat)(m:Nat)(ks:anD Nat)(kn:anD (Nat×Nat))(st:A->St)(G:A->anF R)
 (br:∀f:St->Prop,Fv k live m ks kn st (λi=>G i=some rr) f->IE o λq=>q=rr->GW Tryz.prog r N0 (Q q) (rj k f (wk Tryz.prog w0 az)))
 (rest:∀a,IE (G a) λq=>q=rr->GW Tryz.prog r N0 (Q q) (qy (st a) (wk Tryz.prog w0 az))) (hN:N0<=m:=by exact amV rfl) (e:oy (wk Tryz.prog w0 az)=some (cZ az):=by kernel_rfl):IE o λq=>q=rr->GW Tryz.prog r N0 (Q q) w0:=λv h q=>
 Xu aX k az live m ks kn st (λi=>G i=some rr) (λf a=>br f a v h q) (λi hi=>q▸rest i rr hi rfl) hN e
theorem alv{o:anF R}(k:Nat)(az:anD (anD (Nat×Ob Tryz.prog)))(live:anD Nat)(m:Nat)(ks:anD Nat)(kn:anD (Nat×Nat))(st:A->B->St)(G:A->B->anF R)
 (br:∀f:St->Prop,Fv k live m ks kn (λ(i:A×B)=>st i.1 i.2) (λi=>G i.1 i.2=some rr) f->IE o λq=>q=rr->GW Tryz.prog r N0 (Q q) (rj k f (wk Tryz.prog w0 az)))
 (rest:∀a b,IE (G a b) λq=>q=rr->GW Tryz.prog r N0 (Q q) (qy (st a b) (wk Tryz.prog w0 az))) (hN:N0<=m:=by exact amV rfl) (e:oy (wk Tryz.prog w0 az)=some (cZ az):=by kernel_rfl):IE o λq=>q=rr->GW Tryz.prog r N0 (Q q) w0:=λv h q=>
 Xu aX k az live m ks kn (λ(i:A×B)=>st i.1 i.2) (λi=>G i.1 i.2=some rr) (λf a=>br f a v h q) (λi hi=>q▸rest i.1 i.2 rr hi rfl) hN e
theorem tU{ι:Type}{live:anD Nat}{m k:Nat}{ks:anD Nat}{kn:anD (Nat×Nat)}{st:ι->St}{G:ι->anF R}{f:St->Prop}(hf:Fv k live m ks kn st (λi=>G i=some rr) f)(i:ι)(az:anD (anD (Nat×Ob Tryz.prog)))(e1:jb k (wK w0)=[f]:=by kernel_rfl)(ee:anD (VE m):=[])(e0:qt m (wk Tryz.prog w0 az)=ee.map VE.x:=by kernel_rfl)(e:wO k live m ks kn (wk Tryz.prog w0 az)=some (st i,cZ az):=by kernel_rfl):IE (G i) λq=>q=rr->GW Tryz.prog r N0 (Q q) w0:=λv h q=>
 ah7 aX hf i az (q▸h) ee e0 e1 e
end
section
variable {P:anG} {r:anF Nat} {N0:Nat} {Q:Exit->St->Prop} {c:Code}
end
inductive OT(P:Program) where
 |nil
 |node (k:Nat) (az:List (Nat×Ob P)) (sub next:OT P)
def OT.ps{P:anG}:OT P->anD (In×bB)
 | .nil=>[]
 | .node _ az sub next=>iS az++(sub.ps++next.ps)
def OT.isNil{P:anG}:OT P->Bool
 | .nil=>true
 |_=>false
def pZ(C:anD Nat)(L:Nat)(r:anD Nat):anD Nat:=match w7 C L r with
 |some k=>[k]
 |none=>r
def I4{P:anG}(A C:anD Nat)(f:anD Nat->Nat->anD Nat->St->anF (anD Lf×anD (In×bB)))(ai7:Bool)(al:anD Nat)(s:St)(L:Nat):anF (anD Lf×anD (In×bB)):=
 match oI A L 0 with
 |[]=>bif ai7 then some ([(s,al,[])],[])else none
 |k0::r=>f (pZ C L (k0::r)) L al s
def su(P:anG)(ops:Array Oper)(A C:anD Nat):OT P->Nat->anD Nat->Nat->anD Nat->St->anF (anD Lf×anD (In×bB))
 | .nil,_,cs,_,_,_=>match cs with
   |[]=>some ([],[])
   |_=>none
 | .node k az sub next,fuel,cs,L,al,s=>match cs with
   |[]=>none
   |c::cs=>match fuel with
    |0=>none
    |f+1=>bif k==c then(match ops[k]? with
     |some o=>bif Cn o (ij (iD az) (3*k+1))then(match nc P ops false o k (iD az) s with
      |some (s1,l)=>match (fN (L|||(1<<<k)) λL1=>I4 (P:=P) A C (su P ops A C sub f) sub.isNil (al++List.replicate (s1.h.length-s.h.length) k) s1 L1)with
       |some (a,pa)=>match su P ops A C next (f+1) cs L al s with
        |some (b,pb)=>some (a++b,l++(pa++pb))
        |none=>none
       |none=>none
      |none=>none)else none
     |none=>none)else none
section
variable {P:anG} {ops:Array Oper} {K:St->Prop}
theorem SG(hK:q6 K)(hM:n9 (Region.before ops) ops=true){f L:Nat}{listed:Array Bool}{s:St}{k0:Nat}{r:anD Nat}(hL:LM ops L listed)(hD:Dn ops listed)(hr:oI (og ops 0 ops.size) L 0=k0::r)
 (h:∀k∈pZ (jQ ops true (Region.before ops) 0 ops.size) L (k0::r),∀o,ops[k]?=some o->∃y h1,l5 true P ops o s y h1/\j6 true P ops K f (listed.setIfInBounds k true) ((s.wh h1).put o.dst y)):j6 true P ops K (f+1) listed s:=by
 unfold pZ at h;cases hf:w7 (jQ ops true (Region.before ops) 0 ops.size) L (k0::r)with
 |some k=>
  rw[hf]at h;obtain⟨jc,ry⟩:=Fb hf;have ub:k∈Region.ready .any ops listed:=(hL.ready k).2 (by rw[hr];exact jc);have n5:k<ops.size:=by
    have:=(Cf _ 0 k).1 (by rw[hr];exact jc);obtain⟨_,_,a,ha,_⟩:=this;rw[Dy]at ha;split at ha
    ·next h=>omega
    ·cases ha
  obtain⟨y,hh,q1,q2⟩:=h k amT ops[k] (am9 n5);refine GC hK hM (am9 n5) f listed s hD (λj oj hj ck o8 rH=> ?_) ub q1 q2;have Dg:=(am2.1 hj).1;have My:Nat.testBit L j=false:=by
   rw[hL.b];have iy:j<listed.size:=by rw[hL.sz];exact Dg
   simpa [iy]using o8
  have nE:Nat.testBit (uM ops true (Region.before ops) k) j=false:=by
   rw[<-Bool.not_eq_true];intro hc;have h5:(jQ ops true (Region.before ops) 0 ops.size).getD k 0=uM ops true (Region.before ops) k:=by
     rw[List.getD_eq_getElem?_getD,NI,if_pos n5,am7];rfl
   rw[h5]at ry;have:=congrArg (λn=>Nat.testBit n j) ry;simp only[Nat.testBit_or,hc,My]at this;cases this
  unfold uM at nE;rw[A7]at nE;unfold NC at nE;rw[rH,am9 n5,hj]at nE;simp [Dg,ck]at nE;exact nE
 |none=>
  rw[hf]at h;have yI:k0∈Region.ready .any ops listed:=(hL.ready k0).2 (by rw[hr];simp);refine⟨λe=>(by rw[e]at yI;cases yI),λi hi oi Jb=> ?_⟩;exact h i (by rw[<-hr];exact(hL.ready i).1 hi) oi Jb
theorem aeF(hK:q6 K)(hM:n9 (Region.before ops) ops=true)(t0:anD (Nat×AV))(n0:Nat):
 ∀(t:OT P)(fuel:Nat)(cs:anD Nat)(L:Nat)(listed:Array Bool)(al:anD Nat)(s:St)(ls:anD Lf)(ps:anD (In×bB)),LM ops L listed->Dn ops listed->(∀c∈cs,c∈Region.ready .any ops listed)->su P ops (og ops 0 ops.size) (jQ ops true (Region.before ops) 0 ops.size) t fuel cs L al s=some (ls,ps)->fA P ps->(∃pre,s.t=pre++t0)->s.n=n0->
  (∀x∈ls,(∃pre,x.1.t=pre++t0)/\x.1.n=n0)/\((∀x∈ls,K x.1)->∀k∈cs,∀o,ops[k]?=some o->∃f,fuel=f+1/\∃y h1,l5 true P ops o s y h1/\j6 true P ops K f (listed.setIfInBounds k true) ((s.wh h1).put o.dst y)):=by
 intro t
 induction t with
 |nil=>
  intro fuel cs L listed al s ls ps hL hD hc h bA hp hn;cases cs with
  |nil=>
   simp only[su]at h;cases h
   exact⟨λx hx=>(by cases hx),λ_ k hk=>(by cases hk)⟩
  |cons=>simp [su]at h
 |node k az sub next ihs ihn=>
  intro fuel cs L listed al s ls ps hL hD hc h bA hp hn;cases cs with
  |nil=>simp [su]at h
  |cons c cs=>
   cases fuel with
   |zero=>simp [su]at h
   |succ f=>
    rw[su]at h;have h':=kF h;clear h;obtain⟨Y0,h⟩:=h';rw[beq_iff_eq]at Y0;subst Y0;split at h
    ·next o ho=>
     have h':=kF h;clear h;obtain⟨ajJ,h⟩:=h';split at h
     ·next s1 l hg=>
      rw[zX]at h;split at h
      ·next a pa ha=>
       split at h
       ·next b pb hb=>
        cases h
        have hl:fA P l:=λp hp=>bA p (List.mem_append_left _ hp);have hpa:fA P pa:=λp hp=>bA p (List.mem_append_right _ (List.mem_append_left _ hp));have hpb:fA P pb:=λp hp=>bA p (List.mem_append_right _ (List.mem_append_right _ hp));have ub:=hc k amT;have n5:=(am2.1 ho).1;obtain⟨DN,kD⟩:=ihn (f+1) cs L listed al s b pb hL hD (λc ff=>hc c (amW _ ff)) hb hpb hp hn;obtain⟨⟨p1,e1⟩,e2⟩:=Nn hg;have Xq:∃pre,s1.t=pre++t0:=by
         obtain⟨pre,e⟩:=hp;exact⟨p1++pre,by rw[e1,e,am4]⟩
        have Wr:s1.n=n0:=e2.trans hn;have A2:=hL.set n5;have zQ:=hD.set ub;have tA:(∀x∈a,(∃pre,x.1.t=pre++t0)/\x.1.n=n0)/\((∀x∈a,K x.1)->j6 true P ops K f (listed.setIfInBounds k true) s1):=by
         unfold I4 at ha;split at ha
         ·next hr=>
          obtain⟨_,ha⟩:=kF ha;cases ha
          have E1:Region.ready .any ops (listed.setIfInBounds k true)=[]:=by
           rw[List.eq_nil_iff_forall_not_mem];intro i hi;have:=(A2.ready i).1 hi;rw[hr]at this;cases this
          refine⟨λx hx=>by rw[List.mem_singleton]at hx;subst hx;exact⟨Xq,Wr⟩,λhk=> ?_⟩;have jc:=hk _ amT;cases f with
          |zero=>exact⟨E1,jc⟩
          |succ f=>exact⟨λ_=>jc,λi hi=>by rw[E1]at hi;cases hi⟩
         ·next k1 r hr=>
          have B7:∀c∈pZ (jQ ops true (Region.before ops) 0 ops.size) (L|||(1<<<k)) (k1::r),c∈Region.ready .any ops (listed.setIfInBounds k true):=by
           intro c ff;rw[A2.ready,hr];unfold pZ at ff;split at ff
           ·next q hf=>
            rw[List.mem_singleton]at ff;subst ff;exact(Fb hf).1
           ·exact ff
          obtain⟨q1,q2⟩:=ihs f _ _ _ _ s1 a pa A2 zQ B7 ha hpa Xq Wr;refine⟨q1,λhk=> ?_⟩;have ck:∃c,c∈pZ (jQ ops true (Region.before ops) 0 ops.size) (L|||(1<<<k)) (k1::r):=by
           unfold pZ;split
           ·exact⟨_,amT⟩
           ·exact⟨_,amT⟩
          obtain⟨c0,BZ⟩:=ck;have P0:c0<ops.size:=by
           have:=(Cf _ 0 c0).1 ((A2.ready c0).1 (B7 c0 BZ));obtain⟨_,_,z,hz,_⟩:=this;rw[Dy]at hz;split at hz
           ·next h=>omega
           ·cases hz
          obtain⟨g,rfl,_⟩:=q2 hk c0 BZ ops[c0] (am9 P0);refine SG hK hM A2 zQ hr λk' eW o' gN=> ?_;obtain⟨g',e,y,h1,h2,h3⟩:=q2 hk k' eW o' gN;cases e
          exact⟨y,h1,h2,h3⟩
        refine⟨λx hx=>(anq.1 hx).elim (tA.1 x) (DN x),λhk k' eW o' gN=> ?_⟩;rcases ani.1 eW with rfl|eW
        ·rw[ho]at gN;cases gN;have h4:=SV (K:=(·=s1)) hg hl rfl ajJ;have h5:=tA.2 λx hx=>hk x (List.mem_append_left _ hx);rcases Jl h4 with⟨g,hd⟩|⟨g,hd⟩
         ·obtain⟨y,h1,h2,h3⟩:=Hi hd;exact⟨f,rfl,y,h1, .inl ⟨g,h2⟩,by rw[h3];exact h5⟩
         ·exact⟨f,rfl,_,s.h, .inr ⟨g,rfl,rfl⟩,by
           have e:(s.wh s.h).put o.dst (.d (.v undef))=s1:=hd;rw[e];exact h5⟩
        ·exact kD (λx hx=>hk x (List.mem_append_right _ hx)) k' eW o' gN
       ·cases h
      ·cases h
     ·cases h
    ·cases h
end
def NN(P:anG)(ol:anD Oper)(t:OT P)(keep:anD Nat)(s:St):anF (anD (anD (Nat×AV)×anD ao×anD (In×bB))×anD (In×bB)):=
 bif n9 (Region.before ol.toArray) ol.toArray then fL (og ol.toArray 0 ol.toArray.size) λA=>fL (jQ ol.toArray true (Region.before ol.toArray) 0 ol.toArray.size) λC=>
  match I4 (P:=P) A C (su P ol.toArray A C t ol.toArray.size) t.isNil [] s 0 with
  |some (ls,ps)=>match FA keep s ls with
   |some r=>some (r,ps)
   |none=>none
  |none=>none
 else none
theorem aa9{P:anG}{ol:anD Oper}{t:OT P}{keep:anD Nat}{s:St}{Δ:anD (Nat×AV)}{h':anD ao}{m N0:Nat}{K:St->Prop}(h:NN P ol t keep s=some (List.replicate m (Δ,h',[]),t.ps))(bA:fA P t.ps)(hN:N0<=s.h.length)(ng:∀i,(aY s.t i).aH s.h.length=true)(hK:BJ N0 K)(hk:K ⟨s.n,Δ++s.t,h'⟩):
 j6 true P ol.toArray K ol.toArray.size (Array.replicate ol.toArray.size false) s:=by
 unfold NN at h;obtain⟨hM,h⟩:=kF h;rw[xG,xG]at h;split at h
 ·next ls ps e1=>
  split at h
  ·next r L9=>
   cases h
   have hL:LM ol.toArray 0 (Array.replicate ol.toArray.size false):=⟨by simp,λi=>by
    rw[Nat.zero_testBit,Array.getD_eq_getD_getElem?,Array.getElem?_replicate];split<;>rfl⟩
   have hD:Dn ol.toArray (Array.replicate ol.toArray.size false):=λj o ho hj=>by
    exfalso;rw[Array.getD_eq_getD_getElem?]at hj;rw[Array.getElem?_replicate]at hj;split at hj<;>simp at hj
   have leaf:∀x∈ls,((∃pre,x.1.t=pre++s.t)/\x.1.n=s.n)->K x.1:=λx hx hb=>by
    obtain⟨a,ha,e2⟩:=MN L9 x hx;rw[List.mem_replicate]at ha;obtain⟨_,rfl⟩:=ha;obtain⟨k1,_⟩:=Zh (P:=P) (ops:=ol.toArray) e2 hN ng hb.2 hb.1 (λp hp=>by cases hp);exact hK _ _ k1 hk
   unfold I4 at e1;split at e1
   ·next hr=>
    obtain⟨_,e1⟩:=kF e1;have e3:=Prod.mk.inj (am6 e1);obtain⟨e3,_⟩:=e3;subst e3;have E1:Region.ready .any ol.toArray (Array.replicate ol.toArray.size false)=[]:=by
     rw[List.eq_nil_iff_forall_not_mem];intro i hi;have:=(hL.ready i).1 hi;rw[hr]at this;cases this
    have jc:=leaf _ amT ⟨⟨[],rfl⟩,rfl⟩;generalize hf:ol.toArray.size=f at*;cases f with
    |zero=>exact⟨E1,jc⟩
    |succ f=>exact⟨λ_=>jc,λi hi=>by rw[E1]at hi;cases hi⟩
   ·next k1 r' hr=>
    have B7:∀c∈pZ (jQ ol.toArray true (Region.before ol.toArray) 0 ol.toArray.size) 0 (k1::r'),c∈Region.ready .any ol.toArray (Array.replicate ol.toArray.size false):=by
     intro c ff;rw[hL.ready,hr];unfold pZ at ff;split at ff
     ·next q hf=>
      rw[List.mem_singleton]at ff;subst ff;exact(Fb hf).1
     ·exact ff
    obtain⟨q1,q2⟩:=aeF (K:=K) hK.c hM s.t s.n t _ _ _ _ _ s ls _ hL hD B7 e1 bA ⟨[],rfl⟩ rfl;have q3:=q2 λx hx=>leaf x hx (q1 x hx);have ck:∃c,c∈pZ (jQ ol.toArray true (Region.before ol.toArray) 0 ol.toArray.size) 0 (k1::r'):=by
     unfold pZ;split
     ·exact⟨_,amT⟩
     ·exact⟨_,amT⟩
    obtain⟨c0,BZ⟩:=ck;have P0:c0<ol.toArray.size:=by
     have:=(Cf _ 0 c0).1 ((hL.ready c0).1 (B7 c0 BZ));obtain⟨_,_,z,hz,_⟩:=this;rw[Dy]at hz;split at hz
     ·next h=>omega
     ·cases hz
    obtain⟨g,eg,_⟩:=q3 c0 BZ ol.toArray[c0] (am9 P0);have L9:=SG (P:=P) (f:=g) (s:=s) (K:=K) hK.c hM hL hD hr λk' eW o' gN=>by
     obtain⟨g',e,y,h1,h2,h3⟩:=q3 k' eW o' gN;rw[eg]at e;cases e
     exact⟨y,h1,h2,h3⟩
    exact(congrArg (λn=>j6 true P ol.toArray K n (Array.replicate ol.toArray.size false) s) eg).mpr L9
  ·cases h
 ·cases h
theorem N7{P:anG}:∀t:OT P,fA P t.ps
 | .nil=>λp hp=>by cases hp
 | .node _ az sub next=>λp hp=>by
   unfold OT.ps at hp;rcases anq.1 hp with hp|hp
   ·exact ru az p hp
   ·rcases anq.1 hp with hp|hp
    ·exact N7 sub p hp
    ·exact N7 next p hp
section
variable {P:anG} {r:anF Nat} {N0 id n:Nat} {ol:anD Oper} {y:Code} {t:anD (Nat×AV)} {h:anD ao} {Q Q':Exit->St->Prop}
theorem ro(m:Nat)(hm:P.follows .mixedOrders=true)(T:OT P)(Δ:anD (Nat×AV))(h':anD ao)(e:NN P ol T (Δ.map (·.1)) ⟨n,t,h⟩=some (List.replicate m (Δ,h',[]),T.ps))(k:bj P r N0 y Q' ⟨n,Δ++t,h'⟩):bj P r N0 (.region id ol.toArray true) (ig (λs=>bj P r N0 y Q' s) Q) ⟨n,t,h⟩:=
 Om (m:=true) hm λhN ng=>aa9 e (N7 T) hN ng (Rp _) ⟨_,iN.refl _ _,k⟩
end
set_option maxRecDepth 100000
set_option maxHeartbeats 0
def gz(a b:Int)(neg:Bool)(how:Int):Bool:=
 let q:=IntKind.u64.wrap (a.tdiv b);let r:=a.tmod b
 (r==0||how==3)||((how==1&& !neg)||(how==2&&neg))||(how==4&&(decide (IntKind.u64.wrap (2*r)<b)||(IntKind.u64.wrap (2*r)==b&&q.tmod 2==0)))
def sG(a b:Int)(neg:Bool)(how:Int):Int:=bif gz a b neg how then IntKind.u64.wrap (a.tdiv b)else IntKind.u64.wrap (IntKind.u64.wrap (a.tdiv b)+1)
end Go.Proofs.YtfdhojiehjfghaaGreatDoor
