/-
  Part 8 of the proof: AbsWs, AbsDl, Cmp, RndD.
-/
import Derived.Test.YtpgmcallngdceaaGreatDoorSe7
import Derived.WalkKit
import Derived.Lib.Bytealg
namespace Go.Proofs.YtpgmcallngdceaaGreatDoor
open Go.RowKit
set_option linter.unusedSimpArgs false
set_option linter.unusedVariables false
structure DL{α:Type}(f:List α→List (List D))(k:Nat):Prop where
 len:∀l,(f l).length=l.length
 all:∀l,∀c∈f l,c.length=k
 app:∀a b,f a++f b=f (a++b)
section
variable {P:ak6} {α:Type} {f:ak3 α→ak3 (ak3 D)} {k ct:Nat}
theorem UW{n:Nat}(hb:0<ct)(h:Nat.ble (n*ct) 140737488355328=true):n≤maxLen∧n*ct≤140737488355328:=by
 have h1:=akn h;have h2:n*1≤n*ct:=Nat.mul_le_mul_left n hb;refine⟨?_,h1⟩;unfold maxLen;omega
def oA(F:DL f k)(A B:ak3 α)(h:Nat.ble ((A.length+B.length)*ct) 140737488355328=true)(hb:0<ct:=by decide):Ob P:=
 ⟨_,_, .app (xs:=f A) (ys:=f B) (zs:=f (A++B)) (len:=A.length) (n:=(A++B).length) (F.len A).symm (F.all A) (F.all B) (by rw[F.len,F.len];exact(UW hb h).1) (by rw[F.len,F.len];exact(UW hb h).2) (F.app A B) (by rw[F.len,F.len,akg])⟩
end
section
variable {P:ak6} {f:FuncId} {dF:ak3 AV} {H H':ak3 aq} {r:AV}
def oQ(lC:ak3 AV)(h:ak3 aq)(l:ak3 Nat)(hc:bQ P f dF H fun r1 h1=>r1=r∧h1=H)(ha:lC=dF.map (AV.aP (rn l 0)):=by kernel_rfl)(hd:nN l=true:=by kernel_rfl)(hb:l.map (fun j=>h[j]?)=H.map (fun B=>some (B.aP (rn l 0))):=by kernel_rfl)(hl:(dF.all (AV.aT H.length)&&H.all (aq.aT H.length)&&r.aT H.length)=true:=by kernel_rfl):Ob P:=⟨_,_, .rq ha hd hb hl hc⟩
def oR(lC:ak3 AV)(h:ak3 aq)(l:ak3 Nat)(hc:bQ P f dF H fun r1 h1=>r1=r∧h1=H')(ha:lC=dF.map (AV.aP (rn l h.length)):=by kernel_rfl)(hd:nN l=true:=by kernel_rfl)(hb:l.map (fun j=>h[j]?)=H.map (fun B=>some (B.aP (rn l h.length))):=by kernel_rfl)(hl:(dF.all (AV.aT H.length)&&H.all (aq.aT H.length))=true:=by kernel_rfl):Ob P:=⟨_,_, .lX ha hd hb hl hc⟩
def oX(mX:VD H)(hv:VD H')(lC:ak3 AV)(h:ak3 aq)(l:ak3 Nat)(hc:bQ P f dF H fun r1 h1=>r1=r∧h1=H')(ha:lC=dF.map (AV.aP (rn l h.length)):=by kernel_rfl)(hd:nN l=true:=by kernel_rfl)(hb:l.map (fun j=>h[j]?)=H.map (fun B=>some (B.pE (rn l h.length))):=by kernel_rfl)(hl:(dF.all (AV.aT H.length)&&H.all (aq.tQ H.length))=true:=by kernel_rfl):Ob P:=⟨_,_, .WY mX hv ha hd hb hl hc⟩
end
section
variable {P:ak6} {r:ak5 Nat} {N0:Nat} {Q:Exit→St→Prop} {w0:WO}
theorem fP{α:Type}{f:ak3 α→ak3 (ak3 D)}{z:Nat}(F:DL f z)(k:Nat)(l:ak3 α)(h:l.length≤maxLen→GW P r N0 Q w0)(hx:(bB (wS w0).t k).er=some (f l):=by kernel_rfl):GW P r N0 Q w0:=
 ahG k (f l) hx fun e=>h (Kx (F.len l) e)
theorem kh{α:Type}{f:ak3 α→ak3 (ak3 D)}{z:Nat}(F:DL f z)(b i:Nat)(l:ak3 α)(h:l.length≤maxLen→GW P r N0 Q w0)(hx:(((wS w0).h[b]?).bind fun B=>match B with| .cells cs=>(cs[i]?).bind AV.er|_=>none)=some (f l):=by kernel_rfl):GW P r N0 Q w0:=
 OJ b i (f l) hx fun e=>h (Kx (F.len l) e)
structure CQ{α ι R:Type}(k:Nat)(live:List Nat)(m:Nat)(L:List α)(st:Nat→ι→St)(G:List α→Nat→ι→Option R)(rr:R)(n:Nat)(x:α)(l:List α)(i:ι)(f:St→Prop):Prop where
 h:I1 k live m (fun z:Nat×List α×ι=>st z.1 z.2.2) (fun z=>L.drop z.1=z.2.1∧G z.2.1 z.1 z.2.2=some rr) (fun z=>z.2.1.length) (n,x::l,i) f
structure Db{ι R:Type}(k:Nat)(live:List Nat)(m:Nat)(st:ι→St)(G:Nat→ι→Option R)(rr:R)(d:Nat)(f:St→Prop):Prop where
 h:∀i,I1 k live m (fun z:Nat×ι=>st z.2) (fun z=>G z.1 z.2=some rr) (fun z=>z.1) (d+1,i) f
theorem UN(hm:P.follows .mixedOrders=true){α ι R:Type}{rr:R}(k:Nat)(aW:ak3 (ak3 (Nat×Ob P)))(live:ak3 Nat)(m:Nat)(L:ak3 α)(st:Nat→ι→St)(G:ak3 α→Nat→ι→ak5 R)(i0:ι)(hI:G L 0 i0=some rr)
 (nil:∀n i,L.drop n=[]→G [] n i=some rr→∀f:St→Prop,GW P r N0 Q (og k f (st n i) (wk P w0 aW)))
 (cons:∀n x l i,L.drop n=x::l→G (x::l) n i=some rr→∀f:St→Prop,CQ k live m L st G rr n x l i f→GW P r N0 Q (og k f (st n i) (wk P w0 aW)))
 (hN:N0≤m) (e:tG live m (wk P w0 aW)=some (st 0 i0,fp aW)):GW P r N0 Q w0:=by
 refine Om hm k aW live m (fun z:Nat×ak3 α×ι=>st z.1 z.2.2) (fun z=>L.drop z.1=z.2.1∧G z.2.1 z.1 z.2.2=some rr) (fun z=>z.2.1.length) (0,L,i0) ⟨rfl,hI⟩ (fun z hz f hf=> ?_) hN e;obtain⟨n,l,i⟩:=z;obtain⟨h1,h2⟩:=hz;cases l with
 |nil=>exact nil n i h1 h2 f
 |cons x l=>exact cons n x l i h1 h2 f ⟨hf⟩
theorem agx(hm:P.follows .mixedOrders=true){α ι R:Type}{rr:R}{live:ak3 Nat}{m k:Nat}{L:ak3 α}{st:Nat→ι→St}{G:ak3 α→Nat→ι→ak5 R}{n:Nat}{x:α}{l:ak3 α}{i:ι}{f:St→Prop}(hf:CQ k live m L st G rr n x l i f)(j:ι)(aW:ak3 (ak3 (Nat×Ob P)))(hd:L.drop n=x::l)(hI:G l (n+1) j=some rr)(e1:kM k (wK w0)=[f])(e:ud k live m (wk P w0 aW)=some (st (n+1) j,fp aW)):GW P r N0 Q w0:=
 B4 hm hf.h (n+1,l,j) aW ⟨jN hd,hI⟩ (ak1 _) e1 e
theorem Qm(hm:P.follows .mixedOrders=true){ι R:Type}{rr:R}(k:Nat)(aW:ak3 (ak3 (Nat×Ob P)))(live:ak3 Nat)(m:Nat)(st:ι→St)(G:Nat→ι→ak5 R)(d:Nat)(i0:ι)(hI:G d i0=some rr)(h0:∀i,G 0 i=none)
 (succ:∀d i,G (d+1) i=some rr→∀f:St→Prop,Db k live m st G rr d f→GW P r N0 Q (og k f (st i) (wk P w0 aW)))
 (hN:N0≤m) (e:tG live m (wk P w0 aW)=some (st i0,fp aW)):GW P r N0 Q w0:=by
 refine Om hm k aW live m (fun z:Nat×ι=>st z.2) (fun z=>G z.1 z.2=some rr) (fun z=>z.1) (d,i0) hI (fun z hz f hf=> ?_) hN e;obtain⟨d,i⟩:=z;cases d with
 |zero=>exact absurd ((h0 i).symm.trans hz) (by simp)
 |succ d=>exact succ d i hz f ⟨fun j=>⟨fun s' i' h1 h2 h3=>hf.h s' i' h1 h2 h3⟩⟩
theorem ajR(hm:P.follows .mixedOrders=true){ι R:Type}{rr:R}{live:ak3 Nat}{m k:Nat}{st:ι→St}{G:Nat→ι→ak5 R}{d:Nat}{f:St→Prop}(hf:Db k live m st G rr d f)(j:ι)(aW:ak3 (ak3 (Nat×Ob P)))(hI:G d j=some rr)(e1:kM k (wK w0)=[f])(e:ud k live m (wk P w0 aW)=some (st j,fp aW)):GW P r N0 Q w0:=
 B4 hm (hf.h j) (d,j) aW hI (ak1 _) e1 e
theorem aR{P:ak6}{f:FuncId}{fn:Func}{args:ak3 AV}{R:AV}(hf:P.funcs[f]?=some fn)(hw:GW P none 0 (yS P fn R) (G9 fn args []))(hb:fn.body.isSome=true:=by kernel_rfl)(hn:(fn.name== "runtime.NumGoroutine")=false:=by kernel_rfl):aG P f args (·=R):=XU hf hb hn hw
theorem eE{P:ak6}{f:FuncId}{fn:Func}{args:ak3 AV}{h H:ak3 aq}{R:AV}(m:Nat)(hf:P.funcs[f]?=some fn)(hw:GW P none h.length (zQ P fn m R H) (G9 fn args h))(hb:fn.body.isSome=true:=by kernel_rfl)(hn:(fn.name== "runtime.NumGoroutine")=false:=by kernel_rfl)(hm:h.length≤m:=by exact akn rfl):bQ P f args h fun r1 h1=>r1=R∧h1=H:=abE m hf hb hn hm hw
variable {α A B C D' R:Type} {rr:R}
theorem fJ(hm:P.follows .mixedOrders=true)(k:Nat)(aW:ak3 (ak3 (Nat×Ob P)))(live:ak3 Nat)(m:Nat)(L:ak3 α)(st:Nat→St)(G:ak3 α→Nat→ak5 R)(hI:G L 0=some rr)
 (nil:∀n,L.drop n=[]→G [] n=some rr→∀f:St→Prop,GW P r N0 Q (og k f (st n) (wk P w0 aW)))
 (cons:∀n x l,L.drop n=x::l→G (x::l) n=some rr→∀f:St→Prop,CQ k live m L (fun n(_:Unit)=>st n) (fun l n _=>G l n) rr n x l () f→GW P r N0 Q (og k f (st n) (wk P w0 aW)))
 (hN:N0≤m:=by exact akn rfl) (e:tG live m (wk P w0 aW)=some (st 0,fp aW):=by kernel_rfl):GW P r N0 Q w0:=
 UN hm k aW live m L (fun n(_:Unit)=>st n) (fun l n _=>G l n) () hI (fun n _=>nil n) (fun n x l _=>cons n x l) hN e
theorem qX(hm:P.follows .mixedOrders=true)(k:Nat)(aW:ak3 (ak3 (Nat×Ob P)))(live:ak3 Nat)(m:Nat)(L:ak3 α)(st:Nat→A→St)(G:ak3 α→Nat→A→ak5 R)(a0:A)(hI:G L 0 a0=some rr)
 (nil:∀n a,L.drop n=[]→G [] n a=some rr→∀f:St→Prop,GW P r N0 Q (og k f (st n a) (wk P w0 aW)))
 (cons:∀n x l a,L.drop n=x::l→G (x::l) n a=some rr→∀f:St→Prop,CQ k live m L st G rr n x l a f→GW P r N0 Q (og k f (st n a) (wk P w0 aW)))
 (hN:N0≤m:=by exact akn rfl) (e:tG live m (wk P w0 aW)=some (st 0 a0,fp aW):=by kernel_rfl):GW P r N0 Q w0:=
 UN hm k aW live m L st G a0 hI nil cons hN e
theorem wb(hm:P.follows .mixedOrders=true){ι:Type}{live:ak3 Nat}{m k:Nat}{L:ak3 α}{st:Nat→ι→St}{G:ak3 α→Nat→ι→ak5 R}{n:Nat}{x:α}{l:ak3 α}{i:ι}{f:St→Prop}(hf:CQ k live m L st G rr n x l i f)(j:ι)(aW:ak3 (ak3 (Nat×Ob P)))(hd:L.drop n=x::l)(hI:G l (n+1) j=some rr)(e1:kM k (wK w0)=[f]:=by kernel_rfl)(e:ud k live m (wk P w0 aW)=some (st (n+1) j,fp aW):=by kernel_rfl):GW P r N0 Q w0:=agx hm hf j aW hd hI e1 e
theorem KF(hm:P.follows .mixedOrders=true)(k:Nat)(aW:ak3 (ak3 (Nat×Ob P)))(live:ak3 Nat)(m:Nat)(st:A→St)(G:Nat→A→ak5 R)(d:Nat)(a0:A)(hI:G d a0=some rr)
 (succ:∀d a,G (d+1) a=some rr→∀f:St→Prop,Db k live m st G rr d f→GW P r N0 Q (og k f (st a) (wk P w0 aW))) (h0:∀a,G 0 a=none:=by intros;rfl)
 (hN:N0≤m:=by exact akn rfl) (e:tG live m (wk P w0 aW)=some (st a0,fp aW):=by kernel_rfl):GW P r N0 Q w0:=
 Qm hm k aW live m st G d a0 hI h0 succ hN e
theorem OP(hm:P.follows .mixedOrders=true)(k:Nat)(aW:ak3 (ak3 (Nat×Ob P)))(live:ak3 Nat)(m:Nat)(st:A→B→St)(G:Nat→A→B→ak5 R)(d:Nat)(a0:A)(b0:B)(hI:G d a0 b0=some rr)
 (succ:∀d a b,G (d+1) a b=some rr→∀f:St→Prop,Db k live m (fun(i:A×B)=>st i.1 i.2) (fun d i=>G d i.1 i.2) rr d f→GW P r N0 Q (og k f (st a b) (wk P w0 aW))) (h0:∀a b,G 0 a b=none:=by intros;rfl)
 (hN:N0≤m:=by exact akn rfl) (e:tG live m (wk P w0 aW)=some (st a0 b0,fp aW):=by kernel_rfl):GW P r N0 Q w0:=
 Qm hm k aW live m (fun(i:A×B)=>st i.1 i.2) (fun d i=>G d i.1 i.2) d (a0,b0) hI (fun i=>h0 i.1 i.2) (fun d i=>succ d i.1 i.2) hN e
theorem AE(hm:P.follows .mixedOrders=true){ι:Type}{live:ak3 Nat}{m k:Nat}{st:ι→St}{G:Nat→ι→ak5 R}{d:Nat}{f:St→Prop}(hf:Db k live m st G rr d f)(j:ι)(aW:ak3 (ak3 (Nat×Ob P)))(hI:G d j=some rr)(e1:kM k (wK w0)=[f]:=by kernel_rfl)(e:ud k live m (wk P w0 aW)=some (st j,fp aW):=by kernel_rfl):GW P r N0 Q w0:=ajR hm hf j aW hI e1 e
def ye(g:Nat)(t:ak5 Nat):ak3 Oper→Nat→ak3 Nat
 |[],_=>[]
 |o::l,j=>match o.guard with
  |some (g',_)=>bif g'==g then(3*j)::ye g t l (j+1)else ye g t l (j+1)
  |none=>match o.op,t with
   | .pick (.tmp c) _ _,some t'=>bif c==t' then(3*j+1)::ye g t l (j+1)else ye g t l (j+1)
   |_,_=>ye g t l (j+1)
def adO(l:ak3 Oper)(g:Nat):ak5 Nat:=match l[g]? with
 |some o=>o.dst
 |none=>none
def F6:WO→ak3 Oper
 |some (.at (.region _ ops _) _ _,_)=>ops.toList
 |_=>[]
noncomputable def HM(ops:ak3 Oper)(sp si:ak3 (Nat×Ob P)):ak3 (Nat×Ob P):=so (sp.foldr (fun x t=>os (ye x.1 (adO ops x.1) ops 0) x.2 t) si)
theorem bf(hm:P.follows .mixedOrders=true)(Δ:ak3 (Nat×AV))(h':ak3 aq)(e:∃sp si:ak3 (Nat×Ob P),Ow P (Δ.map (·.1)) (kg (HM (F6 (wk P w0 [])) sp si)) (wk P w0 [])=some (Δ,h',jC (HM (F6 (wk P w0 [])) sp si)))(k:GW P r N0 Q (tc Δ h' (wk P w0 [])))(e0:vB (wk P w0 [])=some []:=by kernel_rfl):GW P r N0 Q w0:=
 Za hm Δ h' (let ⟨_,_,h⟩:=e;⟨_,h⟩) k e0
theorem Gt(m:Nat)(hm:P.follows .mixedOrders=true)(Δ:ak3 (Nat×AV))(h':ak3 aq)(e:∃sp si:ak3 (Nat×Ob P),Oz P (Δ.map (·.1)) (kg (HM (F6 (wk P w0 [])) sp si)) (wk P w0 [])=some (List.replicate m (Δ,h',jC (HM (F6 (wk P w0 [])) sp si))))(k:GW P r N0 Q (tc Δ h' (wk P w0 [])))(e0:vB (wk P w0 [])=some []:=by kernel_rfl):GW P r N0 Q w0:=
 mq m hm Δ h' (let ⟨_,_,h⟩:=e;⟨_,h⟩) k e0
theorem Xb(hm:P.follows .mixedOrders=true)(rr:R)(k:Nat)(aW:ak3 (ak3 (Nat×Ob P)))(live:ak3 Nat)(m:Nat)(st:St)(G:ak5 R)
 (br:∀f:St→Prop,Cr k live m (fun(_:Unit)=>st) (fun _=>G=some rr) f→GW P r N0 Q (Bv k f (wk P w0 aW)))
 (rest:G=some rr→GW P r N0 Q (EK st (wk P w0 aW))) (hN:N0≤m:=by exact akn rfl) (e:uQ (wk P w0 aW)=some (fp aW):=by kernel_rfl):GW P r N0 Q w0:=
 Jl hm k aW live m (fun(_:Unit)=>st) (fun _=>G=some rr) br (fun _=>rest) hN e
theorem gY(hm:P.follows .mixedOrders=true)(rr:R)(k:Nat)(aW:ak3 (ak3 (Nat×Ob P)))(live:ak3 Nat)(m:Nat)(st:A→St)(G:A→ak5 R)
 (br:∀f:St→Prop,Cr k live m st (fun a=>G a=some rr) f→GW P r N0 Q (Bv k f (wk P w0 aW)))
 (rest:∀a,G a=some rr→GW P r N0 Q (EK (st a) (wk P w0 aW))) (hN:N0≤m:=by exact akn rfl) (e:uQ (wk P w0 aW)=some (fp aW):=by kernel_rfl):GW P r N0 Q w0:=
 Jl hm k aW live m st (fun a=>G a=some rr) br rest hN e
theorem mc(hm:P.follows .mixedOrders=true)(rr:R)(k:Nat)(aW:ak3 (ak3 (Nat×Ob P)))(live:ak3 Nat)(m:Nat)(st:A→B→St)(G:A→B→ak5 R)
 (br:∀f:St→Prop,Cr k live m (fun(i:A×B)=>st i.1 i.2) (fun i=>G i.1 i.2=some rr) f→GW P r N0 Q (Bv k f (wk P w0 aW)))
 (rest:∀a b,G a b=some rr→GW P r N0 Q (EK (st a b) (wk P w0 aW))) (hN:N0≤m:=by exact akn rfl) (e:uQ (wk P w0 aW)=some (fp aW):=by kernel_rfl):GW P r N0 Q w0:=
 Jl hm k aW live m (fun(i:A×B)=>st i.1 i.2) (fun i=>G i.1 i.2=some rr) br (fun i=>rest i.1 i.2) hN e
theorem Ue{α:Type}{f:α→ak3 D}{E:ak3 α}{h:ak3 aq}{k ct:Nat}{y:AV}(hk:∀c∈E.map f,c.length=k)(hy:y.er=some (E.map f))(hm:E.length≤maxLen)(hb:E.length*ct≤140737488355328):
 ([]:ak3 (ak3 D))=[]∧vU h k y (bq (E.map f))∧bq (E.map f)=bq (E.map f)∧E.length=(bq (E.map f)).length∧E.length=(bq (E.map f)).length∧E.length≤maxLen∧E.length*ct≤140737488355328:=
 have hl:E.length=(bq (E.map f)).length:=by rw[Fv,akk]
 ⟨rfl, .inl ⟨_,hy,hk,rfl⟩,rfl,hl,hl,hm,hb⟩
def tr(i j n:Nat):Nat:=bif n==i then j else bif n==j then i else n
theorem QD(i j n:Nat):tr i j (tr i j n)=n:=by
 unfold tr;cases h1:n==i with
 |true=>
  rw[beq_iff_eq]at h1;subst h1;simp only[cond_true];cases h2:j==n with
  |true=>rw[beq_iff_eq]at h2;subst h2;rfl
  |false=>rw[akY];rfl
 |false=>
  simp only[cond_false];cases h2:n==j with
  |true=>rw[beq_iff_eq]at h2;subst h2;simp only[cond_true];rw[akY];rfl
  |false=>simp only[cond_false];rw[h1,h2];rfl
theorem T0{i j n k:Nat}(hi:i<k)(hj:j<k)(hn:n<k):tr i j n<k:=by
 unfold tr;cases n==i with
 |true=>exact hj
 |false=>cases n==j with
  |true=>exact hi
  |false=>exact hn
def My(i j:Nat)(h:ak3 aq):ak3 aq:=match h[i]?,h[j]? with
 |some a,some b=>((h.set i b).set j a).map (aq.aP (tr i j))
 |_,_=>h
def Nb(i j:Nat)(s:St):St:=⟨s.n,s.t.map (fun p=>(p.1,p.2.aP (tr i j))),My i j s.h⟩
theorem UJ(f:AV→AV)(hf:f .dead= .dead):∀(t:ak3 (Nat×AV))(i:Nat),bB (t.map fun p=>(p.1,f p.2)) i=f (bB t i)
 |[],i=>by rw[List.map_nil];show AV.dead=f .dead;rw[hf]
 |(k,x)::t,i=>by
  rw[akE,kN,kN,UJ f hf t i];by_cases h:i=k
  ·rw[if_pos h,if_pos h]
  ·rw[if_neg h,if_neg h]
theorem aiY{i j:Nat}{s:St}(hi:i<s.h.length)(hj:j<s.h.length)(Sn:N0≤i)(Sp:N0≤j):gp N0 s (Nb i j s):=by
 have ei:s.h[i]?=some s.h[i]:=akj hi;have ej:s.h[j]?=some s.h[j]:=akj hj;have eh:(Nb i j s).h=((s.h.set i s.h[j]).set j s.h[i]).map (aq.aP (tr i j)):=by
  show My i j s.h=_;unfold My;rw[ei,ej]
 refine gp.aP (tr i j) (tr i j) rfl (by rw[eh];simp) (fun n hn=>T0 hi hj hn) (fun n hn=>T0 hi hj hn) (fun n _=>QD i j n) (fun n _=>QD i j n) (fun n hn=> ?_) (fun n _=> .inl ?_) fun n hn=> ?_
 ·unfold tr;rw[show(n==i)=false from beq_eq_false_iff_ne.2 (by omega),show(n==j)=false from beq_eq_false_iff_ne.2 (by omega)];rfl
 ·exact UJ (fun x=>x.aP (tr i j)) rfl s.t n
 ·rw[eh,akm];refine congrArg (Option.map _) ?_;unfold tr;cases h1:n==i with
  |true=>
   rw[beq_iff_eq]at h1;subst h1;simp only[cond_true];rw[akI (by rw[List.length_set];exact hj),ei]
  |false=>
   simp only[cond_false];have np:=beq_eq_false_iff_ne.1 h1;cases h2:n==j with
   |true=>
    rw[beq_iff_eq]at h2;subst h2;simp only[cond_true];rw[akN (by omega),akI hi,ej]
   |false=>
    have Dg:=beq_eq_false_iff_ne.1 h2;simp only[cond_false];rw[akN (by omega),akN (by omega)]
theorem aeM{c:Code}{s s':St}(h:gp N0 s s')(k:bJ P r N0 c Q s'):bJ P r N0 c Q s:=⟨fun G w a n hs hN=>by
 obtain⟨G1,hE,eZ,dO⟩:=h G w a hN hs;exact wpIn_mono (k.run G1 w a n dO eZ) fun _ _ _ hn=>hn.trans hE⟩
theorem ad3(i j:Nat)(k:GW P r N0 Q (GH (Nb i j) w0))(hi:Nat.blt i (wS w0).h.length=true:=by kernel_rfl)(hj:Nat.blt j (wS w0).h.length=true:=by kernel_rfl)(Sn:N0≤i:=by exact akn rfl)(Sp:N0≤j:=by exact akn rfl):GW P r N0 Q w0:=by
 constructor
 have k:=k.run;unfold Af at k ⊢;unfold GH at k;split
 ·next c K s l=>
  exact aeM (aiY (akn hi) (akn hj) Sn Sp) k
 ·trivial
end
theorem adU:DL oZ 1:=⟨fun _=>Su,fun _=>Yr,fun _ _=>agn⟩
theorem M8:DL gx 1:=⟨fun _=>AH,fun _=>TQ,fun _ _=>aji⟩
theorem n7:DL b5 2:=⟨fun _=>dg,fun _=>Ad,fun _ _=>aa4⟩
theorem X3:DL pW 2:=⟨fun _=>SF,fun _=>ab2,fun _ _=>agR⟩
theorem L7:DL du 2:=⟨fun _=>eV,fun _=>WV,fun _ _=>ad8⟩
theorem mV:DL cm 4:=⟨fun _=>dP,fun _=>Td,fun _ _=>Zu⟩
theorem lf:DL cq 13:=⟨fun _=>dC,fun _=>Hm,fun _ _=>acQ⟩
set_option maxRecDepth 100000
def F4(a b:ak4):Int:=Lib.compareBytes (bL a) (bL b)
theorem adI(a b:ak4)(w:ak8):Calls Tryz.prog 324 #[.string a, .string b] w fun e w'=>e= .returned (.int .i64 (F4 a b))∧w'=w:=by
 go_enter Tryz.func324,Tryz.ntmps324
 go_wp2
 rw[run_callFunc_extern Tryz.func340 (by kernel_rfl) (by kernel_rfl) (by kernel_rfl) (e:=Extern.BytealgCompare.compare) (by kernel_rfl),Lib.run_compareString];simp only[Result.andThen];rw[Oper.upon_value]
 go_wp2
 go_ret
 exact⟨rfl,rfl⟩
theorem ab6(a b:ak4)(w:ak8):Calls Tryz.prog 296 #[.string a, .string b] w fun e w'=>e= .returned (.int .i64 (F4 a b))∧w'=w:=by
 go_enter Tryz.func296,Tryz.ntmps296
 go_wp2_with (go_at_call 324;refine(adI _ _ _).mono ?_;rintro e w' ⟨rfl,rfl⟩)
 go_ret
 exact⟨rfl,rfl⟩
theorem aey(a b:ak4):aG Tryz.prog 296 [aS a,aS b] (·=aw (F4 a b)):=by
 refine⟨by kernel_rfl,fun G w vs hi hl hr=> ?_⟩;have h0:∃u v,vs= #[u,v]:=⟨vs[0]'(by rw[hl];exact akn rfl),vs[1]'(by rw[hl];exact akn rfl),Array.ext hl fun i h1 h2=>by
  match i,h2 with
  |0,_=>rfl
  |1,_=>rfl⟩
 obtain⟨u,v,rfl⟩:=h0;have e0:=(hr 0 u _ rfl rfl).val;have e1:=(hr 1 v _ rfl rfl).val;subst e0;subst e1;refine(ab6 a b w).mono fun e w' hp=> ?_;obtain⟨rfl,rfl⟩:=hp;exact⟨_,G,_,_,rfl,bR.refl _ _ _,akq _,hi, .d (.v _),rfl,rfl⟩
def fG(a b:Int)(neg:Bool)(how:Int):Bool:=
 let q:=IntKind.u64.wrap (a.tdiv b);let r:=a.tmod b
 (r==0||how==3)||((how==1&& !neg)||(how==2&&neg))||(how==4&&(decide (IntKind.u64.wrap (2*r)<b)||(IntKind.u64.wrap (2*r)==b&&q.tmod 2==0)))
def rQ(a b:Int)(neg:Bool)(how:Int):Int:=bif fG a b neg how then IntKind.u64.wrap (a.tdiv b)else IntKind.u64.wrap (IntKind.u64.wrap (a.tdiv b)+1)
end Go.Proofs.YtpgmcallngdceaaGreatDoor
