/-
  Part 8 of the proof: AbsWs, AbsDl, Cmp, RndD.
-/
import Derived.Test.YtpgmcallngdceaaGreatDoorSp7
import Derived.WalkKit
import Derived.Lib.Bytealg
namespace Go.Proofs.YtpgmcallngdceaaGreatDoor
open Go.RowKit
set_option linter.unusedSimpArgs false
set_option linter.unusedVariables false
structure DL{α:Type}(f:List α→List (List D))(k:Nat):Prop where
 len:∀l,(f l).length=l.length
 all:∀l,∀c∈f l,c.length=k
 app:∀a b,f a++f b=f (a++b)
section
variable {P:ake} {α:Type} {f:akb α→akb (akb D)} {k ct:Nat}
theorem SD{n:Nat}(hb:0<ct)(h:Nat.ble (n*ct) 140737488355328=true):n≤maxLen∧n*ct≤140737488355328:=by
 have h1:=ajv h;have h2:n*1≤n*ct:=Nat.mul_le_mul_left n hb;refine⟨?_,h1⟩;unfold maxLen;omega
def oA(F:DL f k)(A B:akb α)(h:Nat.ble ((A.length+B.length)*ct) 140737488355328=true)(hb:0<ct:=by decide):Ob P:=
 ⟨_,_, .app (xs:=f A) (ys:=f B) (zs:=f (A++B)) (len:=A.length) (n:=(A++B).length) (F.len A).symm (F.all A) (F.all B) (by rw[F.len,F.len];exact(SD hb h).1) (by rw[F.len,F.len];exact(SD hb h).2) (F.app A B) (by rw[F.len,F.len,ajo])⟩
end
section
variable {P:ake} {f:FuncId} {dB:akb AV} {H H':akb aq} {r:AV}
def oQ(ld:akb AV)(h:akb aq)(l:akb Nat)(hc:bO P f dB H fun r1 h1=>r1=r∧h1=H)(ha:ld=dB.map (AV.aQ (rn l 0)):=by kernel_rfl)(hd:ny l=true:=by kernel_rfl)(hb:l.map (fun j=>h[j]?)=H.map (fun B=>some (B.aQ (rn l 0))):=by kernel_rfl)(hl:(dB.all (AV.aT H.length)&&H.all (aq.aT H.length)&&r.aT H.length)=true:=by kernel_rfl):Ob P:=⟨_,_, .rq ha hd hb hl hc⟩
def oR(ld:akb AV)(h:akb aq)(l:akb Nat)(hc:bO P f dB H fun r1 h1=>r1=r∧h1=H')(ha:ld=dB.map (AV.aQ (rn l h.length)):=by kernel_rfl)(hd:ny l=true:=by kernel_rfl)(hb:l.map (fun j=>h[j]?)=H.map (fun B=>some (B.aQ (rn l h.length))):=by kernel_rfl)(hl:(dB.all (AV.aT H.length)&&H.all (aq.aT H.length))=true:=by kernel_rfl):Ob P:=⟨_,_, .lF ha hd hb hl hc⟩
def oX(mT:VD H)(hv:VD H')(ld:akb AV)(h:akb aq)(l:akb Nat)(hc:bO P f dB H fun r1 h1=>r1=r∧h1=H')(ha:ld=dB.map (AV.aQ (rn l h.length)):=by kernel_rfl)(hd:ny l=true:=by kernel_rfl)(hb:l.map (fun j=>h[j]?)=H.map (fun B=>some (B.oM (rn l h.length))):=by kernel_rfl)(hl:(dB.all (AV.aT H.length)&&H.all (aq.sH H.length))=true:=by kernel_rfl):Ob P:=⟨_,_, .Ws mT hv ha hd hb hl hc⟩
end
section
variable {P:ake} {r:akd Nat} {N0:Nat} {Q:Exit→St→Prop} {w0:WO}
theorem fO{α:Type}{f:akb α→akb (akb D)}{z:Nat}(F:DL f z)(k:Nat)(l:akb α)(h:l.length≤maxLen→GW P r N0 Q w0)(hx:(bB (wS w0).t k).ej=some (f l):=by kernel_rfl):GW P r N0 Q w0:=
 aiN k (f l) hx fun e=>h (JV (F.len l) e)
theorem jZ{α:Type}{f:akb α→akb (akb D)}{z:Nat}(F:DL f z)(b i:Nat)(l:akb α)(h:l.length≤maxLen→GW P r N0 Q w0)(hx:(((wS w0).h[b]?).bind fun B=>match B with| .cells cs=>(cs[i]?).bind AV.ej|_=>none)=some (f l):=by kernel_rfl):GW P r N0 Q w0:=
 Lo b i (f l) hx fun e=>h (JV (F.len l) e)
structure Fb{α ι R:Type}(k:Nat)(live:List Nat)(m:Nat)(L:List α)(st:Nat→ι→St)(G:List α→Nat→ι→Option R)(rr:R)(n:Nat)(x:α)(l:List α)(i:ι)(f:St→Prop):Prop where
 h:FG k live m (fun z:Nat×List α×ι=>st z.1 z.2.2) (fun z=>L.drop z.1=z.2.1∧G z.2.1 z.1 z.2.2=some rr) (fun z=>z.2.1.length) (n,x::l,i) f
structure Dc{ι R:Type}(k:Nat)(live:List Nat)(m:Nat)(st:ι→St)(G:Nat→ι→Option R)(rr:R)(d:Nat)(f:St→Prop):Prop where
 h:∀i,FG k live m (fun z:Nat×ι=>st z.2) (fun z=>G z.1 z.2=some rr) (fun z=>z.1) (d+1,i) f
theorem Pg(hm:P.follows .mixedOrders=true){α ι R:Type}{rr:R}(k:Nat)(aW:akb (akb (Nat×Ob P)))(live:akb Nat)(m:Nat)(L:akb α)(st:Nat→ι→St)(G:akb α→Nat→ι→akd R)(i0:ι)(hI:G L 0 i0=some rr)
 (nil:∀n i,L.drop n=[]→G [] n i=some rr→∀f:St→Prop,GW P r N0 Q (nU k f (st n i) (wk P w0 aW)))
 (cons:∀n x l i,L.drop n=x::l→G (x::l) n i=some rr→∀f:St→Prop,Fb k live m L st G rr n x l i f→GW P r N0 Q (nU k f (st n i) (wk P w0 aW)))
 (hN:N0≤m) (e:tt live m (wk P w0 aW)=some (st 0 i0,ff aW)):GW P r N0 Q w0:=by
 refine LA hm k aW live m (fun z:Nat×akb α×ι=>st z.1 z.2.2) (fun z=>L.drop z.1=z.2.1∧G z.2.1 z.1 z.2.2=some rr) (fun z=>z.2.1.length) (0,L,i0) ⟨rfl,hI⟩ (fun z hz f hf=> ?_) hN e;obtain⟨n,l,i⟩:=z;obtain⟨h1,h2⟩:=hz;cases l with
 |nil=>exact nil n i h1 h2 f
 |cons x l=>exact cons n x l i h1 h2 f ⟨hf⟩
theorem ah2(hm:P.follows .mixedOrders=true){α ι R:Type}{rr:R}{live:akb Nat}{m k:Nat}{L:akb α}{st:Nat→ι→St}{G:akb α→Nat→ι→akd R}{n:Nat}{x:α}{l:akb α}{i:ι}{f:St→Prop}(hf:Fb k live m L st G rr n x l i f)(j:ι)(aW:akb (akb (Nat×Ob P)))(hd:L.drop n=x::l)(hI:G l (n+1) j=some rr)(e1:kJ k (wK w0)=[f])(e:tA k live m (wk P w0 aW)=some (st (n+1) j,ff aW)):GW P r N0 Q w0:=
 Di hm hf.h (n+1,l,j) aW ⟨ju hd,hI⟩ (aj9 _) e1 e
theorem Ri(hm:P.follows .mixedOrders=true){ι R:Type}{rr:R}(k:Nat)(aW:akb (akb (Nat×Ob P)))(live:akb Nat)(m:Nat)(st:ι→St)(G:Nat→ι→akd R)(d:Nat)(i0:ι)(hI:G d i0=some rr)(h0:∀i,G 0 i=none)
 (succ:∀d i,G (d+1) i=some rr→∀f:St→Prop,Dc k live m st G rr d f→GW P r N0 Q (nU k f (st i) (wk P w0 aW)))
 (hN:N0≤m) (e:tt live m (wk P w0 aW)=some (st i0,ff aW)):GW P r N0 Q w0:=by
 refine LA hm k aW live m (fun z:Nat×ι=>st z.2) (fun z=>G z.1 z.2=some rr) (fun z=>z.1) (d,i0) hI (fun z hz f hf=> ?_) hN e;obtain⟨d,i⟩:=z;cases d with
 |zero=>exact absurd ((h0 i).symm.trans hz) (by simp)
 |succ d=>exact succ d i hz f ⟨fun j=>⟨fun s' i' h1 h2 h3=>hf.h s' i' h1 h2 h3⟩⟩
theorem Zg(hm:P.follows .mixedOrders=true){ι R:Type}{rr:R}{live:akb Nat}{m k:Nat}{st:ι→St}{G:Nat→ι→akd R}{d:Nat}{f:St→Prop}(hf:Dc k live m st G rr d f)(j:ι)(aW:akb (akb (Nat×Ob P)))(hI:G d j=some rr)(e1:kJ k (wK w0)=[f])(e:tA k live m (wk P w0 aW)=some (st j,ff aW)):GW P r N0 Q w0:=
 Di hm (hf.h j) (d,j) aW hI (aj9 _) e1 e
theorem aP{P:ake}{f:FuncId}{fn:Func}{args:akb AV}{R:AV}(hf:P.funcs[f]?=some fn)(hw:GW P none 0 (Ae P fn R) (IB fn args []))(hb:fn.body.isSome=true:=by kernel_rfl)(hn:(fn.name== "runtime.NumGoroutine")=false:=by kernel_rfl):aG P f args (·=R):=ahX hf hb hn hw
theorem eB{P:ake}{f:FuncId}{fn:Func}{args:akb AV}{h H:akb aq}{R:AV}(m:Nat)(hf:P.funcs[f]?=some fn)(hw:GW P none h.length (yj P fn m R H) (IB fn args h))(hb:fn.body.isSome=true:=by kernel_rfl)(hn:(fn.name== "runtime.NumGoroutine")=false:=by kernel_rfl)(hm:h.length≤m:=by exact ajv rfl):bO P f args h fun r1 h1=>r1=R∧h1=H:=ahu m hf hb hn hm hw
variable {α A B C D' R:Type} {rr:R}
theorem fE(hm:P.follows .mixedOrders=true)(k:Nat)(aW:akb (akb (Nat×Ob P)))(live:akb Nat)(m:Nat)(L:akb α)(st:Nat→St)(G:akb α→Nat→akd R)(hI:G L 0=some rr)
 (nil:∀n,L.drop n=[]→G [] n=some rr→∀f:St→Prop,GW P r N0 Q (nU k f (st n) (wk P w0 aW)))
 (cons:∀n x l,L.drop n=x::l→G (x::l) n=some rr→∀f:St→Prop,Fb k live m L (fun n(_:Unit)=>st n) (fun l n _=>G l n) rr n x l () f→GW P r N0 Q (nU k f (st n) (wk P w0 aW)))
 (hN:N0≤m:=by exact ajv rfl) (e:tt live m (wk P w0 aW)=some (st 0,ff aW):=by kernel_rfl):GW P r N0 Q w0:=
 Pg hm k aW live m L (fun n(_:Unit)=>st n) (fun l n _=>G l n) () hI (fun n _=>nil n) (fun n x l _=>cons n x l) hN e
theorem qp(hm:P.follows .mixedOrders=true)(k:Nat)(aW:akb (akb (Nat×Ob P)))(live:akb Nat)(m:Nat)(L:akb α)(st:Nat→A→St)(G:akb α→Nat→A→akd R)(a0:A)(hI:G L 0 a0=some rr)
 (nil:∀n a,L.drop n=[]→G [] n a=some rr→∀f:St→Prop,GW P r N0 Q (nU k f (st n a) (wk P w0 aW)))
 (cons:∀n x l a,L.drop n=x::l→G (x::l) n a=some rr→∀f:St→Prop,Fb k live m L st G rr n x l a f→GW P r N0 Q (nU k f (st n a) (wk P w0 aW)))
 (hN:N0≤m:=by exact ajv rfl) (e:tt live m (wk P w0 aW)=some (st 0 a0,ff aW):=by kernel_rfl):GW P r N0 Q w0:=
 Pg hm k aW live m L st G a0 hI nil cons hN e
theorem wb(hm:P.follows .mixedOrders=true){ι:Type}{live:akb Nat}{m k:Nat}{L:akb α}{st:Nat→ι→St}{G:akb α→Nat→ι→akd R}{n:Nat}{x:α}{l:akb α}{i:ι}{f:St→Prop}(hf:Fb k live m L st G rr n x l i f)(j:ι)(aW:akb (akb (Nat×Ob P)))(hd:L.drop n=x::l)(hI:G l (n+1) j=some rr)(e1:kJ k (wK w0)=[f]:=by kernel_rfl)(e:tA k live m (wk P w0 aW)=some (st (n+1) j,ff aW):=by kernel_rfl):GW P r N0 Q w0:=ah2 hm hf j aW hd hI e1 e
theorem K5(hm:P.follows .mixedOrders=true)(k:Nat)(aW:akb (akb (Nat×Ob P)))(live:akb Nat)(m:Nat)(st:A→St)(G:Nat→A→akd R)(d:Nat)(a0:A)(hI:G d a0=some rr)
 (succ:∀d a,G (d+1) a=some rr→∀f:St→Prop,Dc k live m st G rr d f→GW P r N0 Q (nU k f (st a) (wk P w0 aW))) (h0:∀a,G 0 a=none:=by intros;rfl)
 (hN:N0≤m:=by exact ajv rfl) (e:tt live m (wk P w0 aW)=some (st a0,ff aW):=by kernel_rfl):GW P r N0 Q w0:=
 Ri hm k aW live m st G d a0 hI h0 succ hN e
theorem NZ(hm:P.follows .mixedOrders=true)(k:Nat)(aW:akb (akb (Nat×Ob P)))(live:akb Nat)(m:Nat)(st:A→B→St)(G:Nat→A→B→akd R)(d:Nat)(a0:A)(b0:B)(hI:G d a0 b0=some rr)
 (succ:∀d a b,G (d+1) a b=some rr→∀f:St→Prop,Dc k live m (fun(i:A×B)=>st i.1 i.2) (fun d i=>G d i.1 i.2) rr d f→GW P r N0 Q (nU k f (st a b) (wk P w0 aW))) (h0:∀a b,G 0 a b=none:=by intros;rfl)
 (hN:N0≤m:=by exact ajv rfl) (e:tt live m (wk P w0 aW)=some (st a0 b0,ff aW):=by kernel_rfl):GW P r N0 Q w0:=
 Ri hm k aW live m (fun(i:A×B)=>st i.1 i.2) (fun d i=>G d i.1 i.2) d (a0,b0) hI (fun i=>h0 i.1 i.2) (fun d i=>succ d i.1 i.2) hN e
theorem yw(hm:P.follows .mixedOrders=true){ι:Type}{live:akb Nat}{m k:Nat}{st:ι→St}{G:Nat→ι→akd R}{d:Nat}{f:St→Prop}(hf:Dc k live m st G rr d f)(j:ι)(aW:akb (akb (Nat×Ob P)))(hI:G d j=some rr)(e1:kJ k (wK w0)=[f]:=by kernel_rfl)(e:tA k live m (wk P w0 aW)=some (st j,ff aW):=by kernel_rfl):GW P r N0 Q w0:=Zg hm hf j aW hI e1 e
def xZ(g:Nat)(t:akd Nat):akb Oper→Nat→akb Nat
 |[],_=>[]
 |o::l,j=>match o.guard with
  |some (g',_)=>bif g'==g then(3*j)::xZ g t l (j+1)else xZ g t l (j+1)
  |none=>match o.op,t with
   | .pick (.tmp c) _ _,some t'=>bif c==t' then(3*j+1)::xZ g t l (j+1)else xZ g t l (j+1)
   |_,_=>xZ g t l (j+1)
def ae5(l:akb Oper)(g:Nat):akd Nat:=match l[g]? with
 |some o=>o.dst
 |none=>none
def G9:WO→akb Oper
 |some (.at (.region _ ops _) _ _,_)=>ops.toList
 |_=>[]
noncomputable def HK(ops:akb Oper)(sp si:akb (Nat×Ob P)):akb (Nat×Ob P):=so (sp.foldr (fun x t=>os (xZ x.1 (ae5 ops x.1) ops 0) x.2 t) si)
theorem bf(hm:P.follows .mixedOrders=true)(Δ:akb (Nat×AV))(h':akb aq)(e:∃sp si:akb (Nat×Ob P),MS P (Δ.map (·.1)) (jX (HK (G9 (wk P w0 [])) sp si)) (wk P w0 [])=some (Δ,h',jv (HK (G9 (wk P w0 [])) sp si)))(k:GW P r N0 Q (sk Δ h' (wk P w0 [])))(e0:vu (wk P w0 [])=some []:=by kernel_rfl):GW P r N0 Q w0:=
 ahJ hm Δ h' (let ⟨_,_,h⟩:=e;⟨_,h⟩) k e0
theorem JL(m:Nat)(hm:P.follows .mixedOrders=true)(Δ:akb (Nat×AV))(h':akb aq)(e:∃sp si:akb (Nat×Ob P),LL P (Δ.map (·.1)) (jX (HK (G9 (wk P w0 [])) sp si)) (wk P w0 [])=some (List.replicate m (Δ,h',jv (HK (G9 (wk P w0 [])) sp si))))(k:GW P r N0 Q (sk Δ h' (wk P w0 [])))(e0:vu (wk P w0 [])=some []:=by kernel_rfl):GW P r N0 Q w0:=
 mo m hm Δ h' (let ⟨_,_,h⟩:=e;⟨_,h⟩) k e0
theorem WD(hm:P.follows .mixedOrders=true)(rr:R)(k:Nat)(aW:akb (akb (Nat×Ob P)))(live:akb Nat)(m:Nat)(st:St)(G:akd R)
 (br:∀f:St→Prop,Bo k live m (fun(_:Unit)=>st) (fun _=>G=some rr) f→GW P r N0 Q (B5 k f (wk P w0 aW)))
 (rest:G=some rr→GW P r N0 Q (CB st (wk P w0 aW))) (hN:N0≤m:=by exact ajv rfl) (e:vY (wk P w0 aW)=some (ff aW):=by kernel_rfl):GW P r N0 Q w0:=
 JJ hm k aW live m (fun(_:Unit)=>st) (fun _=>G=some rr) br (fun _=>rest) hN e
theorem gN(hm:P.follows .mixedOrders=true)(rr:R)(k:Nat)(aW:akb (akb (Nat×Ob P)))(live:akb Nat)(m:Nat)(st:A→St)(G:A→akd R)
 (br:∀f:St→Prop,Bo k live m st (fun a=>G a=some rr) f→GW P r N0 Q (B5 k f (wk P w0 aW)))
 (rest:∀a,G a=some rr→GW P r N0 Q (CB (st a) (wk P w0 aW))) (hN:N0≤m:=by exact ajv rfl) (e:vY (wk P w0 aW)=some (ff aW):=by kernel_rfl):GW P r N0 Q w0:=
 JJ hm k aW live m st (fun a=>G a=some rr) br rest hN e
theorem lE(hm:P.follows .mixedOrders=true)(rr:R)(k:Nat)(aW:akb (akb (Nat×Ob P)))(live:akb Nat)(m:Nat)(st:A→B→St)(G:A→B→akd R)
 (br:∀f:St→Prop,Bo k live m (fun(i:A×B)=>st i.1 i.2) (fun i=>G i.1 i.2=some rr) f→GW P r N0 Q (B5 k f (wk P w0 aW)))
 (rest:∀a b,G a b=some rr→GW P r N0 Q (CB (st a b) (wk P w0 aW))) (hN:N0≤m:=by exact ajv rfl) (e:vY (wk P w0 aW)=some (ff aW):=by kernel_rfl):GW P r N0 Q w0:=
 JJ hm k aW live m (fun(i:A×B)=>st i.1 i.2) (fun i=>G i.1 i.2=some rr) br (fun i=>rest i.1 i.2) hN e
theorem QA{α:Type}{f:α→akb D}{E:akb α}{h:akb aq}{k ct:Nat}{y:AV}(hk:∀c∈E.map f,c.length=k)(hy:y.ej=some (E.map f))(hm:E.length≤maxLen)(hb:E.length*ct≤140737488355328):
 ([]:akb (akb D))=[]∧vz h k y (bo (E.map f))∧bo (E.map f)=bo (E.map f)∧E.length=(bo (E.map f)).length∧E.length=(bo (E.map f)).length∧E.length≤maxLen∧E.length*ct≤140737488355328:=
 have hl:E.length=(bo (E.map f)).length:=by rw[Ds,ajs]
 ⟨rfl, .inl ⟨_,hy,hk,rfl⟩,rfl,hl,hl,hm,hb⟩
end
theorem agh:DL oc 1:=⟨fun _=>VJ,fun _=>acb,fun _ _=>adN⟩
theorem LU:DL gw 1:=⟨fun _=>zc,fun _=>QW,fun _ _=>adK⟩
theorem nG:DL bZ 2:=⟨fun _=>dd,fun _=>xn,fun _ _=>Z7⟩
theorem YC:DL pC 2:=⟨fun _=>QU,fun _=>ahH,fun _ _=>Ze⟩
theorem Lh:DL du 2:=⟨fun _=>eG,fun _=>VZ,fun _ _=>ae4⟩
theorem ml:DL cl 4:=⟨fun _=>dP,fun _=>QO,fun _ _=>ab8⟩
theorem kX:DL cq 13:=⟨fun _=>dD,fun _=>Hd,fun _ _=>aeJ⟩
set_option maxRecDepth 100000
def Iw(a b:akc):Int:=Lib.compareBytes (bL a) (bL b)
theorem YT(a b:akc)(w:akg):Calls Tryz.prog 324 #[.string a, .string b] w fun e w'=>e= .returned (.int .i64 (Iw a b))∧w'=w:=by
 go_enter Tryz.func324,Tryz.ntmps324
 go_wp2
 rw[run_callFunc_extern Tryz.func340 (by kernel_rfl) (by kernel_rfl) (by kernel_rfl) (e:=Extern.BytealgCompare.compare) (by kernel_rfl),Lib.run_compareString];simp only[Result.andThen];rw[Oper.upon_value]
 go_wp2
 go_ret
 exact⟨rfl,rfl⟩
theorem afQ(a b:akc)(w:akg):Calls Tryz.prog 296 #[.string a, .string b] w fun e w'=>e= .returned (.int .i64 (Iw a b))∧w'=w:=by
 go_enter Tryz.func296,Tryz.ntmps296
 go_wp2_with (go_at_call 324;refine(YT _ _ _).mono ?_;rintro e w' ⟨rfl,rfl⟩)
 go_ret
 exact⟨rfl,rfl⟩
theorem aeI(a b:akc):aG Tryz.prog 296 [aR a,aR b] (·=aw (Iw a b)):=by
 refine⟨by kernel_rfl,fun G w vs hi hl hr=> ?_⟩;have h0:∃u v,vs= #[u,v]:=⟨vs[0]'(by rw[hl];exact ajv rfl),vs[1]'(by rw[hl];exact ajv rfl),Array.ext hl fun i h1 h2=>by
  match i,h2 with
  |0,_=>rfl
  |1,_=>rfl⟩
 obtain⟨u,v,rfl⟩:=h0;have e0:=(hr 0 u _ rfl rfl).val;have e1:=(hr 1 v _ rfl rfl).val;subst e0;subst e1;refine(afQ a b w).mono fun e w' hp=> ?_;obtain⟨rfl,rfl⟩:=hp;exact⟨_,G,_,_,rfl,bP.refl _ _ _,ajy _,hi, .d (.v _),rfl,rfl⟩
def fF(a b:Int)(neg:Bool)(how:Int):Bool:=
 let q:=IntKind.u64.wrap (a.tdiv b);let r:=a.tmod b
 (r==0||how==3)||((how==1&& !neg)||(how==2&&neg))||(how==4&&(decide (IntKind.u64.wrap (2*r)<b)||(IntKind.u64.wrap (2*r)==b&&q.tmod 2==0)))
def qW(a b:Int)(neg:Bool)(how:Int):Int:=bif fF a b neg how then IntKind.u64.wrap (a.tdiv b)else IntKind.u64.wrap (IntKind.u64.wrap (a.tdiv b)+1)
end Go.Proofs.YtpgmcallngdceaaGreatDoor
