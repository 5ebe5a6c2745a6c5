/-
  Part 4 of the proof: AbsWk, OpenD.
-/
import Derived.Test.YtnnapanbbbcalaaGreatDoorPe3
import Derived.ProofKit
import Derived.DataOpen
import Derived.SizedLaws
set_option linter.defProp false
namespace Go.Proofs.YtnnapanbbbcalaaGreatDoor
open Go.RowKit
set_option linter.unusedSimpArgs false
set_option linter.unusedVariables false
def O9{α:Type}(x:AV)(k:AV->α):α:=
 match x with
 | .d y=>k (.d y)
 | .agg a=>k (.agg a)
 | .bq a=>k (.bq a)
 | .ptr n o=>fN n λn=>fN o λo=>k (.ptr n o)
 | .own n xs=>fN n λn=>k (.own n xs)
 | .fn f a=>k (.fn f a)
 | .mp n=>fN n λn=>k (.mp n)
 |x=>k x
def W7{α:Type}(x:AV)(k:AV->α):O9 x k=k x:=by cases x<;>simp [O9,Ch]
def fT{α:Type}:I (Nat×AV)->(I (Nat×AV)->α)->α
 |[],k=>k []
 |(d,x)::l,k=>fN d λd=>O9 x λx=>fT l λl=>k ((d,x)::l)
def W6{α:Type}:∀(l:I (Nat×AV))(k:I (Nat×AV)->α),fT l k=k l
 |[],k=>rfl
 |(d,x)::l,k=>by rw[fT,Ch,W7,W6 l]
def fC{α:Type}:I AV->(I AV->α)->α
 |[],k=>k []
 |x::l,k=>O9 x λx=>fC l λl=>k (x::l)
def W5{α:Type}:∀(l:I AV)(k:I AV->α),fC l k=k l
 |[],k=>rfl
 |x::l,k=>by rw[fC,W7,W5 l]
def fH{α:Type}:I ar->(I ar->α)->α
 |[],k=>k []
 | .cells a::l,k=>fC a λa=>fH l λl=>k (.cells a::l)
 | .front e z n::l,k=>fH l λl=>k (.front e z n::l)
 | .map b::l,k=>fH l λl=>k (.map b::l)
 | .gone::l,k=>fH l λl=>k (.gone::l)
 |B::l,k=>fH l λl=>k (B::l)
def rb{α:Type}:∀(l:I ar)(k:I ar->α),fH l k=k l
 |[],k=>rfl
 | .cells a::l,k=>by rw[fH,W5,rb l]
 | .front e z n::l,k=>by rw[fH,rb l]
 | .map b::l,k=>by rw[fH,rb l]
 | .gone::l,k=>by rw[fH,rb l]
 | .jX .. ::l,k=>by rw[fH,rb l]<;>simp
 | .vec .. ::l,k=>by rw[fH,rb l]<;>simp
 | .lp .. ::l,k=>by rw[fH,rb l]<;>simp
 | .it .. ::l,k=>by rw[fH,rb l]<;>simp
 | .fM .. ::l,k=>by rw[fH,rb l]<;>simp
 | .jE .. ::l,k=>by rw[fH,rb l]<;>simp
def Sv{α:Type}(s:St)(k:St->α):α:=fN s.n λn=>fT s.t λt=>fH s.h λh=>k ⟨n,t,h⟩
def als{α:Type}(s:St)(k:St->α):Sv s k=k s:=by unfold Sv;rw[Ch,W6,rb]
inductive Fr
 |S (y:Code)
 |B (id:Nat)
 |F (k:Nat) (f:St->Prop)
def iN(P:dg)(r:U Nat)(N0:Nat)(Q:Exit->St->Prop):I Fr->Exit->St->Prop
 |[]=>Q
 | .S y::K=>je (λs=>bR P r N0 y (iN P r N0 Q K) s) (iN P r N0 Q K)
 | .B id::K=>sZ id (iN P r N0 Q K)
 | .F _ f::K=>je f (iN P r N0 Q K)
inductive Md
 |c (c:Code)
 |n
 |x (id:Nat)
inductive WR
 |at (c:Code) (K:List Fr) (s:St)
 |ret (s:St)
 |nrm (s:St)
 |fin (k:Nat) (s:St)
abbrev WO:=U (WR×I (In×cB))
def NQ(l:I (In×cB)):WO->WO
 |some (w,m)=>some (w,l++m)
 |none=>none
def nY(P:dg):Nat->Md->I Fr->I (I (Nat×cB))->St->WO
 |0,_,_,_,_=>none
 |F+1,m,K,A,s=>match m with
  | .n=>match K with
    |[]=>some (.nrm s,[])
    | .S y::K=>nY P F (.c y) K A s
    | .B _::K=>nY P F .n K A s
    | .F k _::_=>some (.fin k s,[])
  | .x id=>match K with
    |[]=>none
    | .S _::K=>nY P F (.x id) K A s
    | .B g::K=>nY P F (bif id==g then .n else .x id) K A s
    | .F _ _::K=>nY P F (.x id) K A s
  | .c c=>match c with
    | .seq a b=>nY P F (.c a) (.S b::K) A s
    | .block id b=>nY P F (.c b) (.B id::K) A s
    | .skip=>nY P F .n K A s
    | .ret=>some (.ret s,[])
    | .exit id=>nY P F (.x id) K A s
    | .region id d e=>match A with
      |[]=>some (.at (.region id d e) K s,[])
      |as::A=>bif !e||sx d then match qd P d e d.toList 0 as s with
         |some (f,l)=>Sv f λf=>NQ l (nY P F .n K A f)
         |none=>none
       else none
    | .cond o x y=>match A with
      |[]=>some (.at (.cond o x y) K s,[])
      |as::A=>match jL as 0 with
       | .bit b=>NQ [(.bit (ev s o),.bit b)] (nY P F (.c (bif b then x else y)) K A s)
       |_=>none
    |c=>match A with
     |[]=>some (.at c K s,[])
     |_=>none
section
variable {P:dg} {r:U Nat} {N0:Nat} {Q:Exit->St->Prop}
def PA:∀(K:I Fr)(s:St),Q .ret s->iN P r N0 Q K .ret s
 |[],_,h=>h
 | .S _::K,s,h=>PA K s h
 | .B _::K,s,h=>PA K s h
 | .F _ _::K,s,h=>PA K s h
def ams(P:dg)(r:U Nat)(N0:Nat)(Q:Exit->St->Prop)(m:Md)(K:I Fr)(s:St):Prop:=
 match m with
 | .c c=>bR P r N0 c (iN P r N0 Q K) s
 | .n=>iN P r N0 Q K .normal s
 | .x id=>iN P r N0 Q K (.exit id) s
def I8(P:dg)(r:U Nat)(N0:Nat)(Q:Exit->St->Prop)(a:I Fr):WR->Prop
 | .at c K s=>bR P r N0 c (iN P r N0 Q K) s
 | .ret s=>Q .ret s
 | .nrm s=>Q .normal s
 | .fin k s=>∀f,Fr.F k f∈a->f s
def I8.sub{K b:I Fr}(h:∀k f,Fr.F k f∈b->Fr.F k f∈K):∀{w:WR},I8 P r N0 Q K w->I8 P r N0 Q b w
 | .at _ _ _,a=>a
 | .ret _,a=>a
 | .nrm _,a=>a
 | .fin k _,a=>λf c=>a f (h k f c)
def W0{l m:I (In×cB)}{x:WO}{w:WR}(h:NQ l x=some (w,m))(b:AllOK P m):∃n,x=some (w,n)/\AllOK P n/\AllOK P l:=by
 unfold NQ at h;split at h
 ·next c n=>
  cases h
  exact⟨n,rfl,λp a=>b p (a8 _ a),λp a=>b p (ak _ a)⟩
 ·cases h
def ZZ(v:P.follows .mixedOrders=true):∀(F:Nat)(m:Md)(K:I Fr)(A:I (I (Nat×cB)))(s:St)(w:WR)(l:I (In×cB)),nY P F m K A s=some (w,l)->AllOK P l->I8 P r N0 Q K w->ams P r N0 Q m K s
 |0,_,_,_,_,_,_,h,_,_=>by simp [nY]at h
 |F+1,m,K,A,s,w,l,h,d,a=>by
  have g:=ZZ v F;have i:∀{x:Fr}{K:I Fr},∀k f,Fr.F k f∈K->Fr.F k f∈x::K:=λ_ _ h=>Zg _ h;have E:∀{y:Code}{K:I Fr},∀k f,Fr.F k f∈Fr.S y::K->Fr.F k f∈K:=λk f h=>by
   rcases Za.1 h with h|h
   ·cases h
   ·exact h
  have G:∀{y:Nat}{K:I Fr},∀k f,Fr.F k f∈Fr.B y::K->Fr.F k f∈K:=λk f h=>by
   rcases Za.1 h with h|h
   ·cases h
   ·exact h
  unfold nY at h;cases m with
  |n=>
   cases K with
   |nil=>cases h;exact a
   |cons x K=>
    cases x with
    |S y=>exact g (.c y) K _ _ _ _ h d (a.sub i)
    |B id=>exact g .n K _ _ _ _ h d (a.sub i)
    |F k f=>cases h;exact a _ Zq
  |x id=>
   cases K with
   |nil=>cases h
   |cons x K=>
    cases x with
    |S y=>exact g (.x id) K _ _ _ _ h d (a.sub i)
    |B z=>
     show(bif id==z then iN P r N0 Q K .normal s else iN P r N0 Q K (.exit id) s);simp only at h;cases e:id==z with
     |true=>rw[e]at h;exact g .n K _ _ _ _ h d (a.sub i)
     |false=>rw[e]at h;exact g (.x id) K _ _ _ _ h d (a.sub i)
    |F k f=>exact g (.x id) K _ _ _ _ h d (a.sub i)
  |c c=>
   simp only at h;split at h;{exact aw (g (.c _) (.S _::K) _ _ _ _ h d (a.sub E))};{exact dL (g (.c _) (.B _::K) _ _ _ _ h d (a.sub G))};{exact cN (g .n _ _ _ _ _ h d a)};{cases h;exact dm (PA K s a)};{exact ma (g (.x _) _ _ _ _ _ h d a)}
   ·next id ops dr=>
    split at h;{cases h;exact a}
    ·next as A=>
     obtain⟨J,h⟩:=lN h;split at h
     ·next R L e=>
      rw[als]at h;obtain⟨n,p,q,u⟩:=W0 h d;have j:=g .n _ _ _ _ _ p q a;have C:=zi (P:=P) (ops:=ops) (dr:=dr) (K:=iN P r N0 Q K .normal) ops.toList 0 s L e u j;cases dr with
      |false=>exact fU C
      |true=>
       have M:sx ops.toList.toArray=true:=by simpa using J
       have:=P7 (P:=P) (r:=r) (N0:=N0) (Q:=iN P r N0 Q K) (s:=s) (id:=id) (l:=ops.toList) v M (by simpa using C);show bR P r N0 (.region id ops true) (iN P r N0 Q K) s
       simpa using this
     ·cases h
   ·next o x y=>
    split at h;{cases h;exact a}
    ·next as A=>
     split at h
     ·next b e=>
      obtain⟨n,p,q,u⟩:=W0 h d;have N:=OK.LF (u (_,_) Zq);have j:=g (.c _) _ _ _ _ _ p q a;exact V7 N (λe=>by subst e;exact j) (λe=>by subst e;exact j)
     ·cases h
   ·split at h
    ·cases h;exact a
    ·cases h
end
def wK:WO->I Fr
 |some (.at _ K _,_)=>K
 |_=>[]
def wS:WO->St
 |some (.at _ _ s,_)=>s
 |_=>⟨0,[],[]⟩
def kJ(k:Nat):I Fr->I (St->Prop)
 |[]=>[]
 | .F a f::K=>bif a==k then f::kJ k K else kJ k K
 |_::K=>kJ k K
def Fb{k:Nat}{f:St->Prop}:∀{K:I Fr},Fr.F k f∈K->f∈kJ k K
 |[],h=>by cases h
 | .S _::K,h=>by
   rcases Za.1 h with h|h
   ·cases h
   ·exact Fb (K:=K) h
 | .B _::K,h=>by
   rcases Za.1 h with h|h
   ·cases h
   ·exact Fb (K:=K) h
 | .F a g::K,h=>by
   rcases Za.1 h with h|h
   ·cases h;simp [kJ]
   ·unfold kJ;cases a==k with
    |true=>exact Zg _ (Fb h)
    |false=>exact Fb h
def uL:WO->U (I (In×cB))
 |some (.at _ _ _,l)=>some l
 |_=>none
def nk(live:I Nat)(m:Nat):WO->U (St×I (In×cB))
 |some (.at (.loop _) _ s,l)=>(ln s live m).map (·,l)
 |_=>none
def Bk(live:I Nat)(m:Nat)(a:I Nat)(kn:I (Nat×Nat)):WO->U (St×I (In×cB))
 |some (.at (.loop _) _ s,l)=>(nc s live m a kn).map (·,l)
 |_=>none
def sR:WO->U (I (In×cB))
 |some (.at _ (.S _::_) _,l)=>some l
 |_=>none
def sa(k:Nat)(live:I Nat)(m:Nat):WO->U (St×I (In×cB))
 |some (.fin a s,l)=>bif a==k then(ln s live m).map (·,l)else none
 |_=>none
def Ar(k:Nat)(live:I Nat)(m:Nat)(a:I Nat)(kn:I (Nat×Nat)):WO->U (St×I (In×cB))
 |some (.fin b s,l)=>bif b==k then(nc s live m a kn).map (·,l)else none
 |_=>none
def vi(P:dg)(a:I ResultVar):WO->U (AV×I (In×cB))
 |some (.ret s,l)=>(zo P a s).map (·,l)
 |some (.nrm s,l)=>(zo P a s).map (·,l)
 |_=>none
def KC(P:dg)(a:I ResultVar)(m:Nat):WO->U ((AV×I ar)×I (In×cB))
 |some (.ret s,l)=>(yG P a m s).map (·,l)
 |some (.nrm s,l)=>(yG P a m s).map (·,l)
 |_=>none
def Dp:I Fr->U (Code×I Fr)
 | .S y::K=>some (y,K)
 | .B _::K=>Dp K
 |_=>none
def KJ(P:dg)(a:I Nat)(as:I (Nat×cB)):WO->U (I (Nat×AV)×I ar×I (In×cB))
 |some (.at (.region _ b c) K s,_)=>bif (!c||sx b)&&(Dp K).isSome then tD P c b.toList as a s else none
 |_=>none
def iu(k:Nat)(f:St->Prop)(s:St):WO->WO
 |some (.at (.loop b) K _,_)=>some (.at b (.F k f::K) s,[])
 |_=>none
def vC(k:Nat)(f:St->Prop):WO->WO
 |some (.at c (.S _::K) s,_)=>some (.at c (.F k f::K) s,[])
 |_=>none
def vL(s:St):WO->WO
 |some (.at _ (.S y::K) _,_)=>some (.at y K s,[])
 |_=>none
def xz(Δ:I (Nat×AV))(h':I ar):WO->WO
 |some (.at _ K s,_)=>match Dp K with
  |some (y,a)=>some (.at y a ⟨s.n,Δ++s.t,h'⟩,[])
  |none=>none
 |_=>none
def QJ(f:St->St):WO->WO
 |some (.at c K s,l)=>some (.at c K (f s),l)
 |_=>none
def Z6:Nat:=4000
def wk(P:dg)(w:WO)(a:I (I (Nat×Ob P))):WO:=
 match w with
 |some (.at c K s,_)=>nY P Z6 (.c c) K (a.map jZ) s
 |_=>none
def eE{P:dg}(a:I (I (Nat×Ob P))):I (In×cB):=a.flatMap kC
def akz{P:dg}(a:I (I (Nat×Ob P))):AllOK P (eE a):=λp b=>by
 obtain⟨l,_,h⟩:=List.mem_flatMap.1 b;exact rM l p h
def sH{α β:Type}{x:U α}{l:β}{y:α}{m:β}(h:x.map (·,l)=some (y,m)):x=some y/\l=m:=by
 cases x with
 |none=>cases h
 |some z=>cases h;exact⟨rfl,rfl⟩
def Bc(P:dg)(r:U Nat)(N0:Nat)(Q:Exit->St->Prop):WO->Prop
 |some (.at c K s,_)=>bR P r N0 c (iN P r N0 Q K) s
 |_=>True
structure GW(P:Program)(r:Option Nat)(N0:Nat)(Q:Exit->St->Prop)(w:WO):Prop where
 run:Bc P r N0 Q w
section
variable {P:dg} {r:U Nat} {N0:Nat} {Q:Exit->St->Prop} {w0:WO}
def pn{a:I (I (Nat×Ob P))}(b:P.follows .mixedOrders=true){w:WR}(e:wk P w0 a=some (w,eE a))(d:∀K,(∀k f,Fr.F k f∈K->Fr.F k f∈wK w0)->I8 P r N0 Q K w):GW P r N0 Q w0:=by
 constructor
 unfold wk at e;split at e;{next c K s l=>exact ZZ b Z6 (.c c) K _ s w _ e (akz a) (d K λk f h=>h)};{cases e}
def gp(b:P.follows .mixedOrders=true)(a:I (I (Nat×Ob P)))(k:GW P r N0 Q (wk P w0 a))(e:uL (wk P w0 a)=some (eE a):=by kernel_rfl):GW P r N0 Q w0:=by
 generalize c:wk P w0 a=w at e k;unfold uL at e;split at e;{cases e;exact pn b c λK _=>k.run};{cases e}
def alh(c:P.follows .mixedOrders=true){fn:Func}{R:AV}(a:I (I (Nat×Ob P)))(e:vi P fn.results.toList (wk P w0 a)=some (R,eE a)):GW P r N0 (l8 P fn R) w0:=by
 generalize d:wk P w0 a=w at e;unfold vi at e;split at e;{obtain⟨b,rfl⟩:=sH e;exact pn c d λK _=>b};{obtain⟨b,rfl⟩:=sH e;exact pn c d λK _=>b};{cases e}
def aot(c:P.follows .mixedOrders=true){fn:Func}{m:Nat}{R:AV}{H:I ar}(a:I (I (Nat×Ob P)))(e:KC P fn.results.toList m (wk P w0 a)=some ((R,H),eE a)):GW P r N0 (xq P fn m R H) w0:=by
 generalize d:wk P w0 a=w at e;unfold KC at e;split at e;{obtain⟨b,rfl⟩:=sH e;exact pn c d λK _=>b};{obtain⟨b,rfl⟩:=sH e;exact pn c d λK _=>b};{cases e}
def wr(b:P.follows .mixedOrders=true){fn:Func}{R:AV}(a:I (I (Nat×Ob P)))(e:vi P fn.results.toList (wk P w0 a)=some (R,eE a):=by kernel_rfl):GW P r N0 (l8 P fn R) w0:=alh b a e
def n7(b:P.follows .mixedOrders=true){fn:Func}{m:Nat}{R:AV}{H:I ar}(a:I (I (Nat×Ob P)))(e:KC P fn.results.toList m (wk P w0 a)=some ((R,H),eE a):=by kernel_rfl):GW P r N0 (xq P fn m R H) w0:=aot b a e
structure Pq{ι:Type}(k:Nat)(live:List Nat)(m:Nat)(st:ι->St)(I:ι->Prop)(μ:ι->Nat)(i0:ι)(f:St->Prop):Prop where
 h:∀s' i',ln s' live m=some (st i')->I i'->μ i'<μ i0->f s'
structure OO{ι:Type}(k:Nat)(live:List Nat)(m:Nat)(ks:List Nat)(kn:List (Nat×Nat))(st:ι->St)(I:ι->Prop)(μ:ι->Nat)(i0:ι)(f:St->Prop):Prop where
 h:∀s' i',jI m (s'.h.take m)->nc s' live m ks kn=some (st i')->I i'->μ i'<μ i0->f s'
structure wV{ι:Type}(k:Nat)(live:List Nat)(m:Nat)(st:ι->St)(I:ι->Prop)(f:St->Prop):Prop where
 h:∀s' i',ln s' live m=some (st i')->I i'->f s'
structure NI{ι:Type}(k:Nat)(live:List Nat)(m:Nat)(ks:List Nat)(kn:List (Nat×Nat))(st:ι->St)(I:ι->Prop)(f:St->Prop):Prop where
 h:∀s' i',jI m (s'.h.take m)->nc s' live m ks kn=some (st i')->I i'->f s'
def P1(c:P.follows .mixedOrders=true){k:Nat}{a:St}{f:St->Prop}(b:I (I (Nat×Ob P)))(d:kJ k (wK w0)=[f])(e:wk P w0 b=some (.fin k a,eE b))(h:f a):GW P r N0 Q w0:=
 pn c e λK i g j=>by
  have:=Fb (i k g j);rw[d,af]at this;subst this;exact h
def CM(g:P.follows .mixedOrders=true){ι:Type}{live:I Nat}{m k:Nat}{c:ι->St}{a:ι->Prop}{μ:ι->Nat}{i0:ι}{f:St->Prop}(j:Pq k live m c a μ i0 f)(i:ι)(b:I (I (Nat×Ob P)))(n:a i)(o:μ i<μ i0:=by exact Z0 _)(p:kJ k (wK w0)=[f]:=by kernel_rfl)(e:sa k live m (wk P w0 b)=some (c i,eE b):=by kernel_rfl):GW P r N0 Q w0:=by
 generalize q:wk P w0 b=w at e;unfold sa at e;split at e
 ·next v x l=>
  obtain⟨d,e⟩:=lN e;obtain⟨u,rfl⟩:=sH e;rw[Ua]at d;subst d;exact P1 g b p q (j.h _ i u n o)
 ·cases e
def wP:I ar->I (I (I AV))
 |[]=>[]
 | .vec _ _ a::l=>a::wP l
 |_::l=>wP l
structure VE(m:Nat) where
 x:List (List AV)
 ok:∀e k,(ar.vec e k x).CO m
def VE.Ay{m:Nat}(xs:I (I D)):VE m:=⟨cg xs,λ_ _=>(lW (m:=m) (l:=[]) jP).1⟩
def HE{m:Nat}:∀(l:I ar)(gC:I (VE m)),wP l=gC.map VE.x->jI m l
 |[],_,_=>jP
 |B::l,gC,h=>by
  cases B with
  |vec e k a=>
   cases gC with
   |nil=>cases h
   |cons v b=>
    have c:a=v.x:=(List.cons.inj h).1;subst c;exact⟨v.ok e k,HE l b (List.cons.inj h).2⟩
  |_=>exact⟨trivial,HE l gC h⟩
def tk(m:Nat):WO->I (I (I AV))
 |some (.fin _ s,_)=>wP (s.h.take m)
 |some (.at _ _ s,_)=>wP (s.h.take m)
 |_=>[]
def Z5(j:P.follows .mixedOrders=true){ι:Type}{live:I Nat}{m k:Nat}{c:I Nat}{kn:I (Nat×Nat)}{d:ι->St}{a:ι->Prop}{μ:ι->Nat}{i0:ι}{f:St->Prop}(n:OO k live m c kn d a μ i0 f)(i:ι)(b:I (I (Nat×Ob P)))(o:a i)(p:μ i<μ i0:=by exact Z0 _)(q:kJ k (wK w0)=[f]:=by kernel_rfl)(gC:I (VE m):=[])(e0:tk m (wk P w0 b)=gC.map VE.x:=by kernel_rfl)(e:Ar k live m c kn (wk P w0 b)=some (d i,eE b):=by kernel_rfl):GW P r N0 Q w0:=by
 generalize u:wk P w0 b=w at e e0;unfold Ar at e;split at e
 ·next y z l=>
  obtain⟨g,e⟩:=lN e;obtain⟨v,rfl⟩:=sH e;rw[Ua]at g;subst g;exact P1 j b q u (n.h _ i (HE _ gC e0) v o p)
 ·cases e
def mu(g:P.follows .mixedOrders=true){ι:Type}{live:I Nat}{m k:Nat}{c:ι->St}{a:ι->Prop}{f:St->Prop}(j:wV k live m c a f)(i:ι)(b:I (I (Nat×Ob P)))(n:a i)(o:kJ k (wK w0)=[f]:=by kernel_rfl)(e:sa k live m (wk P w0 b)=some (c i,eE b):=by kernel_rfl):GW P r N0 Q w0:=by
 generalize p:wk P w0 b=w at e;unfold sa at e;split at e
 ·next u v l=>
  obtain⟨d,e⟩:=lN e;obtain⟨q,rfl⟩:=sH e;rw[Ua]at d;subst d;exact P1 g b o p (j.h _ i q n)
 ·cases e
def H9(j:P.follows .mixedOrders=true){ι:Type}(k:Nat)(d:I (I (Nat×Ob P)))(live:I Nat)(m:Nat)(g:ι->St)(a:ι->Prop)(μ:ι->Nat)(h:ι)(n:a h)
 (c:∀i,a i->∀f:St->Prop,Pq k live m g a μ i f->GW P r N0 Q (iu k f (g i) (wk P w0 d)))
 (o:N0<=m:=by exact Zi rfl) (e:nk live m (wk P w0 d)=some (g h,eE d):=by kernel_rfl):GW P r N0 Q w0:=by
 generalize p:wk P w0 d=w at e c;unfold nk at e;split at e
 ·next b B q l=>
  obtain⟨u,rfl⟩:=sH e;refine pn j p λK _=> ?_;refine SI live m g a μ h o u n λi v=> ?_;exact(c i v _ ⟨λq x y z A=>⟨x,y,z,A⟩⟩).run
 ·cases e
def Sp(n:P.follows .mixedOrders=true){ι:Type}(k:Nat)(d:I (I (Nat×Ob P)))(live:I Nat)(m:Nat)(h:I Nat)(kn:I (Nat×Nat))(g:ι->St)(a:ι->Prop)(μ:ι->Nat)(j:ι)(o:a j)
 (c:∀i,a i->∀f:St->Prop,OO k live m h kn g a μ i f->GW P r N0 Q (iu k f (g i) (wk P w0 d)))
 (p:N0<=m:=by exact Zi rfl) (gC:I (VE m):=[]) (e0:tk m (wk P w0 d)=gC.map VE.x:=by kernel_rfl) (e:Bk live m h kn (wk P w0 d)=some (g j,eE d):=by kernel_rfl):GW P r N0 Q w0:=by
 generalize q:wk P w0 d=w at e e0 c;unfold Bk at e;split at e
 ·next b F u l=>
  obtain⟨v,rfl⟩:=sH e;refine pn n q λK _=> ?_;refine Kr live m h kn g a μ j p ⟨HE _ gC e0,v⟩ o λi y=> ?_;exact(c i y _ ⟨λu z A B C E=>⟨z,⟨A,B⟩,C,E⟩⟩).run
 ·cases e
def Fp(g:P.follows .mixedOrders=true){ι:Type}(k:Nat)(b:I (I (Nat×Ob P)))(live:I Nat)(m:Nat)(c:ι->St)(a:ι->Prop)
 (d:∀f:St->Prop,wV k live m c a f->GW P r N0 Q (vC k f (wk P w0 b)))
 (rest:∀i,a i->GW P r N0 Q (vL (c i) (wk P w0 b))) (h:N0<=m:=by exact Zi rfl) (e:sR (wk P w0 b)=some (eE b):=by kernel_rfl):GW P r N0 Q w0:=by
 generalize j:wk P w0 b=w at e d rest;unfold sR at e;split at e
 ·cases e
  refine pn g j λK _=> ?_;exact qW live m c a h (d _ ⟨λq l n o=>⟨l,n,o⟩⟩).run λi p=>(rest i p).run
 ·cases e
def akh(j:P.follows .mixedOrders=true){ι:Type}{live:I Nat}{m k:Nat}{c:I Nat}{kn:I (Nat×Nat)}{d:ι->St}{a:ι->Prop}{f:St->Prop}(n:NI k live m c kn d a f)(i:ι)(b:I (I (Nat×Ob P)))(o:a i)(gC:I (VE m):=[])(e0:tk m (wk P w0 b)=gC.map VE.x:=by kernel_rfl)(p:kJ k (wK w0)=[f]:=by kernel_rfl)(e:Ar k live m c kn (wk P w0 b)=some (d i,eE b):=by kernel_rfl):GW P r N0 Q w0:=by
 generalize q:wk P w0 b=w at e e0;unfold Ar at e;split at e
 ·next v y l=>
  obtain⟨g,e⟩:=lN e;obtain⟨u,rfl⟩:=sH e;rw[Ua]at g;subst g;exact P1 j b p q (n.h _ i (HE _ gC e0) u o)
 ·cases e
def aix(h:P.follows .mixedOrders=true){ι:Type}(k:Nat)(b:I (I (Nat×Ob P)))(live:I Nat)(m:Nat)(d:I Nat)(kn:I (Nat×Nat))(c:ι->St)(a:ι->Prop)
 (g:∀f:St->Prop,NI k live m d kn c a f->GW P r N0 Q (vC k f (wk P w0 b)))
 (rest:∀i,a i->GW P r N0 Q (vL (c i) (wk P w0 b))) (j:N0<=m:=by exact Zi rfl) (e:sR (wk P w0 b)=some (eE b):=by kernel_rfl):GW P r N0 Q w0:=by
 generalize l:wk P w0 b=w at e g rest;unfold sR at e;split at e
 ·cases e
  refine pn h l λK _=> ?_;exact WZ live m d kn c a j (g _ ⟨λv n o p q=>⟨n,⟨o,p⟩,q⟩⟩).run λi u=>(rest i u).run
 ·cases e
def Lc:∀{K:I Fr}{y:Code}{a:I Fr}{s:St},Dp K=some (y,a)->bR P r N0 y (iN P r N0 Q a) s->iN P r N0 Q K .normal s
 |[],_,_,_,h,_=>by cases h
 | .S y::K,_,_,_,h,k=>by cases h;exact k
 | .B _::K,_,_,s,h,k=>Lc (K:=K) (s:=s) h k
 | .F _ _::K,_,_,_,h,_=>by cases h
def aly(d:P.follows .mixedOrders=true)(Δ:I (Nat×AV))(h':I ar)(e:∃a:I (Nat×Ob P),KJ P (Δ.map (·.1)) (jZ a) (wk P w0 [])=some (Δ,h',kC a))(k:GW P r N0 Q (xz Δ h' (wk P w0 [])))(e0:uL (wk P w0 [])=some []:=by kernel_rfl):GW P r N0 Q w0:=by
 generalize h:wk P w0 []=w at e k e0;obtain⟨a,e⟩:=e;unfold KJ at e;split at e
 ·next id ops dr b s' l=>
  obtain⟨c,e⟩:=lN e;rw[Zr]at c;cases e0
  refine pn d h λK _=> ?_;obtain⟨s1,i,j,m,o⟩:=MM e;obtain⟨p,f⟩:=b8.1 c.2;obtain⟨y,v⟩:=p;have q:iN P r N0 Q b .normal s1:=by
   refine Lc f (M9 (s:=s1) (s':=⟨s'.n,Δ++s'.t,h'⟩) j.symm m.symm o ?_);have k:=k.run;simp only[xz,f]at k;exact k
  show bR P r N0 (.region id ops dr) (iN P r N0 Q b) s';have g:=zi (P:=P) (ops:=ops.toList.toArray) (dr:=dr) (K:=iN P r N0 Q b .normal) ops.toList 0 s' _ i (rM a) q;cases dr with
  |false=>exact fU (by simpa using g)
  |true=>
   have u:sx ops.toList.toArray=true:=by simpa using c.1
   have:=P7 (P:=P) (r:=r) (N0:=N0) (Q:=iN P r N0 Q b) (s:=s') (id:=id) (l:=ops.toList) d u (by simpa using g)
   simpa using this
 ·cases e
def VP(P:dg)(a:I Nat)(as:I (Nat×cB)):WO->U (I (I (Nat×AV)×I ar×I (In×cB)))
 |some (.at (.region _ b true) K s,_)=>bif (Dp K).isSome then DR P b.toList as a s else none
 |_=>none
def Lr(m:Nat)(d:P.follows .mixedOrders=true)(Δ:I (Nat×AV))(h':I ar)(e:∃b:I (Nat×Ob P),VP P (Δ.map (·.1)) (jZ b) (wk P w0 [])=some (List.replicate m (Δ,h',kC b)))(k:GW P r N0 Q (xz Δ h' (wk P w0 [])))(e0:uL (wk P w0 [])=some []:=by kernel_rfl):GW P r N0 Q w0:=by
 generalize i:wk P w0 []=w at e k e0;obtain⟨b,e⟩:=e;unfold VP at e;split at e
 ·next id a f c l=>
  obtain⟨j,e⟩:=lN e;cases e0
  refine pn d i λK _=> ?_;obtain⟨p,g⟩:=b8.1 j;obtain⟨y,o⟩:=p;show bR P r N0 (.region id a true) (iN P r N0 Q f) c;have:=rte (r:=r) (N0:=N0) (Q:=iN P r N0 Q f) (id:=id) (ol:=a.toList) (n:=c.n) (t:=c.t) (h:=c.h) m d b Δ h' e (Lc g (by
   have k:=k.run;simp only[xz,g]at k;exact k))
  simpa using this
 ·cases e
def Kd(P:dg)(b:I Nat)(as:I (Nat×cB)):WO->U (I (Nat×AV)×I ar×I (In×cB))
 |some (.at (.region _ a true) K s,_)=>bif (Dp K).isSome&&HS true a (List.range a.toList.length)&&Ir as 0 a.toList then tD P false a.toList as b s else none
 |_=>none
def B5(f:P.follows .mixedOrders=true)(c:I (Nat×Ob P))(Δ:I (Nat×AV))(h':I ar)(k:GW P r N0 Q (xz Δ h' (wk P w0 [])))(e:Kd P (Δ.map (·.1)) (jZ c) (wk P w0 [])=some (Δ,h',kC c):=by kernel_rfl)(e0:uL (wk P w0 [])=some []:=by kernel_rfl):GW P r N0 Q w0:=by
 generalize h:wk P w0 []=w at e k e0;unfold Kd at e;split at e
 ·next id a d s' l=>
  obtain⟨b,e⟩:=lN e;rw[Zr,Zr]at b;cases e0
  refine pn f h λK _=> ?_;obtain⟨p,g⟩:=b8.1 b.1.1;obtain⟨y,i⟩:=p;show bR P r N0 (.region id a true) (iN P r N0 Q d) s';have j:bR P r N0 y (iN P r N0 Q i) ⟨s'.n,Δ++s'.t,h'⟩:=by
   have k:=k.run;simp only[xz,g]at k;exact k
  obtain⟨s1,o,q,u,v⟩:=MM e;have x:iN P r N0 Q d .normal s1:=Lc g (M9 (s:=s1) (s':=⟨s'.n,Δ++s'.t,h'⟩) q.symm u.symm v j);have z:HS true a.toList.toArray (List.range a.toList.length)=true:=by simpa using b.1.2
  have:bR P r N0 (.region id a.toList.toArray true) (iN P r N0 Q d) s':=by
   refine Zj (m:=true) (List.range a.toList.length) f (by simp) z ?_;rw[W8];exact Wn a.toList 0 _ _ o (rM c) b.2 x
  simpa using this
 ·cases e
def WE(b:Nat):ar->I (Nat×Nat×Nat×Nat)
 | .cells a=>AV.s9 b a
 | .lp .. =>[(1,0,0,0)]
 | .it .. =>[(1,0,0,0)]
 | .fM _ a=>AV.s9 b a
 |_=>[]
structure VM(b L kk:Nat)(ys:List (List D)) where
 x:List (List AV)
 y:List (List AV)
 ok:ys.length=L->y=x.map (·.map (AV.dG b kk ys))
def VM.Ay{b L a:Nat}{ys:I (I D)}(zs:I (I D)):VM b L a ys:=⟨cg zs,cg zs,λ_=>(Qg (λd=>by simp [AV.dG]) zs).symm⟩
def rI(b:Nat)(ys:I (I D)):I ar->I (I (I AV))->I ar
 |[],_=>[]
 |B::l,a=>match B with
  | .vec e k c=>match a with
    |v::a=>.vec e k v::rI b ys l a
    |[]=>.vec e k c::rI b ys l []
  | .cells c=>.cells (AV.nU b ys c)::rI b ys l a
  | .fM T c=>.fM T (AV.nU b ys c)::rI b ys l a
  |B=>B::rI b ys l a
def Kc{b L d:Nat}{ys:I (I D)}(z:ys.length=L):∀(h:I ar)(a:I (VM b L d ys)),wP h=a.map VM.x->(∀q∈h.flatMap (WE b),q=(0,ys.length,ys.length,d))->rI b ys h (a.map VM.y)=h.map (ar.lf (AV.dG b d ys))
 |[],_,_,_=>rfl
 |B::l,a,f,A=>by
  have g:∀a:I (VM b L d ys),wP l=a.map VM.x->rI b ys l (a.map VM.y)=l.map (ar.lf (AV.dG b d ys)):=λa f=>Kc z l a f λq o=>A q (by rw[List.flatMap_cons];exact a8 _ o);have j:∀q∈WE b B,q=(0,ys.length,ys.length,d):=λq o=>A q (by rw[List.flatMap_cons];exact ak _ o);cases B with
  |vec e k c=>
   cases a with
   |nil=>cases f
   |cons v a=>
    have u:c=v.x:=(List.cons.inj f).1;have i:(ar.vec e k c).lf (AV.dG b d ys)= .vec e k v.y:=by rw[v.ok z,u];rfl
    show ar.vec e k v.y::rI b ys l (a.map VM.y)=ar.lf (AV.dG b d ys) (.vec e k c)::l.map _;rw[g a (List.cons.inj f).2,i]
  |cells c=>
   have i:(ar.cells c).lf (AV.dG b d ys)= .cells (AV.nU b ys c):=by
    rw[<-xo c j,vc];rfl
   show ar.cells (AV.nU b ys c)::rI b ys l (a.map VM.y)=ar.lf (AV.dG b d ys) (.cells c)::l.map _;rw[g a f,i]
  |front e k n=>exact congrArg (ar.front e k n::·) (g a f)
  |jE e q=>exact congrArg (ar.jE e q::·) (g a f)
  |map w=>exact congrArg (ar.map w::·) (g a f)
  |jX w=>exact congrArg (ar.jX w::·) (g a f)
  |gone=>exact congrArg (ar.gone::·) (g a f)
  |lp C p as E c=>have:=congrArg Prod.fst (j (1,0,0,0) Zq);cases this
  |it F c=>have:=congrArg Prod.fst (j (1,0,0,0) Zq);cases this
  |fM m c=>
   have i:(ar.fM m c).lf (AV.dG b d ys)= .fM m (AV.nU b ys c):=by
    rw[<-xo c j,vc];rfl
   show ar.fM m (AV.nU b ys c)::rI b ys l (a.map VM.y)=ar.lf (AV.dG b d ys) (.fM m c)::l.map _;rw[g a f,i]
def ahM{c:Code}{s:St}(live:I Nat)(b:Nat)(xs:I (I D)){e k L:Nat}(h':I ar)(f:s.h[b]?=some (.vec e k (cg xs)))(g:∀c∈xs,c.all D.xx=true)(B:xs.length=L)
 (j:∀q∈live.flatMap λi=>(bP s.t i).sr b,q=(0,xs.length,xs.length,k)) (l:h'=s.h.map (ar.lf (AV.dG b k xs))) (K:bR P r N0 c Q ⟨s.n,live.map (λi=>(i,(bP s.t i).mlt b xs)),h'.set b .gone⟩):bR P r N0 c Q s:=by
 constructor
 intro G w a n m d;obtain⟨o,u,v,x⟩:=m.UX xs f g;refine wpIn_mono (K.run o w a n (x.less rfl (by rw[l]) λi=> ?_) (by rw[v];exact d)) λ_ _ _ y=>y.trans (u.less d);show bP (live.map (λi=>(i,(bP s.t i).mlt b xs))) i=bP (s.t.map λp=>(p.1,p.2.dG b k xs)) i\/_;rw[tA (λk=>(bP s.t k).mlt b xs),Ge (AV.dG b k xs) (by simp [AV.dG])];split
 ·next z=>
  left
  refine(V4 _ λq A=>j q ?_).symm;exact List.mem_flatMap.2 ⟨i,z,A⟩
 ·exact .inr rfl
def aqX(live:I Nat)(b:Nat)(s:St):I (Nat×Nat×Nat×Nat):=(live.flatMap λi=>(bP s.t i).sr b)++s.h.flatMap (WE b)
def asA(live:I Nat)(b:Nat)(ys:I (I D))(a:I (I (I AV)))(s:St):St:=⟨s.n,live.map (λi=>(i,(bP s.t i).mlt b ys)),(rI b ys s.h a).set b .gone⟩
def asq(live:I Nat)(b:Nat){xs:I (I D)}(ys:I (I D))(L c e k:Nat)(a:I (VM b L k ys))(d:xs.length=L)(i:ys=xs)(j:∀c∈xs,c.all D.xx=true)(K:GW P r N0 Q (QJ (asA live b ys (a.map VM.y)) w0))(m:(wS w0).h[b]?=some (.vec e k (cg xs)):=by kernel_rfl)(n:aqX live b (wS w0)=List.replicate c (0,L,L,k):=by kernel_rfl)(o:wP (wS w0).h=a.map VM.x:=by kernel_rfl):GW P r N0 Q w0:=by
 subst i;constructor
 unfold Bc;split
 ·next c p s l=>
  have g:=JM d n;exact ahM live b ys _ m j d (λq f=>g q (ak _ f)) (Kc d s.h a o λq f=>g q (a8 _ f)) K.run
 ·trivial
def Ex{m:Nat}:([]:I ar).all (ar.aN m)=true:=rfl
def BF{B:ar}{l:I ar}{m:Nat}(h:B.aN m=true)(k:l.all (ar.aN m)=true):(B::l).all (ar.aN m)=true:=by rw[ZE,h,k];rfl
def aa0{e k m:Nat}{xs:I (I D)}:(ar.vec e k (cg xs)).aN m=true:=X3 xs
def alL{m n:Nat}{T:I (Nat×AV)}{b:ar}{next:I ar->Prop}{Q:Exit->St->Prop}{s:St}(a:I ar)(d:a.length=m)(e:a.all (ar.aN (m+1))=true)(c:jI (m+1) (s.h.take (m+1))/\nc s [] (m+1) [] []=some ⟨s.n,[],a++[b]⟩)(f:next a):GI m n T b next Q .normal s:=⟨a,d,e,⟨λh=>h.nc c.1 c.2⟩,f⟩
def unD(k:Nat)(xs:I (I D))(a:(bP (wS w0).t k).gX=some xs)(h:vB (.sl xs)->GW P r N0 Q w0):GW P r N0 Q w0:=by
 constructor
 unfold Bc;split;{next c K s l=>exact Aq k xs a λb=>(h b).run};{trivial}
def HR(b i:Nat)(xs:I (I D))(a:(((wS w0).h[b]?).bind λB=>match B with| .cells cs=>(cs[i]?).bind AV.gX|_=>none)=some xs)(h:vB (.sl xs)->GW P r N0 Q w0):GW P r N0 Q w0:=by
 constructor
 unfold Bc;split;{next c K s l=>exact ara b i xs a λd=>(h d).run};{trivial}
def adS(k e a:Nat)(xs:I (I D))(s:St):St:=⟨s.n,(k,.own s.h.length xs)::s.t,s.h++[.front e a xs.length]⟩
def Mq(b i e a:Nat)(xs:I (I D))(s:St):St:=match s.h[b]? with
 |some (.cells c)=>⟨s.n,s.t,(s.h++[ar.front e a xs.length]).set b (ar.cells (c.set i (AV.own s.h.length xs)))⟩
 |_=>s
def Qc(xs:I (I D)):AV->Bool
 | .d (.v (.slice none 0 0))=>xs.isEmpty
 |_=>false
def aeL{xs:I (I D)}{x:AV}(h:Qc xs x=true):x= .d (.v (.slice none 0 0))/\xs=[]:=by
 unfold Qc at h;split at h;{exact⟨rfl,List.isEmpty_iff.1 h⟩};{cases h}
def lQ(k e a:Nat)(xs:I (I D))(b:bP (wS w0).t k= .full xs\/Qc xs (bP (wS w0).t k)=true)(h:GW P r N0 Q (QJ (adS k e a xs) w0)):GW P r N0 Q w0:=by
 constructor
 unfold Bc;split;{next c K s l=>exact Nr k e a xs (b.imp id aeL) h.run};{trivial}
def Qd(b i:Nat)(s:St):AV:=match s.h[b]? with
 |some (.cells a)=>(a[i]?).getD .dead
 |_=>.dead
def aau{b i:Nat}{s:St}{x:AV}(h:Qd b i s=x)(a:x≠ .dead):∃cs,s.h[b]?=some (.cells cs)/\cs[i]?=some x:=by
 unfold Qd at h;split at h
 ·next cs d=>
  refine⟨cs,d,?_⟩;cases c:cs[i]? with
  |none=>rw[c]at h;exact absurd h.symm a
  |some y=>rw[c]at h;rw[<-h];rfl
 ·exact absurd h.symm a
def aq4(b i e g:Nat)(xs:I (I D))(d:Qd b i (wS w0)= .full xs\/Qc xs (Qd b i (wS w0))=true)(h:GW P r N0 Q (QJ (Mq b i e g xs) w0)):GW P r N0 Q w0:=by
 constructor
 unfold Bc;split
 ·next c K s l=>
  have a:bR P r N0 c (iN P r N0 Q K) (Mq b i e g xs s):=h.run;rcases d with d|d
  ·obtain⟨j,f,k⟩:=aau d (λh=>by cases h);unfold Mq at a;rw[show s.h[b]?=some (.cells j)from f]at a;exact Tp b i e g xs f (.inl k) a
  ·obtain⟨m,rfl⟩:=aeL d;obtain⟨j,f,k⟩:=aau m (λh=>by cases h);unfold Mq at a;rw[show s.h[b]?=some (.cells j)from f]at a;exact Tp b i e g [] f (.inr ⟨k,rfl⟩) a
 ·trivial
end
def bc{α:Type}{c:Bool}{a b x:α}{G:Prop}(h:(bif c then a else b)=x)(t:c=true->a=x->G)(f:c=false->b=x->G):G:=by
 cases c with
 |true=>exact t rfl h
 |false=>exact f rfl h
def sj{α:Type}{a b:α}(h:some a=some b):a=b:=Zw h
def xO{α:Type}{c:Bool}{x:U α}{r:α}(h:(bif c then x else none)=some r):c=true/\x=some r:=by
 cases c with
 |true=>exact⟨rfl,h⟩
 |false=>cases h
def C1(fn:Func)(args:I AV)(h:I ar):WO:=some (.at (fn.body.getD .skip) [] {n:=args.length+(fn.ntmps-args.length),t:=ng 0 args,h:=h},[])
def akF{P:dg}{f:FuncId}{fn:Func}{args:I AV}{R:AV}(b:P.funcs[f]?=some fn)(d:fn.body.isSome=true)(e:(fn.name== "runtime.NumGoroutine")=false)
 (g:GW P none 0 (l8 P fn R) (C1 fn args [])):AFn P f args (·=R):=by
 obtain⟨c,a⟩:=b8.1 d;refine mU b a e ?_;have:fn.body.getD .skip=c:=by rw[a];rfl
 rw[<-this];exact g.run
def anO{P:dg}{f:FuncId}{fn:Func}{args:I AV}{h H:I ar}{R:AV}(m:Nat)(b:P.funcs[f]?=some fn)(d:fn.body.isSome=true)(e:(fn.name== "runtime.NumGoroutine")=false)(g:h.length<=m)
 (i:GW P none h.length (xq P fn m R H) (C1 fn args h)):dt P f args h λj h1=>j=R/\h1=H:=by
 obtain⟨c,a⟩:=b8.1 d;refine tz m b a e g ?_;have:fn.body.getD .skip=c:=by rw[a];rfl
 rw[<-this];exact i.run
section DV
variable {P:dg}
def oL{α:Type}{f:I α->I (I D)}(l:I α)(h:(f l).length=l.length):Ob P:=⟨_,_,.len h⟩
def oE{xs:I (I D)}{k:Nat}{c:I D}(h:xs[k]?=some c):Ob P:=⟨_,_,.el (xs:=xs) (i:=(k:Int)) (Int.natCast_nonneg _) h⟩
def oq{a b:AV}(h:a=b):Ob P:=⟨_,_,.eq h⟩
def os(a:I Nat)(o:Ob P)(l:I (Nat×Ob P)):I (Nat×Ob P):=a.foldr (λk t=>(k,o)::t) l
noncomputable def soI(x:Nat×Ob P)(l:I (Nat×Ob P)):I (Nat×Ob P):=List.rec [x] (λy t r=>bif Nat.ble x.1 y.1 then x::y::t else y::r) l
noncomputable def aaL(l:I (Nat×Ob P)):I (Nat×Ob P):=l.foldr soI []
def tv{xs:I (I D)}{n:Nat}(e:xs.length=n)(h:vB (.sl xs)):n<=maxLen:=e▸LG h
end DV
inductive e7(P:Program):TypeId->List D->Prop
 |bool {t:TypeId} (b:Bool) (h:P.underlying t=some .bool):e7 P t [.v (.bool b)]
 |int {t:TypeId} {k:IntKind} (n:Int) (h:P.underlying t=some (.int k)) (w:(Lit.int k n).wf=true):e7 P t [.v (.int k n)]
 |str {t:TypeId} (s:ByteArray) (h:P.underlying t=some .string) (w:s.size<=maxLen):e7 P t [.v (.string s)]
 |sl {t e:TypeId} (xs:List (List D)) (h:P.underlying t=some (.slice e)) (w:xs.length<=140737488355328) (hx:∀x∈xs,e7 P e x):e7 P t [.sl xs]
 |struct {t:TypeId} {fs:Array Field} (parts:List (List D)) (h:P.underlying t=some (.struct fs)) (hl:parts.length=fs.size) (hx:∀(i:Nat)(f:Field)(x:List D),fs[i]?=some f->parts[i]?=some x->e7 P f.type x):e7 P t parts.flatten
section
variable {P:dg} {t:TypeId} {xs:I D}
def e7.am7(h:e7 P t xs)(a:P.underlying t=some .bool):∃b,xs=[.v (.bool b)]:=by
 cases h with
 |bool b h=>exact⟨b,rfl⟩
 |int n h=>rw[a]at h;cases h
 |str s h=>rw[a]at h;cases h
 |sl l h=>rw[a]at h;cases h
 |struct p h=>rw[a]at h;cases h
def e7.pG{k:IntKind}(h:e7 P t xs)(a:P.underlying t=some (.int k)):∃n,xs=[.v (.int k n)]/\k.min<=n/\n<=k.max:=by
 cases h with
 |bool b h=>rw[a]at h;cases h
 |int n h w=>
  rw[a]at h;cases h;unfold Lit.wf at w;simp only[Zr,UR]at w;exact⟨n,rfl,w⟩
 |str s h=>rw[a]at h;cases h
 |sl l h=>rw[a]at h;cases h
 |struct p h=>rw[a]at h;cases h
def e7.uC(h:e7 P t xs)(a:P.underlying t=some .string):∃s,xs=[.v (.string s)]/\s.size<=maxLen:=by
 cases h with
 |bool b h=>rw[a]at h;cases h
 |int n h=>rw[a]at h;cases h
 |str s h w=>exact⟨s,rfl,w⟩
 |sl l h=>rw[a]at h;cases h
 |struct p h=>rw[a]at h;cases h
def e7.pD{e:TypeId}(h:e7 P t xs)(a:P.underlying t=some (.slice e)):∃l,xs=[.sl l]/\l.length<=140737488355328/\∀x∈l,e7 P e x:=by
 cases h with
 |bool b h=>rw[a]at h;cases h
 |int n h=>rw[a]at h;cases h
 |str s h=>rw[a]at h;cases h
 |sl l h w c=>rw[a]at h;cases h;exact⟨l,rfl,w,c⟩
 |struct p h=>rw[a]at h;cases h
def e7.oB{c:Array Field}(h:e7 P t xs)(a:P.underlying t=some (.struct c)):∃parts:I (I D),xs=parts.flatten/\parts.length=c.size/\∀(i:Nat)(f:Field)(x:I D),c[i]?=some f->parts[i]?=some x->e7 P f.type x:=by
 cases h with
 |bool b h=>rw[a]at h;cases h
 |int n h=>rw[a]at h;cases h
 |str s h=>rw[a]at h;cases h
 |sl l h=>rw[a]at h;cases h
 |struct p h d e=>rw[a]at h;cases h;exact⟨p,rfl,d,e⟩
def ot{α:Type}{f:α->I D}{Q:α->Prop}:∀l:I (I D),(∀x∈l,∃a,x=f a/\Q a)->∃r:I α,l=r.map f/\∀a∈r,Q a
 |[],_=>⟨[],rfl,λ_ h=>by cases h⟩
 |x::l,h=>by
  obtain⟨a,rfl,d⟩:=h x Zq;obtain⟨r,rfl,e⟩:=ot l λy g=>h y (Zg _ g);refine⟨a::r,rfl,λb c=> ?_⟩;rcases Za.1 c with rfl|c
  ·exact d
  ·exact e b c
end
def Ry(P:dg)(S:I TypeId):Bool:=S.all λt=>match P.underlying t with
 |some .bool|some (.int _)|some .string=>true
 |some (.slice e)=>S.contains e&&(decide (0<P.cellsOf e)&&decide (0<P.bytesOf e))
 |some (.struct a)=>P.consecB a.toList 0 (P.cellsOf t)&&a.toList.all λf=>S.contains f.type
 |_=>false
def kK(S:Nat->Nat->Prop)(w:Zy)(cs:I kd)(xs:I D):Prop:=xs.length=cs.length/\∀(i:Nat)(u:kd)(x:D),cs[i]?=some u->xs[i]?=some x->ee S w u x/\u.oneCell'=true
def kK.nil{S:Nat->Nat->Prop}{w:Zy}:kK S w [] []:=⟨rfl,λi u x h=>by simp at h⟩
def kK.one{S:Nat->Nat->Prop}{w:Zy}{u:kd}{x:D}(h:ee S w u x)(h1:u.oneCell'=true):kK S w [u] [x]:=⟨rfl,λi v y a b=>by
 cases i with
 |zero=>cases a;cases b;exact⟨h,h1⟩
 |succ i=>simp at a⟩
def kK.app{S:Nat->Nat->Prop}{w:Zy}{a b:I kd}{x y:I D}(h:kK S w a x)(k:kK S w b y):kK S w (a++b) (x++y):=by
 refine⟨by simp [h.1,k.1],λi u z c d=> ?_⟩;by_cases e:i<a.length;{rw[ZX e]at c;rw[ZX (by rw[h.1];exact e)]at d;exact h.2 i u z c d};{rw[ZI (by omega)]at c;rw[ZI (by rw[h.1];omega),h.1]at d;exact k.2 _ u z c d}
def afI{α:Type}{Q:Nat->α->Prop}:∀n:Nat,(∀i,i<n->∃x,Q i x)->∃l:I α,l.length=n/\∀i x,l[i]?=some x->Q i x
 |0,_=>⟨[],rfl,λi x h=>by simp at h⟩
 |n+1,h=>by
  obtain⟨l,c,d⟩:=afI n λi b=>h i (by omega);obtain⟨x,f⟩:=h n (by omega);refine⟨l++[x],by simp [c],λi y a=> ?_⟩;by_cases b:i<l.length
  ·rw[ZX b]at a;exact d i y a
  ·rw[ZI (by omega)]at a;have:i-l.length=0:=by
     by_cases e:i-l.length=0;{exact e};{rw[Z9 (by simp;omega)]at a;cases a}
   rw[this]at a;cases a;have:i=n:=by omega
   rw[this];exact f
def agW{a:Addr}(h:a.spot=none)(n:Nat):a.add n=⟨a.block,a.off+n,none⟩:=by
 unfold Addr.add;split;{next e=>subst e;cases a;simp only at h;subst h;rfl};{rfl}
section
variable {H:Type} {enc:TypeId×kd->H} {P:dg} {W:Zy} {Ts:I TypeId}
abbrev sK(W:Zy):Nat->Nat->Prop:=λb _=>b<W.heap.size
def aqn{S:Nat->Nat->Prop}{w:Zy}:ee S w (.slice none 0 0) (.sl []):=
 .sl none 0 0 0 0 [] (λ_ _=>undef) (λh=>absurd rfl h) (Zv _) (by simp) (λ_ h=>by cases h) (λi j a=>by simp at a) (λi j x d b=>by simp at b)
def adj{e:TypeId}:∀{l:I (DataW H)}{d:DataW H},d∈l->∀n∈d.weights P e,n∈DataW.weightsAll P e l
 |[],_,h,_,_=>by cases h
 |x::l,d,h,n,a=>by
  simp only[DataW.weightsAll,ZN];rcases Za.1 h with rfl|h
  ·exact .inl a
  ·exact .inr (adj h n a)
def aci{a:Nat}(w:∀(t:TypeId)(cs:I kd)(d:DataW H)(e:I MemPlace),t∈Ts->(∀n∈d.weights P t,n<=reachBytes)->DataW.trod enc P W 0 (λ_=>true) true a t cs=some (d,e)->∃xs,e7 P t xs/\kK (sK W) W cs xs)(cs:I kd):
 ∀(b:I Field)(off:Nat)(ys:I (DataW H×I MemPlace)),P.consecB b off cs.length=true->(∀f∈b,f.type∈Ts)->(∀n∈DataW.weightsEach P (b.map (·.type)) (ys.map (·.1)),n<=reachBytes)->
  b.mapM (λf=>DataW.trod enc P W 0 (λ_=>true) true a f.type ((cs.drop f.offset).take (P.cellsOf f.type)))=some ys->
  ∃parts:I (I D),parts.length=b.length/\(∀(i:Nat)(f:Field)(x:I D),b[i]?=some f->parts[i]?=some x->e7 P f.type x)/\kK (sK W) W (cs.drop off) parts.flatten
 |[],off,ys,c,_,_,_=>by
  simp only[Program.consecB,Ua]at c;refine⟨[],rfl,λi f x h=>by simp at h,?_⟩;rw[List.drop_eq_nil_iff.2 (by omega)];exact kK.nil
 |f::b,off,ys,c,z,m,j=>by
  simp only[Program.consecB,Zr,Ua]at c;obtain⟨o,c⟩:=c;rw[List.mapM_cons]at j;cases k:DataW.trod enc P W 0 (λ_=>true) true a f.type ((cs.drop f.offset).take (P.cellsOf f.type))with
  |none=>simp [k]at j
  |some p=>
   cases u:b.mapM (λf=>DataW.trod enc P W 0 (λ_=>true) true a f.type ((cs.drop f.offset).take (P.cellsOf f.type)))with
   |none=>simp [k,u]at j
   |some e=>
    obtain⟨d,q⟩:=p;obtain rfl:(d,q)::e=ys:=by simpa [k,u]using j
    simp only[ZS,DataW.weightsEach,ZN]at m;obtain⟨x,C,A⟩:=w f.type _ d q (z f Zq) (λn v=>m n (.inl v)) k;obtain⟨parts,E,F,G⟩:=aci w cs b (off+P.cellsOf f.type) e c (λg l=>z g (Zg _ l)) (λn v=>m n (.inr v)) u;refine⟨x::parts,by simp [E],λi g y l B=> ?_,?_⟩
    ·cases i with
     |zero=>cases l;cases B;exact C
     |succ i=>exact F i g y (by simpa using l) (by simpa using B)
    ·rw[List.flatten_cons];rw[o]at A;have:=A.app G
     rwa [take_drop_step]at this
def kNo(hT:Ry P Ts=true):∀(g:Nat)(t:TypeId)(cs:I kd)(d:DataW H)(K:I MemPlace),t∈Ts->(∀n∈d.weights P t,n<=reachBytes)->DataW.trod enc P W 0 (λ_=>true) true g t cs=some (d,K)->∃xs,e7 P t xs/\kK (sK W) W cs xs
 |0,t,cs,d,K,_,_,h=>by simp [DataW.trod]at h
 |g+1,t,cs,d,K,ht,E,h=>by
  have IH:=kNo hT g;have c:=Zd.1 hT t ht;unfold DataW.trod at h;split at h;{next b e=>exact⟨_,.bool b e,kK.one (.v _) rfl⟩}
  ·next k k' n e=>
   split at h;{next hk=>obtain⟨rfl,L⟩:=hk;exact⟨_,.int n e L,kK.one (.v _) rfl⟩};{cases h}
  ·next e=>rw[e]at c;cases c
  ·next s e=>
   split at h;{next L=>exact⟨_,.str s e L,kK.one (.v _) rfl⟩};{cases h}
  ·next e=>rw[e]at c;cases c
  ·next e=>rw[e]at c;cases c
  ·next e q=>exact⟨_,.sl [] q (Wv _) (λx m=>absurd m Yx),kK.one aqn rfl⟩
  ·next e a len M q=>
   rw[q]at c;simp only[Zr,List.contains_iff_mem,UR]at c;obtain⟨N,AM,rm⟩:=c;simp only at h;split at h
   ·next hb=>
    obtain⟨_,mG,Ad⟩:=hb;rw[Option.bind_eq_some_iff]at h;obtain⟨elems,I0,B⟩:=h;rw[Option.map_eq_some_iff]at B;obtain⟨rest,_,B⟩:=B;cases B
    simp only[DataW.weights,q,Za,ZN,Zu]at E;have hlen:elems.length=len:=by simpa using mapM_some_length I0
    have hQ:∀i,i<len->∃x:I D,e7 P e x/\∃y,W.cells? 0 (a.add (i*P.cellsOf e)) (P.cellsOf e)=some y/\kK (sK W) W y x:=λi A=>by
     have p:=mapM_some_get I0 i i (by simp [A]);rw[Ze (by omega),Option.bind_eq_some_iff]at p;obtain⟨y,z,w⟩:=p;obtain⟨x,C,o⟩:=IH e y elems[i].1 elems[i].2 N (λn R=>E n (.inr (.inl (adj (UU.2 ⟨_,List.getElem_mem _,rfl⟩) n R)))) w;exact⟨x,C,y,z,o⟩
    obtain⟨xs,yK,Yr⟩:=afI len hQ;have F:xs≠ []->a.spot=none:=λS=>by
     have T:0<len:=by cases xs with|nil=>exact(S rfl).elim|cons x l=>simp at yK;omega
     obtain⟨x,_,y,z,_⟩:=hQ 0 T;obtain⟨_,w,C⟩:=World.cells?_some z;have o:=C 0 AM;rw[Nat.zero_mul]at o;have e0:(a.add 0).add 0=a:=by simp [Addr.add]
     rw[e0,Ze (by omega)]at o;unfold World.cell? at o;split at o
     ·split at o
      ·cases o
      ·next R=>simpa using R
     ·cases o
    have jc:∀i x,xs[i]?=some x->x.length=P.cellsOf e/\∀j,j<P.cellsOf e->∃u,W.cell? ⟨a.block,a.off+i*P.cellsOf e+j,none⟩=some u/\u.oneCell'=true/\∀d,x[j]?=some d->ee (sK W) W u d:=λi x m=>by
     obtain⟨_,y,z,w⟩:=Yr i x m;obtain⟨_,C,o⟩:=World.cells?_some z;have hs:=F (λe=>by rw[e]at m;simp at m);refine⟨w.1.trans C,λj J=> ?_⟩;have h6:=o j J;rw[agW hs,agW rfl,Ze (by omega)]at h6;have hjx:j<x.length:=by rw[w.1,C];exact J
     have G:x[j]?=some x[j]:=Ze hjx;have h7:=w.2 j _ _ (Ze (by omega)) G;exact⟨_,h6,h7.2,λd jA=>by rw[G]at jA;cases jA;exact h7.1⟩
    have aho:xs.length<=140737488355328:=by
     have p:=E _ (.inl rfl);have z:(elems.length+rest.length)*1<=(elems.length+rest.length)*P.bytesOf e:=Nat.mul_le_mul_left _ rm;have w:reachBytes<=140737488355328:=by decide
     omega
    refine⟨[.sl xs],.sl xs q aho (λx m=> ?_),kK.one ?_ rfl⟩;{obtain⟨i,A,rfl⟩:=aj.1 m;exact(Yr i _ (Ze A)).1}
    ·rw[<-yK];refine .sl (some a) a.block a.off M (P.cellsOf e) xs (λi j=>(W.cell? ⟨a.block,a.off+i*P.cellsOf e+j,none⟩).getD undef) (λS=> ?_) (by omega) Ad (λx m=> ?_) (λi j A J=> ?_) λi j x d m G=> ?_
     ·have:=F S;cases a;simp only at this;subst this;rfl
     ·obtain⟨i,A,rfl⟩:=aj.1 m;exact(jc i _ (Ze A)).1
     ·obtain⟨u,p,z,_⟩:=(jc i _ (Ze A)).2 j J;refine⟨World.block_lt_of_cell? W ⟨a.block,a.off+i*P.cellsOf e+j,none⟩ p,?_,?_⟩
      ·rw[p];rfl
      ·rw[p];exact z
     ·obtain⟨hl,hc⟩:=jc i x m;obtain⟨u,p,_,w⟩:=hc j (by rw[<-hl];exact(Zo.1 G).1);simp only[p,Option.getD_some];exact w d G
   ·cases h
  ·next y fs q=>
   rw[q]at c;simp only[Zr,Zd,List.contains_iff_mem]at c;split at h
   ·next hl=>
    rw[Option.map_eq_some_iff]at h;obtain⟨ys,hm,B⟩:=h;cases B
    simp only[DataW.weights,q]at E;obtain⟨parts,k1,k2,k3⟩:=aci IH _ fs.toList 0 ys (by rw[hl];exact c.1) c.2 E hm;exact⟨_,.struct parts q (by simpa using k1) (λi f x hf=>k2 i f x (by simpa using hf)),by simpa using k3⟩
   ·cases h
  all_goals first|(cases h;done)|(exfalso;revert c;(next e=>rw[e];intro T;cases T))
def Q1{t:TypeId}{v:kd}{d:DataW H}{b:I MemPlace}(c:Ry P Ts=true)(e:t∈Ts)(f:∀n∈d.weights P t,n<=reachBytes)(h:DataW.Trod enc P W 0 (λ_=>true) true t v d b):∃xs,e7 P t xs/\kK (sK W) W v.cells.toList xs:=
 let ⟨a,h⟩:=h
 kNo c a t _ d b e f h
def atq{t:TypeId}{a:Array Field}{v:kd}{r:Reach}{base:Nat}(b:P.underlying t=some (.struct a))(h:Value.okWide P W r base t v):∃cs,v= .agg cs:=by
 unfold Value.okWide at h;rw[b]at h;obtain⟨cs,rfl,_⟩:=h;exact⟨cs,rfl⟩
def akB{G:Gh}(e:G.S=sK W){cs:Array kd}{xs:I D}(h:kK (sK W) W cs.toList xs):aQ G W (.agg cs) (.agg (xs.map .d)):=by
 refine .agg cs _ (by rw[Zu,h.1,ZB]) λi u c f a=> ?_;rw[Zs]at a;cases b:xs[i]? with
 |none=>rw[b]at a;cases a
 |some x=>
  rw[b]at a;cases a
  exact .d (e▸(h.2 i u x (by rw[ZP];exact f) b).1)
def aeh{G:Gh}(a:G.S=sK W){v:kd}{x:D}(h:kK (sK W) W #[v].toList [x]):aQ G W v (.d x):= .d (a▸(h.2 0 v x rfl rfl).1)
end
end Go.Proofs.YtnnapanbbbcalaaGreatDoor
