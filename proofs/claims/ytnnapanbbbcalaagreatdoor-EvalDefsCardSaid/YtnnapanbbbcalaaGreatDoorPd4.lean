/-
  Part 4 of the proof: AbsWk, OpenD.
-/
import Derived.Test.YtnnapanbbbcalaaGreatDoorPd3
import Derived.ProofKit
import Derived.DataOpen
import Derived.SizedLaws
set_option linter.defProp false
namespace Go.Proofs.YtnnapanbbbcalaaGreatDoor
open Go.RowKit
set_option linter.unusedSimpArgs false
set_option linter.unusedVariables false
def O3{α:Type}(x:AV)(k:AV->α):α:=
 match x with
 | .d y=>k (.d y)
 | .agg a=>k (.agg a)
 | .bn a=>k (.bn a)
 | .ptr n o=>fN n λn=>fN o λo=>k (.ptr n o)
 | .own n xs=>fN n λn=>k (.own n xs)
 | .fn f a=>k (.fn f a)
 | .mp n=>fN n λn=>k (.mp n)
 |x=>k x
def Z8{α:Type}(x:AV)(k:AV->α):O3 x k=k x:=by cases x<;>simp [O3,AX]
def fT{α:Type}:I (Nat×AV)->(I (Nat×AV)->α)->α
 |[],k=>k []
 |(d,x)::l,k=>fN d λd=>O3 x λx=>fT l λl=>k ((d,x)::l)
def WT{α:Type}:∀(l:I (Nat×AV))(k:I (Nat×AV)->α),fT l k=k l
 |[],k=>rfl
 |(d,x)::l,k=>by rw[fT,AX,Z8,WT l]
def fC{α:Type}:I AV->(I AV->α)->α
 |[],k=>k []
 |x::l,k=>O3 x λx=>fC l λl=>k (x::l)
def WQ{α:Type}:∀(l:I AV)(k:I AV->α),fC l k=k l
 |[],k=>rfl
 |x::l,k=>by rw[fC,Z8,WQ l]
def fH{α:Type}:I ar->(I ar->α)->α
 |[],k=>k []
 | .cells a::l,k=>fC a λa=>fH l λl=>k (.cells a::l)
 | .front e z n::l,k=>fH l λl=>k (.front e z n::l)
 | .map b::l,k=>fH l λl=>k (.map b::l)
 | .gone::l,k=>fH l λl=>k (.gone::l)
 |B::l,k=>fH l λl=>k (B::l)
def qM{α:Type}:∀(l:I ar)(k:I ar->α),fH l k=k l
 |[],k=>rfl
 | .cells a::l,k=>by rw[fH,WQ,qM l]
 | .front e z n::l,k=>by rw[fH,qM l]
 | .map b::l,k=>by rw[fH,qM l]
 | .gone::l,k=>by rw[fH,qM l]
 | .jx .. ::l,k=>by rw[fH,qM l]<;>simp
 | .vec .. ::l,k=>by rw[fH,qM l]<;>simp
 | .lp .. ::l,k=>by rw[fH,qM l]<;>simp
 | .it .. ::l,k=>by rw[fH,qM l]<;>simp
 | .fG .. ::l,k=>by rw[fH,qM l]<;>simp
 | .jq .. ::l,k=>by rw[fH,qM l]<;>simp
def Wa{α:Type}(s:St)(k:St->α):α:=fN s.n λn=>fT s.t λt=>fH s.h λh=>k ⟨n,t,h⟩
def anc{α:Type}(s:St)(k:St->α):Wa s k=k s:=by unfold Wa;rw[AX,WT,qM]
inductive Fr
 |S (y:Code)
 |B (id:Nat)
 |F (k:Nat) (f:St->Prop)
def iN(P:dg)(r:U Nat)(N0:Nat)(Q:Exit->St->Prop):I Fr->Exit->St->Prop
 |[]=>Q
 | .S y::K=>jk (λs=>bQ P r N0 y (iN P r N0 Q K) s) (iN P r N0 Q K)
 | .B id::K=>sX id (iN P r N0 Q K)
 | .F _ f::K=>jk f (iN P r N0 Q K)
inductive Md
 |c (c:Code)
 |n
 |x (id:Nat)
inductive WR
 |at (c:Code) (K:List Fr) (s:St)
 |ret (s:St)
 |nrm (s:St)
 |fin (k:Nat) (s:St)
abbrev WO:=U (WR×I (In×cB))
def Ko(l:I (In×cB)):WO->WO
 |some (w,m)=>some (w,l++m)
 |none=>none
def nX(P:dg):Nat->Md->I Fr->I (I (Nat×cB))->St->WO
 |0,_,_,_,_=>none
 |F+1,m,K,A,s=>match m with
  | .n=>match K with
    |[]=>some (.nrm s,[])
    | .S y::K=>nX P F (.c y) K A s
    | .B _::K=>nX P F .n K A s
    | .F k _::_=>some (.fin k s,[])
  | .x id=>match K with
    |[]=>none
    | .S _::K=>nX P F (.x id) K A s
    | .B g::K=>nX P F (bif id==g then .n else .x id) K A s
    | .F _ _::K=>nX P F (.x id) K A s
  | .c c=>match c with
    | .seq a b=>nX P F (.c a) (.S b::K) A s
    | .block id b=>nX P F (.c b) (.B id::K) A s
    | .skip=>nX P F .n K A s
    | .ret=>some (.ret s,[])
    | .exit id=>nX P F (.x id) K A s
    | .region id d e=>match A with
      |[]=>some (.at (.region id d e) K s,[])
      |as::A=>bif !e||sP d then match pW P d e d.toList 0 as s with
         |some (f,l)=>Wa f λf=>Ko l (nX P F .n K A f)
         |none=>none
       else none
    | .cond o x y=>match A with
      |[]=>some (.at (.cond o x y) K s,[])
      |as::A=>match jN as 0 with
       | .bit b=>Ko [(.bit (ev s o),.bit b)] (nX P F (.c (bif b then x else y)) K A s)
       |_=>none
    |c=>match A with
     |[]=>some (.at c K s,[])
     |_=>none
section
variable {P:dg} {r:U Nat} {N0:Nat} {Q:Exit->St->Prop}
def PI:∀(K:I Fr)(s:St),Q .ret s->iN P r N0 Q K .ret s
 |[],_,h=>h
 | .S _::K,s,h=>PI K s h
 | .B _::K,s,h=>PI K s h
 | .F _ _::K,s,h=>PI K s h
def akg(P:dg)(r:U Nat)(N0:Nat)(Q:Exit->St->Prop)(m:Md)(K:I Fr)(s:St):Prop:=
 match m with
 | .c c=>bQ P r N0 c (iN P r N0 Q K) s
 | .n=>iN P r N0 Q K .normal s
 | .x id=>iN P r N0 Q K (.exit id) s
def HO(P:dg)(r:U Nat)(N0:Nat)(Q:Exit->St->Prop)(a:I Fr):WR->Prop
 | .at c K s=>bQ P r N0 c (iN P r N0 Q K) s
 | .ret s=>Q .ret s
 | .nrm s=>Q .normal s
 | .fin k s=>∀f,Fr.F k f∈a->f s
def HO.sub{K b:I Fr}(h:∀k f,Fr.F k f∈b->Fr.F k f∈K):∀{w:WR},HO P r N0 Q K w->HO P r N0 Q b w
 | .at _ _ _,a=>a
 | .ret _,a=>a
 | .nrm _,a=>a
 | .fin k _,a=>λf c=>a f (h k f c)
def Yj{l m:I (In×cB)}{x:WO}{w:WR}(h:Ko l x=some (w,m))(b:hO P m):∃n,x=some (w,n)/\hO P n/\hO P l:=by
 unfold Ko at h;split at h
 ·next c n=>
  cases h
  exact⟨n,rfl,λp a=>b p (Zw _ a),λp a=>b p (aa _ a)⟩
 ·cases h
def WN(v:P.follows .mixedOrders=true):∀(F:Nat)(m:Md)(K:I Fr)(A:I (I (Nat×cB)))(s:St)(w:WR)(l:I (In×cB)),nX P F m K A s=some (w,l)->hO P l->HO P r N0 Q K w->akg P r N0 Q m K s
 |0,_,_,_,_,_,_,h,_,_=>by simp [nX]at h
 |F+1,m,K,A,s,w,l,h,d,a=>by
  have g:=WN v F;have i:∀{x:Fr}{K:I Fr},∀k f,Fr.F k f∈K->Fr.F k f∈x::K:=λ_ _ h=>Zg _ h;have E:∀{y:Code}{K:I Fr},∀k f,Fr.F k f∈Fr.S y::K->Fr.F k f∈K:=λk f h=>by
   rcases ZY.1 h with h|h
   ·cases h
   ·exact h
  have G:∀{y:Nat}{K:I Fr},∀k f,Fr.F k f∈Fr.B y::K->Fr.F k f∈K:=λk f h=>by
   rcases ZY.1 h with h|h
   ·cases h
   ·exact h
  unfold nX at h;cases m with
  |n=>
   cases K with
   |nil=>cases h;exact a
   |cons x K=>
    cases x with
    |S y=>exact g (.c y) K _ _ _ _ h d (a.sub i)
    |B id=>exact g .n K _ _ _ _ h d (a.sub i)
    |F k f=>cases h;exact a _ Zl
  |x id=>
   cases K with
   |nil=>cases h
   |cons x K=>
    cases x with
    |S y=>exact g (.x id) K _ _ _ _ h d (a.sub i)
    |B z=>
     show(bif id==z then iN P r N0 Q K .normal s else iN P r N0 Q K (.exit id) s);simp only at h;cases e:id==z with
     |true=>rw[e]at h;exact g .n K _ _ _ _ h d (a.sub i)
     |false=>rw[e]at h;exact g (.x id) K _ _ _ _ h d (a.sub i)
    |F k f=>exact g (.x id) K _ _ _ _ h d (a.sub i)
  |c c=>
   simp only at h;split at h;{exact aw (g (.c _) (.S _::K) _ _ _ _ h d (a.sub E))};{exact dI (g (.c _) (.B _::K) _ _ _ _ h d (a.sub G))};{exact cO (g .n _ _ _ _ _ h d a)};{cases h;exact dk (PI K s a)};{exact lW (g (.x _) _ _ _ _ _ h d a)}
   ·next id ops dr=>
    split at h;{cases h;exact a}
    ·next as A=>
     obtain⟨J,h⟩:=lF h;split at h
     ·next R L e=>
      rw[anc]at h;obtain⟨n,p,q,u⟩:=Yj h d;have j:=g .n _ _ _ _ _ p q a;have C:=Ab (P:=P) (ops:=ops) (dr:=dr) (K:=iN P r N0 Q K .normal) ops.toList 0 s L e u j;cases dr with
      |false=>exact fS C
      |true=>
       have M:sP ops.toList.toArray=true:=by simpa using J
       have:=N5 (P:=P) (r:=r) (N0:=N0) (Q:=iN P r N0 Q K) (s:=s) (id:=id) (l:=ops.toList) v M (by simpa using C);show bQ P r N0 (.region id ops true) (iN P r N0 Q K) s
       simpa using this
     ·cases h
   ·next o x y=>
    split at h;{cases h;exact a}
    ·next as A=>
     split at h
     ·next b e=>
      obtain⟨n,p,q,u⟩:=Yj h d;have N:=OK.JQ (u (_,_) Zl);have j:=g (.c _) _ _ _ _ _ p q a;exact UR N (λe=>by subst e;exact j) (λe=>by subst e;exact j)
     ·cases h
   ·split at h
    ·cases h;exact a
    ·cases h
end
def wK:WO->I Fr
 |some (.at _ K _,_)=>K
 |_=>[]
def wS:WO->St
 |some (.at _ _ s,_)=>s
 |_=>⟨0,[],[]⟩
def kN(k:Nat):I Fr->I (St->Prop)
 |[]=>[]
 | .F a f::K=>bif a==k then f::kN k K else kN k K
 |_::K=>kN k K
def GM{k:Nat}{f:St->Prop}:∀{K:I Fr},Fr.F k f∈K->f∈kN k K
 |[],h=>by cases h
 | .S _::K,h=>by
   rcases ZY.1 h with h|h
   ·cases h
   ·exact GM (K:=K) h
 | .B _::K,h=>by
   rcases ZY.1 h with h|h
   ·cases h
   ·exact GM (K:=K) h
 | .F a g::K,h=>by
   rcases ZY.1 h with h|h
   ·cases h;simp [kN]
   ·unfold kN;cases a==k with
    |true=>exact Zg _ (GM h)
    |false=>exact GM h
def tK:WO->U (I (In×cB))
 |some (.at _ _ _,l)=>some l
 |_=>none
def nk(live:I Nat)(m:Nat):WO->U (St×I (In×cB))
 |some (.at (.loop _) _ s,l)=>(ly s live m).map (·,l)
 |_=>none
def Ba(live:I Nat)(m:Nat)(a:I Nat)(kn:I (Nat×Nat)):WO->U (St×I (In×cB))
 |some (.at (.loop _) _ s,l)=>(mX s live m a kn).map (·,l)
 |_=>none
def sS:WO->U (I (In×cB))
 |some (.at _ (.S _::_) _,l)=>some l
 |_=>none
def rR(k:Nat)(live:I Nat)(m:Nat):WO->U (St×I (In×cB))
 |some (.fin a s,l)=>bif a==k then(ly s live m).map (·,l)else none
 |_=>none
def yN(k:Nat)(live:I Nat)(m:Nat)(a:I Nat)(kn:I (Nat×Nat)):WO->U (St×I (In×cB))
 |some (.fin b s,l)=>bif b==k then(mX s live m a kn).map (·,l)else none
 |_=>none
def ue(P:dg)(a:I ResultVar):WO->U (AV×I (In×cB))
 |some (.ret s,l)=>(zk P a s).map (·,l)
 |some (.nrm s,l)=>(zk P a s).map (·,l)
 |_=>none
def Ny(P:dg)(a:I ResultVar)(m:Nat):WO->U ((AV×I ar)×I (In×cB))
 |some (.ret s,l)=>(yT P a m s).map (·,l)
 |some (.nrm s,l)=>(yT P a m s).map (·,l)
 |_=>none
def A6:I Fr->U (Code×I Fr)
 | .S y::K=>some (y,K)
 | .B _::K=>A6 K
 |_=>none
def LJ(P:dg)(a:I Nat)(as:I (Nat×cB)):WO->U (I (Nat×AV)×I ar×I (In×cB))
 |some (.at (.region _ b c) K s,_)=>bif (!c||sP b)&&(A6 K).isSome then sU P c b.toList as a s else none
 |_=>none
def iv(k:Nat)(f:St->Prop)(s:St):WO->WO
 |some (.at (.loop b) K _,_)=>some (.at b (.F k f::K) s,[])
 |_=>none
def wi(k:Nat)(f:St->Prop):WO->WO
 |some (.at c (.S _::K) s,_)=>some (.at c (.F k f::K) s,[])
 |_=>none
def wA(s:St):WO->WO
 |some (.at _ (.S y::K) _,_)=>some (.at y K s,[])
 |_=>none
def vY(Δ:I (Nat×AV))(h':I ar):WO->WO
 |some (.at _ K s,_)=>match A6 K with
  |some (y,a)=>some (.at y a ⟨s.n,Δ++s.t,h'⟩,[])
  |none=>none
 |_=>none
def Rc(f:St->St):WO->WO
 |some (.at c K s,l)=>some (.at c K (f s),l)
 |_=>none
def WL:Nat:=4000
def wk(P:dg)(w:WO)(a:I (I (Nat×Ob P))):WO:=
 match w with
 |some (.at c K s,_)=>nX P WL (.c c) K (a.map jV) s
 |_=>none
def eG{P:dg}(a:I (I (Nat×Ob P))):I (In×cB):=a.flatMap kf
def aoc{P:dg}(a:I (I (Nat×Ob P))):hO P (eG a):=λp b=>by
 obtain⟨l,_,h⟩:=List.mem_flatMap.1 b;exact qO l p h
def sW{α β:Type}{x:U α}{l:β}{y:α}{m:β}(h:x.map (·,l)=some (y,m)):x=some y/\l=m:=by
 cases x with
 |none=>cases h
 |some z=>cases h;exact⟨rfl,rfl⟩
def DE(P:dg)(r:U Nat)(N0:Nat)(Q:Exit->St->Prop):WO->Prop
 |some (.at c K s,_)=>bQ P r N0 c (iN P r N0 Q K) s
 |_=>True
structure GW(P:Program)(r:Option Nat)(N0:Nat)(Q:Exit->St->Prop)(w:WO):Prop where
 run:DE P r N0 Q w
section
variable {P:dg} {r:U Nat} {N0:Nat} {Q:Exit->St->Prop} {w0:WO}
def pC{a:I (I (Nat×Ob P))}(b:P.follows .mixedOrders=true){w:WR}(e:wk P w0 a=some (w,eG a))(d:∀K,(∀k f,Fr.F k f∈K->Fr.F k f∈wK w0)->HO P r N0 Q K w):GW P r N0 Q w0:=by
 constructor
 unfold wk at e;split at e;{next c K s l=>exact WN b WL (.c c) K _ s w _ e (aoc a) (d K λk f h=>h)};{cases e}
def fZ(b:P.follows .mixedOrders=true)(a:I (I (Nat×Ob P)))(k:GW P r N0 Q (wk P w0 a))(e:tK (wk P w0 a)=some (eG a):=by kernel_rfl):GW P r N0 Q w0:=by
 generalize c:wk P w0 a=w at e k;unfold tK at e;split at e;{cases e;exact pC b c λK _=>k.run};{cases e}
def ajH(c:P.follows .mixedOrders=true){fn:Func}{R:AV}(a:I (I (Nat×Ob P)))(e:ue P fn.results.toList (wk P w0 a)=some (R,eG a)):GW P r N0 (mf P fn R) w0:=by
 generalize d:wk P w0 a=w at e;unfold ue at e;split at e;{obtain⟨b,rfl⟩:=sW e;exact pC c d λK _=>b};{obtain⟨b,rfl⟩:=sW e;exact pC c d λK _=>b};{cases e}
def apM(c:P.follows .mixedOrders=true){fn:Func}{m:Nat}{R:AV}{H:I ar}(a:I (I (Nat×Ob P)))(e:Ny P fn.results.toList m (wk P w0 a)=some ((R,H),eG a)):GW P r N0 (xh P fn m R H) w0:=by
 generalize d:wk P w0 a=w at e;unfold Ny at e;split at e;{obtain⟨b,rfl⟩:=sW e;exact pC c d λK _=>b};{obtain⟨b,rfl⟩:=sW e;exact pC c d λK _=>b};{cases e}
def wr(b:P.follows .mixedOrders=true){fn:Func}{R:AV}(a:I (I (Nat×Ob P)))(e:ue P fn.results.toList (wk P w0 a)=some (R,eG a):=by kernel_rfl):GW P r N0 (mf P fn R) w0:=ajH b a e
def oF(b:P.follows .mixedOrders=true){fn:Func}{m:Nat}{R:AV}{H:I ar}(a:I (I (Nat×Ob P)))(e:Ny P fn.results.toList m (wk P w0 a)=some ((R,H),eG a):=by kernel_rfl):GW P r N0 (xh P fn m R H) w0:=apM b a e
structure KW{ι:Type}(k:Nat)(live:List Nat)(m:Nat)(st:ι->St)(I:ι->Prop)(μ:ι->Nat)(i0:ι)(f:St->Prop):Prop where
 h:∀s' i',ly s' live m=some (st i')->I i'->μ i'<μ i0->f s'
structure Pq{ι:Type}(k:Nat)(live:List Nat)(m:Nat)(ks:List Nat)(kn:List (Nat×Nat))(st:ι->St)(I:ι->Prop)(μ:ι->Nat)(i0:ι)(f:St->Prop):Prop where
 h:∀s' i',jy m (s'.h.take m)->mX s' live m ks kn=some (st i')->I i'->μ i'<μ i0->f s'
structure vZ{ι:Type}(k:Nat)(live:List Nat)(m:Nat)(st:ι->St)(I:ι->Prop)(f:St->Prop):Prop where
 h:∀s' i',ly s' live m=some (st i')->I i'->f s'
structure Lh{ι:Type}(k:Nat)(live:List Nat)(m:Nat)(ks:List Nat)(kn:List (Nat×Nat))(st:ι->St)(I:ι->Prop)(f:St->Prop):Prop where
 h:∀s' i',jy m (s'.h.take m)->mX s' live m ks kn=some (st i')->I i'->f s'
def NU(c:P.follows .mixedOrders=true){k:Nat}{a:St}{f:St->Prop}(b:I (I (Nat×Ob P)))(d:kN k (wK w0)=[f])(e:wk P w0 b=some (.fin k a,eG b))(h:f a):GW P r N0 Q w0:=
 pC c e λK i g j=>by
  have:=GM (i k g j);rw[d,ZZ]at this;subst this;exact h
def Bc(g:P.follows .mixedOrders=true){ι:Type}{live:I Nat}{m k:Nat}{c:ι->St}{a:ι->Prop}{μ:ι->Nat}{i0:ι}{f:St->Prop}(j:KW k live m c a μ i0 f)(i:ι)(b:I (I (Nat×Ob P)))(n:a i)(o:μ i<μ i0:=by exact Yu _)(p:kN k (wK w0)=[f]:=by kernel_rfl)(e:rR k live m (wk P w0 b)=some (c i,eG b):=by kernel_rfl):GW P r N0 Q w0:=by
 generalize q:wk P w0 b=w at e;unfold rR at e;split at e
 ·next v x l=>
  obtain⟨d,e⟩:=lF e;obtain⟨u,rfl⟩:=sW e;rw[Ve]at d;subst d;exact NU g b p q (j.h _ i u n o)
 ·cases e
def we:I ar->I (I (I AV))
 |[]=>[]
 | .vec _ _ a::l=>a::we l
 |_::l=>we l
structure VE(m:Nat) where
 x:List (List AV)
 ok:∀e k,(ar.vec e k x).B9 m
def VE.zx{m:Nat}(xs:I (I D)):VE m:=⟨cg xs,λ_ _=>(l6 (m:=m) (l:=[]) jQ).1⟩
def Gk{m:Nat}:∀(l:I ar)(gC:I (VE m)),we l=gC.map VE.x->jy m l
 |[],_,_=>jQ
 |B::l,gC,h=>by
  cases B with
  |vec e k a=>
   cases gC with
   |nil=>cases h
   |cons v b=>
    have c:a=v.x:=(List.cons.inj h).1;subst c;exact⟨v.ok e k,Gk l b (List.cons.inj h).2⟩
  |_=>exact⟨trivial,Gk l gC h⟩
def tq(m:Nat):WO->I (I (I AV))
 |some (.fin _ s,_)=>we (s.h.take m)
 |some (.at _ _ s,_)=>we (s.h.take m)
 |_=>[]
def ZI(j:P.follows .mixedOrders=true){ι:Type}{live:I Nat}{m k:Nat}{c:I Nat}{kn:I (Nat×Nat)}{d:ι->St}{a:ι->Prop}{μ:ι->Nat}{i0:ι}{f:St->Prop}(n:Pq k live m c kn d a μ i0 f)(i:ι)(b:I (I (Nat×Ob P)))(o:a i)(p:μ i<μ i0:=by exact Yu _)(q:kN k (wK w0)=[f]:=by kernel_rfl)(gC:I (VE m):=[])(e0:tq m (wk P w0 b)=gC.map VE.x:=by kernel_rfl)(e:yN k live m c kn (wk P w0 b)=some (d i,eG b):=by kernel_rfl):GW P r N0 Q w0:=by
 generalize u:wk P w0 b=w at e e0;unfold yN at e;split at e
 ·next y z l=>
  obtain⟨g,e⟩:=lF e;obtain⟨v,rfl⟩:=sW e;rw[Ve]at g;subst g;exact NU j b q u (n.h _ i (Gk _ gC e0) v o p)
 ·cases e
def mA(g:P.follows .mixedOrders=true){ι:Type}{live:I Nat}{m k:Nat}{c:ι->St}{a:ι->Prop}{f:St->Prop}(j:vZ k live m c a f)(i:ι)(b:I (I (Nat×Ob P)))(n:a i)(o:kN k (wK w0)=[f]:=by kernel_rfl)(e:rR k live m (wk P w0 b)=some (c i,eG b):=by kernel_rfl):GW P r N0 Q w0:=by
 generalize p:wk P w0 b=w at e;unfold rR at e;split at e
 ·next u v l=>
  obtain⟨d,e⟩:=lF e;obtain⟨q,rfl⟩:=sW e;rw[Ve]at d;subst d;exact NU g b o p (j.h _ i q n)
 ·cases e
def Hn(j:P.follows .mixedOrders=true){ι:Type}(k:Nat)(d:I (I (Nat×Ob P)))(live:I Nat)(m:Nat)(g:ι->St)(a:ι->Prop)(μ:ι->Nat)(h:ι)(n:a h)
 (c:∀i,a i->∀f:St->Prop,KW k live m g a μ i f->GW P r N0 Q (iv k f (g i) (wk P w0 d)))
 (o:N0<=m:=by exact Zh rfl) (e:nk live m (wk P w0 d)=some (g h,eG d):=by kernel_rfl):GW P r N0 Q w0:=by
 generalize p:wk P w0 d=w at e c;unfold nk at e;split at e
 ·next b B q l=>
  obtain⟨u,rfl⟩:=sW e;refine pC j p λK _=> ?_;refine SP live m g a μ h o u n λi v=> ?_;exact(c i v _ ⟨λq x y z A=>⟨x,y,z,A⟩⟩).run
 ·cases e
def V2(n:P.follows .mixedOrders=true){ι:Type}(k:Nat)(d:I (I (Nat×Ob P)))(live:I Nat)(m:Nat)(h:I Nat)(kn:I (Nat×Nat))(g:ι->St)(a:ι->Prop)(μ:ι->Nat)(j:ι)(o:a j)
 (c:∀i,a i->∀f:St->Prop,Pq k live m h kn g a μ i f->GW P r N0 Q (iv k f (g i) (wk P w0 d)))
 (p:N0<=m:=by exact Zh rfl) (gC:I (VE m):=[]) (e0:tq m (wk P w0 d)=gC.map VE.x:=by kernel_rfl) (e:Ba live m h kn (wk P w0 d)=some (g j,eG d):=by kernel_rfl):GW P r N0 Q w0:=by
 generalize q:wk P w0 d=w at e e0 c;unfold Ba at e;split at e
 ·next b F u l=>
  obtain⟨v,rfl⟩:=sW e;refine pC n q λK _=> ?_;refine KL live m h kn g a μ j p ⟨Gk _ gC e0,v⟩ o λi y=> ?_;exact(c i y _ ⟨λu z A B C E=>⟨z,⟨A,B⟩,C,E⟩⟩).run
 ·cases e
def IQ(g:P.follows .mixedOrders=true){ι:Type}(k:Nat)(b:I (I (Nat×Ob P)))(live:I Nat)(m:Nat)(c:ι->St)(a:ι->Prop)
 (d:∀f:St->Prop,vZ k live m c a f->GW P r N0 Q (wi k f (wk P w0 b)))
 (rest:∀i,a i->GW P r N0 Q (wA (c i) (wk P w0 b))) (h:N0<=m:=by exact Zh rfl) (e:sS (wk P w0 b)=some (eG b):=by kernel_rfl):GW P r N0 Q w0:=by
 generalize j:wk P w0 b=w at e d rest;unfold sS at e;split at e
 ·cases e
  refine pC g j λK _=> ?_;exact rE live m c a h (d _ ⟨λq l n o=>⟨l,n,o⟩⟩).run λi p=>(rest i p).run
 ·cases e
def anf(j:P.follows .mixedOrders=true){ι:Type}{live:I Nat}{m k:Nat}{c:I Nat}{kn:I (Nat×Nat)}{d:ι->St}{a:ι->Prop}{f:St->Prop}(n:Lh k live m c kn d a f)(i:ι)(b:I (I (Nat×Ob P)))(o:a i)(gC:I (VE m):=[])(e0:tq m (wk P w0 b)=gC.map VE.x:=by kernel_rfl)(p:kN k (wK w0)=[f]:=by kernel_rfl)(e:yN k live m c kn (wk P w0 b)=some (d i,eG b):=by kernel_rfl):GW P r N0 Q w0:=by
 generalize q:wk P w0 b=w at e e0;unfold yN at e;split at e
 ·next v y l=>
  obtain⟨g,e⟩:=lF e;obtain⟨u,rfl⟩:=sW e;rw[Ve]at g;subst g;exact NU j b p q (n.h _ i (Gk _ gC e0) u o)
 ·cases e
def ajW(h:P.follows .mixedOrders=true){ι:Type}(k:Nat)(b:I (I (Nat×Ob P)))(live:I Nat)(m:Nat)(d:I Nat)(kn:I (Nat×Nat))(c:ι->St)(a:ι->Prop)
 (g:∀f:St->Prop,Lh k live m d kn c a f->GW P r N0 Q (wi k f (wk P w0 b)))
 (rest:∀i,a i->GW P r N0 Q (wA (c i) (wk P w0 b))) (j:N0<=m:=by exact Zh rfl) (e:sS (wk P w0 b)=some (eG b):=by kernel_rfl):GW P r N0 Q w0:=by
 generalize l:wk P w0 b=w at e g rest;unfold sS at e;split at e
 ·cases e
  refine pC h l λK _=> ?_;exact WZ live m d kn c a j (g _ ⟨λv n o p q=>⟨n,⟨o,p⟩,q⟩⟩).run λi u=>(rest i u).run
 ·cases e
def J7:∀{K:I Fr}{y:Code}{a:I Fr}{s:St},A6 K=some (y,a)->bQ P r N0 y (iN P r N0 Q a) s->iN P r N0 Q K .normal s
 |[],_,_,_,h,_=>by cases h
 | .S y::K,_,_,_,h,k=>by cases h;exact k
 | .B _::K,_,_,s,h,k=>J7 (K:=K) (s:=s) h k
 | .F _ _::K,_,_,_,h,_=>by cases h
def aoN(d:P.follows .mixedOrders=true)(Δ:I (Nat×AV))(h':I ar)(e:∃a:I (Nat×Ob P),LJ P (Δ.map (·.1)) (jV a) (wk P w0 [])=some (Δ,h',kf a))(k:GW P r N0 Q (vY Δ h' (wk P w0 [])))(e0:tK (wk P w0 [])=some []:=by kernel_rfl):GW P r N0 Q w0:=by
 generalize h:wk P w0 []=w at e k e0;obtain⟨a,e⟩:=e;unfold LJ at e;split at e
 ·next id ops dr b s' l=>
  obtain⟨c,e⟩:=lF e;rw[Zo]at c;cases e0
  refine pC d h λK _=> ?_;obtain⟨s1,i,j,m,o⟩:=Ld e;obtain⟨p,f⟩:=aj.1 c.2;obtain⟨y,v⟩:=p;have q:iN P r N0 Q b .normal s1:=by
   refine J7 f (Mn (s:=s1) (s':=⟨s'.n,Δ++s'.t,h'⟩) j.symm m.symm o ?_);have k:=k.run;simp only[vY,f]at k;exact k
  show bQ P r N0 (.region id ops dr) (iN P r N0 Q b) s';have g:=Ab (P:=P) (ops:=ops.toList.toArray) (dr:=dr) (K:=iN P r N0 Q b .normal) ops.toList 0 s' _ i (qO a) q;cases dr with
  |false=>exact fS (by simpa using g)
  |true=>
   have u:sP ops.toList.toArray=true:=by simpa using c.1
   have:=N5 (P:=P) (r:=r) (N0:=N0) (Q:=iN P r N0 Q b) (s:=s') (id:=id) (l:=ops.toList) d u (by simpa using g)
   simpa using this
 ·cases e
def WI(P:dg)(a:I Nat)(as:I (Nat×cB)):WO->U (I (I (Nat×AV)×I ar×I (In×cB)))
 |some (.at (.region _ b true) K s,_)=>bif (A6 K).isSome then A0 P b.toList as a s else none
 |_=>none
def MP(m:Nat)(d:P.follows .mixedOrders=true)(Δ:I (Nat×AV))(h':I ar)(e:∃b:I (Nat×Ob P),WI P (Δ.map (·.1)) (jV b) (wk P w0 [])=some (List.replicate m (Δ,h',kf b)))(k:GW P r N0 Q (vY Δ h' (wk P w0 [])))(e0:tK (wk P w0 [])=some []:=by kernel_rfl):GW P r N0 Q w0:=by
 generalize i:wk P w0 []=w at e k e0;obtain⟨b,e⟩:=e;unfold WI at e;split at e
 ·next id a f c l=>
  obtain⟨j,e⟩:=lF e;cases e0
  refine pC d i λK _=> ?_;obtain⟨p,g⟩:=aj.1 j;obtain⟨y,o⟩:=p;show bQ P r N0 (.region id a true) (iN P r N0 Q f) c;have:=rte (r:=r) (N0:=N0) (Q:=iN P r N0 Q f) (id:=id) (ol:=a.toList) (n:=c.n) (t:=c.t) (h:=c.h) m d b Δ h' e (J7 g (by
   have k:=k.run;simp only[vY,g]at k;exact k))
  simpa using this
 ·cases e
def WD(P:dg)(b:I Nat)(as:I (Nat×cB)):WO->U (I (Nat×AV)×I ar×I (In×cB))
 |some (.at (.region _ a true) K s,_)=>bif (A6 K).isSome&&Ib true a (List.range a.toList.length)&&H5 as 0 a.toList then sU P false a.toList as b s else none
 |_=>none
def AQ(f:P.follows .mixedOrders=true)(c:I (Nat×Ob P))(Δ:I (Nat×AV))(h':I ar)(k:GW P r N0 Q (vY Δ h' (wk P w0 [])))(e:WD P (Δ.map (·.1)) (jV c) (wk P w0 [])=some (Δ,h',kf c):=by kernel_rfl)(e0:tK (wk P w0 [])=some []:=by kernel_rfl):GW P r N0 Q w0:=by
 generalize h:wk P w0 []=w at e k e0;unfold WD at e;split at e
 ·next id a d s' l=>
  obtain⟨b,e⟩:=lF e;rw[Zo,Zo]at b;cases e0
  refine pC f h λK _=> ?_;obtain⟨p,g⟩:=aj.1 b.1.1;obtain⟨y,i⟩:=p;show bQ P r N0 (.region id a true) (iN P r N0 Q d) s';have j:bQ P r N0 y (iN P r N0 Q i) ⟨s'.n,Δ++s'.t,h'⟩:=by
   have k:=k.run;simp only[vY,g]at k;exact k
  obtain⟨s1,o,q,u,v⟩:=Ld e;have x:iN P r N0 Q d .normal s1:=J7 g (Mn (s:=s1) (s':=⟨s'.n,Δ++s'.t,h'⟩) q.symm u.symm v j);have z:Ib true a.toList.toArray (List.range a.toList.length)=true:=by simpa using b.1.2
  have:bQ P r N0 (.region id a.toList.toArray true) (iN P r N0 Q d) s':=by
   refine YN (m:=true) (List.range a.toList.length) f (by simp) z ?_;rw[WU];exact RT a.toList 0 _ _ o (qO c) b.2 x
  simpa using this
 ·cases e
def TG(b:Nat):ar->I (Nat×Nat×Nat×Nat)
 | .cells a=>AV.tk b a
 | .lp .. =>[(1,0,0,0)]
 | .it .. =>[(1,0,0,0)]
 | .fG _ a=>AV.tk b a
 |_=>[]
structure VM(b L kk:Nat)(ys:List (List D)) where
 x:List (List AV)
 y:List (List AV)
 ok:ys.length=L->y=x.map (·.map (AV.dD b kk ys))
def VM.zx{b L a:Nat}{ys:I (I D)}(zs:I (I D)):VM b L a ys:=⟨cg zs,cg zs,λ_=>(P6 (λd=>by simp [AV.dD]) zs).symm⟩
def ru(b:Nat)(ys:I (I D)):I ar->I (I (I AV))->I ar
 |[],_=>[]
 |B::l,a=>match B with
  | .vec e k c=>match a with
    |v::a=>.vec e k v::ru b ys l a
    |[]=>.vec e k c::ru b ys l []
  | .cells c=>.cells (AV.nH b ys c)::ru b ys l a
  | .fG T c=>.fG T (AV.nH b ys c)::ru b ys l a
  |B=>B::ru b ys l a
def WC{b L d:Nat}{ys:I (I D)}(z:ys.length=L):∀(h:I ar)(a:I (VM b L d ys)),we h=a.map VM.x->(∀q∈h.flatMap (TG b),q=(0,ys.length,ys.length,d))->ru b ys h (a.map VM.y)=h.map (ar.lr (AV.dD b d ys))
 |[],_,_,_=>rfl
 |B::l,a,f,A=>by
  have g:∀a:I (VM b L d ys),we l=a.map VM.x->ru b ys l (a.map VM.y)=l.map (ar.lr (AV.dD b d ys)):=λa f=>WC z l a f λq o=>A q (by rw[List.flatMap_cons];exact Zw _ o);have j:∀q∈TG b B,q=(0,ys.length,ys.length,d):=λq o=>A q (by rw[List.flatMap_cons];exact aa _ o);cases B with
  |vec e k c=>
   cases a with
   |nil=>cases f
   |cons v a=>
    have u:c=v.x:=(List.cons.inj f).1;have i:(ar.vec e k c).lr (AV.dD b d ys)= .vec e k v.y:=by rw[v.ok z,u];rfl
    show ar.vec e k v.y::ru b ys l (a.map VM.y)=ar.lr (AV.dD b d ys) (.vec e k c)::l.map _;rw[g a (List.cons.inj f).2,i]
  |cells c=>
   have i:(ar.cells c).lr (AV.dD b d ys)= .cells (AV.nH b ys c):=by
    rw[<-vE c j,uo];rfl
   show ar.cells (AV.nH b ys c)::ru b ys l (a.map VM.y)=ar.lr (AV.dD b d ys) (.cells c)::l.map _;rw[g a f,i]
  |front e k n=>exact congrArg (ar.front e k n::·) (g a f)
  |jq e q=>exact congrArg (ar.jq e q::·) (g a f)
  |map w=>exact congrArg (ar.map w::·) (g a f)
  |jx w=>exact congrArg (ar.jx w::·) (g a f)
  |gone=>exact congrArg (ar.gone::·) (g a f)
  |lp C p as E c=>have:=congrArg Prod.fst (j (1,0,0,0) Zl);cases this
  |it F c=>have:=congrArg Prod.fst (j (1,0,0,0) Zl);cases this
  |fG m c=>
   have i:(ar.fG m c).lr (AV.dD b d ys)= .fG m (AV.nH b ys c):=by
    rw[<-vE c j,uo];rfl
   show ar.fG m (AV.nH b ys c)::ru b ys l (a.map VM.y)=ar.lr (AV.dD b d ys) (.fG m c)::l.map _;rw[g a f,i]
def anV{c:Code}{s:St}(live:I Nat)(b:Nat)(xs:I (I D)){e k L:Nat}(h':I ar)(f:s.h[b]?=some (.vec e k (cg xs)))(g:∀c∈xs,c.all D.wX=true)(B:xs.length=L)
 (j:∀q∈live.flatMap λi=>(bM s.t i).sk b,q=(0,xs.length,xs.length,k)) (l:h'=s.h.map (ar.lr (AV.dD b k xs))) (K:bQ P r N0 c Q ⟨s.n,live.map (λi=>(i,(bM s.t i).mlt b xs)),h'.set b .gone⟩):bQ P r N0 c Q s:=by
 constructor
 intro G w a n m d;obtain⟨o,u,v,x⟩:=m.U6 xs f g;refine wpIn_mono (K.run o w a n (x.less rfl (by rw[l]) λi=> ?_) (by rw[v];exact d)) λ_ _ _ y=>y.trans (u.less d);show bM (live.map (λi=>(i,(bM s.t i).mlt b xs))) i=bM (s.t.map λp=>(p.1,p.2.dD b k xs)) i\/_;rw[sK (λk=>(bM s.t k).mlt b xs),Fg (AV.dD b k xs) (by simp [AV.dD])];split
 ·next z=>
  left
  refine(Vm _ λq A=>j q ?_).symm;exact List.mem_flatMap.2 ⟨i,z,A⟩
 ·exact .inr rfl
def ajG(live:I Nat)(b:Nat)(s:St):I (Nat×Nat×Nat×Nat):=(live.flatMap λi=>(bM s.t i).sk b)++s.h.flatMap (TG b)
def alA(live:I Nat)(b:Nat)(ys:I (I D))(a:I (I (I AV)))(s:St):St:=⟨s.n,live.map (λi=>(i,(bM s.t i).mlt b ys)),(ru b ys s.h a).set b .gone⟩
def arR(live:I Nat)(b:Nat){xs:I (I D)}(ys:I (I D))(L c e k:Nat)(a:I (VM b L k ys))(d:xs.length=L)(i:ys=xs)(j:∀c∈xs,c.all D.wX=true)(K:GW P r N0 Q (Rc (alA live b ys (a.map VM.y)) w0))(m:(wS w0).h[b]?=some (.vec e k (cg xs)):=by kernel_rfl)(n:ajG live b (wS w0)=List.replicate c (0,L,L,k):=by kernel_rfl)(o:we (wS w0).h=a.map VM.x:=by kernel_rfl):GW P r N0 Q w0:=by
 subst i;constructor
 unfold DE;split
 ·next c p s l=>
  have g:=JU d n;exact anV live b ys _ m j d (λq f=>g q (aa _ f)) (WC d s.h a o λq f=>g q (Zw _ f)) K.run
 ·trivial
def WA{m:Nat}:([]:I ar).all (ar.aN m)=true:=rfl
def Bu{B:ar}{l:I ar}{m:Nat}(h:B.aN m=true)(k:l.all (ar.aN m)=true):(B::l).all (ar.aN m)=true:=by rw[Z4,h,k];rfl
def W9{e k m:Nat}{xs:I (I D)}:(ar.vec e k (cg xs)).aN m=true:=X1 xs
def asE{m n:Nat}{T:I (Nat×AV)}{b:ar}{next:I ar->Prop}{Q:Exit->St->Prop}{s:St}(a:I ar)(d:a.length=m)(e:a.all (ar.aN (m+1))=true)(c:jy (m+1) (s.h.take (m+1))/\mX s [] (m+1) [] []=some ⟨s.n,[],a++[b]⟩)(f:next a):GV m n T b next Q .normal s:=⟨a,d,e,⟨λh=>h.mX c.1 c.2⟩,f⟩
def W8(k:Nat)(xs:I (I D))(a:(bM (wS w0).t k).gN=some xs)(h:vA (.sl xs)->GW P r N0 Q w0):GW P r N0 Q w0:=by
 constructor
 unfold DE;split;{next c K s l=>exact x9 k xs a λb=>(h b).run};{trivial}
def EK(b i:Nat)(xs:I (I D))(a:(((wS w0).h[b]?).bind λB=>match B with| .cells cs=>(cs[i]?).bind AV.gN|_=>none)=some xs)(h:vA (.sl xs)->GW P r N0 Q w0):GW P r N0 Q w0:=by
 constructor
 unfold DE;split;{next c K s l=>exact alY b i xs a λd=>(h d).run};{trivial}
def adS(k e a:Nat)(xs:I (I D))(s:St):St:=⟨s.n,(k,.own s.h.length xs)::s.t,s.h++[.front e a xs.length]⟩
def OA(b i e a:Nat)(xs:I (I D))(s:St):St:=match s.h[b]? with
 |some (.cells c)=>⟨s.n,s.t,(s.h++[ar.front e a xs.length]).set b (ar.cells (c.set i (AV.own s.h.length xs)))⟩
 |_=>s
def P2(xs:I (I D)):AV->Bool
 | .d (.v (.slice none 0 0))=>xs.isEmpty
 |_=>false
def W5{xs:I (I D)}{x:AV}(h:P2 xs x=true):x= .d (.v (.slice none 0 0))/\xs=[]:=by
 unfold P2 at h;split at h;{exact⟨rfl,List.isEmpty_iff.1 h⟩};{cases h}
def mR(k e a:Nat)(xs:I (I D))(b:bM (wS w0).t k= .full xs\/P2 xs (bM (wS w0).t k)=true)(h:GW P r N0 Q (Rc (adS k e a xs) w0)):GW P r N0 Q w0:=by
 constructor
 unfold DE;split;{next c K s l=>exact Pt k e a xs (b.imp id W5) h.run};{trivial}
def P5(b i:Nat)(s:St):AV:=match s.h[b]? with
 |some (.cells a)=>(a[i]?).getD .dead
 |_=>.dead
def W0{b i:Nat}{s:St}{x:AV}(h:P5 b i s=x)(a:x≠ .dead):∃cs,s.h[b]?=some (.cells cs)/\cs[i]?=some x:=by
 unfold P5 at h;split at h
 ·next cs d=>
  refine⟨cs,d,?_⟩;cases c:cs[i]? with
  |none=>rw[c]at h;exact absurd h.symm a
  |some y=>rw[c]at h;rw[<-h];rfl
 ·exact absurd h.symm a
def akq(b i e g:Nat)(xs:I (I D))(d:P5 b i (wS w0)= .full xs\/P2 xs (P5 b i (wS w0))=true)(h:GW P r N0 Q (Rc (OA b i e g xs) w0)):GW P r N0 Q w0:=by
 constructor
 unfold DE;split
 ·next c K s l=>
  have a:bQ P r N0 c (iN P r N0 Q K) (OA b i e g xs s):=h.run;rcases d with d|d
  ·obtain⟨j,f,k⟩:=W0 d (λh=>by cases h);unfold OA at a;rw[show s.h[b]?=some (.cells j)from f]at a;exact UT b i e g xs f (.inl k) a
  ·obtain⟨m,rfl⟩:=W5 d;obtain⟨j,f,k⟩:=W0 m (λh=>by cases h);unfold OA at a;rw[show s.h[b]?=some (.cells j)from f]at a;exact UT b i e g [] f (.inr ⟨k,rfl⟩) a
 ·trivial
end
def bc{α:Type}{c:Bool}{a b x:α}{G:Prop}(h:(bif c then a else b)=x)(t:c=true->a=x->G)(f:c=false->b=x->G):G:=by
 cases c with
 |true=>exact t rfl h
 |false=>exact f rfl h
def sj{α:Type}{a b:α}(h:some a=some b):a=b:=Zs h
def xw{α:Type}{c:Bool}{x:U α}{r:α}(h:(bif c then x else none)=some r):c=true/\x=some r:=by
 cases c with
 |true=>exact⟨rfl,h⟩
 |false=>cases h
def DH(fn:Func)(args:I AV)(h:I ar):WO:=some (.at (fn.body.getD .skip) [] {n:=args.length+(fn.ntmps-args.length),t:=nj 0 args,h:=h},[])
def arP{P:dg}{f:FuncId}{fn:Func}{args:I AV}{R:AV}(b:P.funcs[f]?=some fn)(d:fn.body.isSome=true)(e:(fn.name== "runtime.NumGoroutine")=false)
 (g:GW P none 0 (mf P fn R) (DH fn args [])):gZ P f args (·=R):=by
 obtain⟨c,a⟩:=aj.1 d;refine mJ b a e ?_;have:fn.body.getD .skip=c:=by rw[a];rfl
 rw[<-this];exact g.run
def amB{P:dg}{f:FuncId}{fn:Func}{args:I AV}{h H:I ar}{R:AV}(m:Nat)(b:P.funcs[f]?=some fn)(d:fn.body.isSome=true)(e:(fn.name== "runtime.NumGoroutine")=false)(g:h.length<=m)
 (i:GW P none h.length (xh P fn m R H) (DH fn args h)):dq P f args h λj h1=>j=R/\h1=H:=by
 obtain⟨c,a⟩:=aj.1 d;refine tv m b a e g ?_;have:fn.body.getD .skip=c:=by rw[a];rfl
 rw[<-this];exact i.run
section Cn
variable {P:dg}
def oL{α:Type}{f:I α->I (I D)}(l:I α)(h:(f l).length=l.length):Ob P:=⟨_,_,.len h⟩
def oE{xs:I (I D)}{k:Nat}{c:I D}(h:xs[k]?=some c):Ob P:=⟨_,_,.el (xs:=xs) (i:=(k:Int)) (Int.natCast_nonneg _) h⟩
def oq{a b:AV}(h:a=b):Ob P:=⟨_,_,.eq h⟩
def os(a:I Nat)(o:Ob P)(l:I (Nat×Ob P)):I (Nat×Ob P):=a.foldr (λk t=>(k,o)::t) l
noncomputable def soI(x:Nat×Ob P)(l:I (Nat×Ob P)):I (Nat×Ob P):=List.rec [x] (λy t r=>bif Nat.ble x.1 y.1 then x::y::t else y::r) l
noncomputable def aa9(l:I (Nat×Ob P)):I (Nat×Ob P):=l.foldr soI []
def td{xs:I (I D)}{n:Nat}(e:xs.length=n)(h:vA (.sl xs)):n<=maxLen:=e▸Ma h
end Cn
inductive eX(P:Program):TypeId->List D->Prop
 |bool {t:TypeId} (b:Bool) (h:P.underlying t=some .bool):eX P t [.v (.bool b)]
 |int {t:TypeId} {k:IntKind} (n:Int) (h:P.underlying t=some (.int k)) (w:(Lit.int k n).wf=true):eX P t [.v (.int k n)]
 |str {t:TypeId} (s:ByteArray) (h:P.underlying t=some .string) (w:s.size<=maxLen):eX P t [.v (.string s)]
 |sl {t e:TypeId} (xs:List (List D)) (h:P.underlying t=some (.slice e)) (w:xs.length<=140737488355328) (hx:∀x∈xs,eX P e x):eX P t [.sl xs]
 |struct {t:TypeId} {fs:Array Field} (parts:List (List D)) (h:P.underlying t=some (.struct fs)) (hl:parts.length=fs.size) (hx:∀(i:Nat)(f:Field)(x:List D),fs[i]?=some f->parts[i]?=some x->eX P f.type x):eX P t parts.flatten
section
variable {P:dg} {t:TypeId} {xs:I D}
def eX.an8(h:eX P t xs)(a:P.underlying t=some .bool):∃b,xs=[.v (.bool b)]:=by
 cases h with
 |bool b h=>exact⟨b,rfl⟩
 |int n h=>rw[a]at h;cases h
 |str s h=>rw[a]at h;cases h
 |sl l h=>rw[a]at h;cases h
 |struct p h=>rw[a]at h;cases h
def eX.oS{k:IntKind}(h:eX P t xs)(a:P.underlying t=some (.int k)):∃n,xs=[.v (.int k n)]/\k.min<=n/\n<=k.max:=by
 cases h with
 |bool b h=>rw[a]at h;cases h
 |int n h w=>
  rw[a]at h;cases h;unfold Lit.wf at w;simp only[Zo,VX]at w;exact⟨n,rfl,w⟩
 |str s h=>rw[a]at h;cases h
 |sl l h=>rw[a]at h;cases h
 |struct p h=>rw[a]at h;cases h
def eX.uT(h:eX P t xs)(a:P.underlying t=some .string):∃s,xs=[.v (.string s)]/\s.size<=maxLen:=by
 cases h with
 |bool b h=>rw[a]at h;cases h
 |int n h=>rw[a]at h;cases h
 |str s h w=>exact⟨s,rfl,w⟩
 |sl l h=>rw[a]at h;cases h
 |struct p h=>rw[a]at h;cases h
def eX.pv{e:TypeId}(h:eX P t xs)(a:P.underlying t=some (.slice e)):∃l,xs=[.sl l]/\l.length<=140737488355328/\∀x∈l,eX P e x:=by
 cases h with
 |bool b h=>rw[a]at h;cases h
 |int n h=>rw[a]at h;cases h
 |str s h=>rw[a]at h;cases h
 |sl l h w c=>rw[a]at h;cases h;exact⟨l,rfl,w,c⟩
 |struct p h=>rw[a]at h;cases h
def eX.oy{c:Array Field}(h:eX P t xs)(a:P.underlying t=some (.struct c)):∃parts:I (I D),xs=parts.flatten/\parts.length=c.size/\∀(i:Nat)(f:Field)(x:I D),c[i]?=some f->parts[i]?=some x->eX P f.type x:=by
 cases h with
 |bool b h=>rw[a]at h;cases h
 |int n h=>rw[a]at h;cases h
 |str s h=>rw[a]at h;cases h
 |sl l h=>rw[a]at h;cases h
 |struct p h d e=>rw[a]at h;cases h;exact⟨p,rfl,d,e⟩
def oB{α:Type}{f:α->I D}{Q:α->Prop}:∀l:I (I D),(∀x∈l,∃a,x=f a/\Q a)->∃r:I α,l=r.map f/\∀a∈r,Q a
 |[],_=>⟨[],rfl,λ_ h=>by cases h⟩
 |x::l,h=>by
  obtain⟨a,rfl,d⟩:=h x Zl;obtain⟨r,rfl,e⟩:=oB l λy g=>h y (Zg _ g);refine⟨a::r,rfl,λb c=> ?_⟩;rcases ZY.1 c with rfl|c
  ·exact d
  ·exact e b c
end
def VR(P:dg)(S:I TypeId):Bool:=S.all λt=>match P.underlying t with
 |some .bool|some (.int _)|some .string=>true
 |some (.slice e)=>S.contains e&&(decide (0<P.cellsOf e)&&decide (0<P.bytesOf e))
 |some (.struct a)=>P.consecB a.toList 0 (P.cellsOf t)&&a.toList.all λf=>S.contains f.type
 |_=>false
def kG(S:Nat->Nat->Prop)(w:Zz)(cs:I kd)(xs:I D):Prop:=xs.length=cs.length/\∀(i:Nat)(u:kd)(x:D),cs[i]?=some u->xs[i]?=some x->dY S w u x/\u.oneCell'=true
def kG.nil{S:Nat->Nat->Prop}{w:Zz}:kG S w [] []:=⟨rfl,λi u x h=>by simp at h⟩
def kG.one{S:Nat->Nat->Prop}{w:Zz}{u:kd}{x:D}(h:dY S w u x)(h1:u.oneCell'=true):kG S w [u] [x]:=⟨rfl,λi v y a b=>by
 cases i with
 |zero=>cases a;cases b;exact⟨h,h1⟩
 |succ i=>simp at a⟩
def kG.app{S:Nat->Nat->Prop}{w:Zz}{a b:I kd}{x y:I D}(h:kG S w a x)(k:kG S w b y):kG S w (a++b) (x++y):=by
 refine⟨by simp [h.1,k.1],λi u z c d=> ?_⟩;by_cases e:i<a.length;{rw[ZW e]at c;rw[ZW (by rw[h.1];exact e)]at d;exact h.2 i u z c d};{rw[ZC (by omega)]at c;rw[ZC (by rw[h.1];omega),h.1]at d;exact k.2 _ u z c d}
def VP{α:Type}{Q:Nat->α->Prop}:∀n:Nat,(∀i,i<n->∃x,Q i x)->∃l:I α,l.length=n/\∀i x,l[i]?=some x->Q i x
 |0,_=>⟨[],rfl,λi x h=>by simp at h⟩
 |n+1,h=>by
  obtain⟨l,c,d⟩:=VP n λi b=>h i (by omega);obtain⟨x,f⟩:=h n (by omega);refine⟨l++[x],by simp [c],λi y a=> ?_⟩;by_cases b:i<l.length
  ·rw[ZW b]at a;exact d i y a
  ·rw[ZC (by omega)]at a;have:i-l.length=0:=by
     by_cases e:i-l.length=0;{exact e};{rw[Yz (by simp;omega)]at a;cases a}
   rw[this]at a;cases a;have:i=n:=by omega
   rw[this];exact f
def Kd{a:Addr}(h:a.spot=none)(n:Nat):a.add n=⟨a.block,a.off+n,none⟩:=by
 unfold Addr.add;split;{next e=>subst e;cases a;simp only at h;subst h;rfl};{rfl}
section
variable {H:Type} {enc:TypeId×kd->H} {P:dg} {W:Zz} {Ts:I TypeId}
abbrev sM(W:Zz):Nat->Nat->Prop:=λb _=>b<W.heap.size
def ajx{S:Nat->Nat->Prop}{w:Zz}:dY S w (.slice none 0 0) (.sl []):=
 .sl none 0 0 0 0 [] (λ_ _=>undef) (λh=>absurd rfl h) (Zr _) (by simp) (λ_ h=>by cases h) (λi j a=>by simp at a) (λi j x d b=>by simp at b)
def Z9{e:TypeId}:∀{l:I (DataW H)}{d:DataW H},d∈l->∀n∈d.weights P e,n∈DataW.weightsAll P e l
 |[],_,h,_,_=>by cases h
 |x::l,d,h,n,a=>by
  simp only[DataW.weightsAll,ZE];rcases ZY.1 h with rfl|h
  ·exact .inl a
  ·exact .inr (Z9 h n a)
def Kc{a:Nat}(w:∀(t:TypeId)(cs:I kd)(d:DataW H)(e:I MemPlace),t∈Ts->(∀n∈d.weights P t,n<=reachBytes)->DataW.trod enc P W 0 (λ_=>true) true a t cs=some (d,e)->∃xs,eX P t xs/\kG (sM W) W cs xs)(cs:I kd):
 ∀(b:I Field)(off:Nat)(ys:I (DataW H×I MemPlace)),P.consecB b off cs.length=true->(∀f∈b,f.type∈Ts)->(∀n∈DataW.weightsEach P (b.map (·.type)) (ys.map (·.1)),n<=reachBytes)->
  b.mapM (λf=>DataW.trod enc P W 0 (λ_=>true) true a f.type ((cs.drop f.offset).take (P.cellsOf f.type)))=some ys->
  ∃parts:I (I D),parts.length=b.length/\(∀(i:Nat)(f:Field)(x:I D),b[i]?=some f->parts[i]?=some x->eX P f.type x)/\kG (sM W) W (cs.drop off) parts.flatten
 |[],off,ys,c,_,_,_=>by
  simp only[Program.consecB,Ve]at c;refine⟨[],rfl,λi f x h=>by simp at h,?_⟩;rw[List.drop_eq_nil_iff.2 (by omega)];exact kG.nil
 |f::b,off,ys,c,z,m,j=>by
  simp only[Program.consecB,Zo,Ve]at c;obtain⟨o,c⟩:=c;rw[List.mapM_cons]at j;cases k:DataW.trod enc P W 0 (λ_=>true) true a f.type ((cs.drop f.offset).take (P.cellsOf f.type))with
  |none=>simp [k]at j
  |some p=>
   cases u:b.mapM (λf=>DataW.trod enc P W 0 (λ_=>true) true a f.type ((cs.drop f.offset).take (P.cellsOf f.type)))with
   |none=>simp [k,u]at j
   |some e=>
    obtain⟨d,q⟩:=p;obtain rfl:(d,q)::e=ys:=by simpa [k,u]using j
    simp only[ZS,DataW.weightsEach,ZE]at m;obtain⟨x,C,A⟩:=w f.type _ d q (z f Zl) (λn v=>m n (.inl v)) k;obtain⟨parts,E,F,G⟩:=Kc w cs b (off+P.cellsOf f.type) e c (λg l=>z g (Zg _ l)) (λn v=>m n (.inr v)) u;refine⟨x::parts,by simp [E],λi g y l B=> ?_,?_⟩
    ·cases i with
     |zero=>cases l;cases B;exact C
     |succ i=>exact F i g y (by simpa using l) (by simpa using B)
    ·rw[List.flatten_cons];rw[o]at A;have:=A.app G
     rwa [take_drop_step]at this
def Ex(hT:VR P Ts=true):∀(g:Nat)(t:TypeId)(cs:I kd)(d:DataW H)(K:I MemPlace),t∈Ts->(∀n∈d.weights P t,n<=reachBytes)->DataW.trod enc P W 0 (λ_=>true) true g t cs=some (d,K)->∃xs,eX P t xs/\kG (sM W) W cs xs
 |0,t,cs,d,K,_,_,h=>by simp [DataW.trod]at h
 |g+1,t,cs,d,K,ht,E,h=>by
  have IH:=Ex hT g;have c:=Zb.1 hT t ht;unfold DataW.trod at h;split at h;{next b e=>exact⟨_,.bool b e,kG.one (.v _) rfl⟩}
  ·next k k' n e=>
   split at h;{next hk=>obtain⟨rfl,L⟩:=hk;exact⟨_,.int n e L,kG.one (.v _) rfl⟩};{cases h}
  ·next e=>rw[e]at c;cases c
  ·next s e=>
   split at h;{next L=>exact⟨_,.str s e L,kG.one (.v _) rfl⟩};{cases h}
  ·next e=>rw[e]at c;cases c
  ·next e=>rw[e]at c;cases c
  ·next e q=>exact⟨_,.sl [] q (WJ _) (λx m=>absurd m Yp),kG.one ajx rfl⟩
  ·next e a len M q=>
   rw[q]at c;simp only[Zo,List.contains_iff_mem,VX]at c;obtain⟨N,BU,rK⟩:=c;simp only at h;split at h
   ·next hb=>
    obtain⟨_,mr,Ao⟩:=hb;rw[Option.bind_eq_some_iff]at h;obtain⟨elems,HT,B⟩:=h;rw[Option.map_eq_some_iff]at B;obtain⟨rest,_,B⟩:=B;cases B
    simp only[DataW.weights,q,ZY,ZE,Zq]at E;have hlen:elems.length=len:=by simpa using mapM_some_length HT
    have hQ:∀i,i<len->∃x:I D,eX P e x/\∃y,W.cells? 0 (a.add (i*P.cellsOf e)) (P.cellsOf e)=some y/\kG (sM W) W y x:=λi A=>by
     have p:=mapM_some_get HT i i (by simp [A]);rw[Zd (by omega),Option.bind_eq_some_iff]at p;obtain⟨y,z,w⟩:=p;obtain⟨x,C,o⟩:=IH e y elems[i].1 elems[i].2 N (λn R=>E n (.inr (.inl (Z9 (W1.2 ⟨_,List.getElem_mem _,rfl⟩) n R)))) w;exact⟨x,C,y,z,o⟩
    obtain⟨xs,yO,F⟩:=VP len hQ;have XA:xs≠ []->a.spot=none:=λS=>by
     have T:0<len:=by cases xs with|nil=>exact(S rfl).elim|cons x l=>simp at yO;omega
     obtain⟨x,_,y,z,_⟩:=hQ 0 T;obtain⟨_,w,C⟩:=World.cells?_some z;have o:=C 0 BU;rw[Nat.zero_mul]at o;have e0:(a.add 0).add 0=a:=by simp [Addr.add]
     rw[e0,Zd (by omega)]at o;unfold World.cell? at o;split at o
     ·split at o
      ·cases o
      ·next R=>simpa using R
     ·cases o
    have je:∀i x,xs[i]?=some x->x.length=P.cellsOf e/\∀j,j<P.cellsOf e->∃u,W.cell? ⟨a.block,a.off+i*P.cellsOf e+j,none⟩=some u/\u.oneCell'=true/\∀d,x[j]?=some d->dY (sM W) W u d:=λi x m=>by
     obtain⟨_,y,z,w⟩:=F i x m;obtain⟨_,C,o⟩:=World.cells?_some z;have hs:=XA (λe=>by rw[e]at m;simp at m);refine⟨w.1.trans C,λj J=> ?_⟩;have h6:=o j J;rw[Kd hs,Kd rfl,Zd (by omega)]at h6;have hjx:j<x.length:=by rw[w.1,C];exact J
     have G:x[j]?=some x[j]:=Zd hjx;have h7:=w.2 j _ _ (Zd (by omega)) G;exact⟨_,h6,h7.2,λd jL=>by rw[G]at jL;cases jL;exact h7.1⟩
    have alk:xs.length<=140737488355328:=by
     have p:=E _ (.inl rfl);have z:(elems.length+rest.length)*1<=(elems.length+rest.length)*P.bytesOf e:=Nat.mul_le_mul_left _ rK;have w:reachBytes<=140737488355328:=by decide
     omega
    refine⟨[.sl xs],.sl xs q alk (λx m=> ?_),kG.one ?_ rfl⟩;{obtain⟨i,A,rfl⟩:=a8.1 m;exact(F i _ (Zd A)).1}
    ·rw[<-yO];refine .sl (some a) a.block a.off M (P.cellsOf e) xs (λi j=>(W.cell? ⟨a.block,a.off+i*P.cellsOf e+j,none⟩).getD undef) (λS=> ?_) (by omega) Ao (λx m=> ?_) (λi j A J=> ?_) λi j x d m G=> ?_
     ·have:=XA S;cases a;simp only at this;subst this;rfl
     ·obtain⟨i,A,rfl⟩:=a8.1 m;exact(je i _ (Zd A)).1
     ·obtain⟨u,p,z,_⟩:=(je i _ (Zd A)).2 j J;refine⟨World.block_lt_of_cell? W ⟨a.block,a.off+i*P.cellsOf e+j,none⟩ p,?_,?_⟩
      ·rw[p];rfl
      ·rw[p];exact z
     ·obtain⟨hl,hc⟩:=je i x m;obtain⟨u,p,_,w⟩:=hc j (by rw[<-hl];exact(Zk.1 G).1);simp only[p,Option.getD_some];exact w d G
   ·cases h
  ·next y fs q=>
   rw[q]at c;simp only[Zo,Zb,List.contains_iff_mem]at c;split at h
   ·next hl=>
    rw[Option.map_eq_some_iff]at h;obtain⟨ys,hm,B⟩:=h;cases B
    simp only[DataW.weights,q]at E;obtain⟨parts,k1,k2,k3⟩:=Kc IH _ fs.toList 0 ys (by rw[hl];exact c.1) c.2 E hm;exact⟨_,.struct parts q (by simpa using k1) (λi f x hf=>k2 i f x (by simpa using hf)),by simpa using k3⟩
   ·cases h
  all_goals first|(cases h;done)|(exfalso;revert c;(next e=>rw[e];intro T;cases T))
def Sb{t:TypeId}{v:kd}{d:DataW H}{b:I MemPlace}(c:VR P Ts=true)(e:t∈Ts)(f:∀n∈d.weights P t,n<=reachBytes)(h:DataW.Trod enc P W 0 (λ_=>true) true t v d b):∃xs,eX P t xs/\kG (sM W) W v.cells.toList xs:=
 let ⟨a,h⟩:=h
 Ex c a t _ d b e f h
def atc{t:TypeId}{a:Array Field}{v:kd}{r:Reach}{base:Nat}(b:P.underlying t=some (.struct a))(h:Value.okWide P W r base t v):∃cs,v= .agg cs:=by
 unfold Value.okWide at h;rw[b]at h;obtain⟨cs,rfl,_⟩:=h;exact⟨cs,rfl⟩
def aog{G:Gh}(e:G.S=sM W){cs:Array kd}{xs:I D}(h:kG (sM W) W cs.toList xs):aO G W (.agg cs) (.agg (xs.map .d)):=by
 refine .agg cs _ (by rw[Zq,h.1,Z0]) λi u c f a=> ?_;rw[Zm]at a;cases b:xs[i]? with
 |none=>rw[b]at a;cases a
 |some x=>
  rw[b]at a;cases a
  exact .d (e▸(h.2 i u x (by rw[ZF];exact f) b).1)
def Yw{G:Gh}(a:G.S=sM W){v:kd}{x:D}(h:kG (sM W) W #[v].toList [x]):aO G W v (.d x):= .d (a▸(h.2 0 v x rfl rfl).1)
end
end Go.Proofs.YtnnapanbbbcalaaGreatDoor
