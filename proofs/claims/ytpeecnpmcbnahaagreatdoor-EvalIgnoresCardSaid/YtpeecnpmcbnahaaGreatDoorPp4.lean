/-
  Part 4 of the proof: AbsWk, OpenD.
-/
import Derived.Test.YtpeecnpmcbnahaaGreatDoorPp3
import Derived.ProofKit
import Derived.DataOpen
import Derived.SizedLaws
namespace Go.Proofs.YtpeecnpmcbnahaaGreatDoor
open Go.RowKit
set_option linter.unusedSimpArgs false
set_option linter.unusedVariables false
def Hz{α:Type}(x:AV)(k:AV->α):α:=
 match x with
 | .d y=>k (.d y)
 | .agg cs=>k (.agg cs)
 | .bg cs=>k (.bg cs)
 | .ptr n o=>fN n λn=>fN o λo=>k (.ptr n o)
 | .own n xs=>fN n λn=>k (.own n xs)
 | .fn f cs=>k (.fn f cs)
 | .mp n=>fN n λn=>k (.mp n)
 |x=>k x
theorem abD{α:Type}(x:AV)(k:AV->α):Hz x k=k x:=by cases x<;>simp [Hz,As]
def fT{α:Type}:apf (Nat×AV)->(apf (Nat×AV)->α)->α
 |[],k=>k []
 |(d,x)::l,k=>fN d λd=>Hz x λx=>fT l λl=>k ((d,x)::l)
theorem Uz{α:Type}:∀(l:apf (Nat×AV))(k:apf (Nat×AV)->α),fT l k=k l
 |[],k=>rfl
 |(d,x)::l,k=>by rw[fT,As,abD,Uz l]
def fC{α:Type}:apf AV->(apf AV->α)->α
 |[],k=>k []
 |x::l,k=>Hz x λx=>fC l λl=>k (x::l)
theorem TF{α:Type}:∀(l:apf AV)(k:apf AV->α),fC l k=k l
 |[],k=>rfl
 |x::l,k=>by rw[fC,abD,TF l]
def fH{α:Type}:apf aq->(apf aq->α)->α
 |[],k=>k []
 | .cells cs::l,k=>fC cs λcs=>fH l λl=>k (.cells cs::l)
 | .front e z n::l,k=>fH l λl=>k (.front e z n::l)
 | .map kv::l,k=>fH l λl=>k (.map kv::l)
 | .gone::l,k=>fH l λl=>k (.gone::l)
 |B::l,k=>fH l λl=>k (B::l)
theorem pD{α:Type}:∀(l:apf aq)(k:apf aq->α),fH l k=k l
 |[],k=>rfl
 | .cells cs::l,k=>by rw[fH,TF,pD l]
 | .front e z n::l,k=>by rw[fH,pD l]
 | .map kv::l,k=>by rw[fH,pD l]
 | .gone::l,k=>by rw[fH,pD l]
 | .iS .. ::l,k=>by rw[fH,pD l]<;>simp
 | .vec .. ::l,k=>by rw[fH,pD l]<;>simp
 | .lp .. ::l,k=>by rw[fH,pD l]<;>simp
 | .it .. ::l,k=>by rw[fH,pD l]<;>simp
 | .eP .. ::l,k=>by rw[fH,pD l]<;>simp
 | .iB .. ::l,k=>by rw[fH,pD l]<;>simp
def Ri{α:Type}(s:St)(k:St->α):α:=fN s.n λn=>fT s.t λt=>fH s.h λh=>k ⟨n,t,h⟩
theorem afO{α:Type}(s:St)(k:St->α):Ri s k=k s:=by unfold Ri;rw[As,Uz,pD]
inductive Fr
 |S (y:Code)
 |B (id:Nat)
 |F (k:Nat) (f:St->Prop)
def ia(P:api)(r:aph Nat)(N0:Nat)(Q:Exit->St->Prop):apf Fr->Exit->St->Prop
 |[]=>Q
 | .S y::K=>iU (λs=>bA P r N0 y (ia P r N0 Q K) s) (ia P r N0 Q K)
 | .B id::K=>rb id (ia P r N0 Q K)
 | .F _ f::K=>iU f (ia P r N0 Q K)
inductive Md
 |c (c:Code)
 |n
 |x (id:Nat)
inductive WR
 |at (c:Code) (K:List Fr) (s:St)
 |ret (s:St)
 |nrm (s:St)
 |fin (k:Nat) (s:St)
abbrev WO:=aph (WR×apf (In×bX))
def GO(l:apf (In×bX)):WO->WO
 |some (w,m)=>some (w,l++m)
 |none=>none
def mM(P:api):Nat->Md->apf Fr->apf (apf (Nat×bX))->St->WO
 |0,_,_,_,_=>none
 |F+1,m,K,A,s=>match m with
  | .n=>match K with
    |[]=>some (.nrm s,[])
    | .S y::K=>mM P F (.c y) K A s
    | .B _::K=>mM P F .n K A s
    | .F k _::_=>some (.fin k s,[])
  | .x id=>match K with
    |[]=>none
    | .S _::K=>mM P F (.x id) K A s
    | .B qP::K=>mM P F (bif id==qP then .n else .x id) K A s
    | .F _ _::K=>mM P F (.x id) K A s
  | .c c=>match c with
    | .seq a b=>mM P F (.c a) (.S b::K) A s
    | .block id b=>mM P F (.c b) (.B id::K) A s
    | .skip=>mM P F .n K A s
    | .ret=>some (.ret s,[])
    | .exit id=>mM P F (.x id) K A s
    | .region id ops dr=>match A with
      |[]=>some (.at (.region id ops dr) K s,[])
      |as::A=>bif !dr||qx ops then match oG P ops dr ops.toList 0 as s with
         |some (s1,l)=>Ri s1 λs1=>GO l (mM P F .n K A s1)
         |none=>none
       else none
    | .cond o x y=>match A with
      |[]=>some (.at (.cond o x y) K s,[])
      |as::A=>match iV as 0 with
       | .bit b=>GO [(.bit (ev s o), .bit b)] (mM P F (.c (bif b then x else y)) K A s)
       |_=>none
    |c=>match A with
     |[]=>some (.at c K s,[])
     |_=>none
section
variable {P:api} {r:aph Nat} {N0:Nat} {Q:Exit->St->Prop}
theorem Ik:∀(K:apf Fr)(s:St),Q .ret s->ia P r N0 Q K .ret s
 |[],_,h=>h
 | .S _::K,s,h=>Ik K s h
 | .B _::K,s,h=>Ik K s h
 | .F _ _::K,s,h=>Ik K s h
def an4(P:api)(r:aph Nat)(N0:Nat)(Q:Exit->St->Prop)(m:Md)(K:apf Fr)(s:St):Prop:=
 match m with
 | .c c=>bA P r N0 c (ia P r N0 Q K) s
 | .n=>ia P r N0 Q K .normal s
 | .x id=>ia P r N0 Q K (.exit id) s
def EG(P:api)(r:aph Nat)(N0:Nat)(Q:Exit->St->Prop)(K0:apf Fr):WR->Prop
 | .at c K s=>bA P r N0 c (ia P r N0 Q K) s
 | .ret s=>Q .ret s
 | .nrm s=>Q .normal s
 | .fin k s=>∀f,Fr.F k f∈K0->f s
theorem EG.sub{K K':apf Fr}(h:∀k f,Fr.F k f∈K'->Fr.F k f∈K):∀{w:WR},EG P r N0 Q K w->EG P r N0 Q K' w
 | .at _ _ _,hp=>hp
 | .ret _,hp=>hp
 | .nrm _,hp=>hp
 | .fin k _,hp=>λf hf=>hp f (h k f hf)
theorem TB{l m:apf (In×bX)}{x:WO}{w:WR}(h:GO l x=some (w,m))(bS:gq P m):∃n,x=some (w,n)/\gq P n/\gq P l:=by
 unfold GO at h;split at h
 ·next w' n=>
  cases h
  exact⟨n,rfl,λp hp=>bS p (List.mem_append_right _ hp),λp hp=>bS p (List.mem_append_left _ hp)⟩
 ·cases h
theorem Uq(hm:P.follows .mixedOrders=true):∀(F:Nat)(m:Md)(K:apf Fr)(A:apf (apf (Nat×bX)))(s:St)(w:WR)(l:apf (In×bX)),mM P F m K A s=some (w,l)->gq P l->EG P r N0 Q K w->an4 P r N0 Q m K s
 |0,_,_,_,_,_,_,h,_,_=>by simp [mM]at h
 |F+1,m,K,A,s,w,l,h,bS,hp=>by
  have ih:=Uq hm F;have tl:∀{x:Fr}{K:apf Fr},∀k f,Fr.F k f∈K->Fr.F k f∈x::K:=λ_ _ h=>aoA _ h;have pS:∀{y:Code}{K:apf Fr},∀k f,Fr.F k f∈Fr.S y::K->Fr.F k f∈K:=λk f h=>by
   rcases aoV.1 h with h|h
   ·cases h
   ·exact h
  have pB:∀{y:Nat}{K:apf Fr},∀k f,Fr.F k f∈Fr.B y::K->Fr.F k f∈K:=λk f h=>by
   rcases aoV.1 h with h|h
   ·cases h
   ·exact h
  unfold mM at h;cases m with
  |n=>
   cases K with
   |nil=>cases h;exact hp
   |cons x K=>
    cases x with
    |S y=>exact ih (.c y) K _ _ _ _ h bS (hp.sub tl)
    |B id=>exact ih .n K _ _ _ _ h bS (hp.sub tl)
    |F k f=>cases h;exact hp _ aox
  |x id=>
   cases K with
   |nil=>cases h
   |cons x K=>
    cases x with
    |S y=>exact ih (.x id) K _ _ _ _ h bS (hp.sub tl)
    |B qP=>
     show(bif id==qP then ia P r N0 Q K .normal s else ia P r N0 Q K (.exit id) s);simp only at h;cases e:id==qP with
     |true=>rw[e]at h;exact ih .n K _ _ _ _ h bS (hp.sub tl)
     |false=>rw[e]at h;exact ih (.x id) K _ _ _ _ h bS (hp.sub tl)
    |F k f=>exact ih (.x id) K _ _ _ _ h bS (hp.sub tl)
  |c c=>
   simp only at h;split at h
   ·exact aA (ih (.c _) (.S _::K) _ _ _ _ h bS (hp.sub pS))
   ·exact gp (ih (.c _) (.B _::K) _ _ _ _ h bS (hp.sub pB))
   ·exact dy (ih .n _ _ _ _ _ h bS hp)
   ·cases h;exact cY (Ik K s hp)
   ·exact o7 (ih (.x _) _ _ _ _ _ h bS hp)
   ·next id ops dr=>
    split at h
    ·cases h;exact hp
    ·next as A=>
     obtain⟨hb,h⟩:=kG h;split at h
     ·next s1 l1 e=>
      rw[afO]at h;obtain⟨n,e2,h2,h3⟩:=TB h bS;have hk:=ih .n _ _ _ _ _ e2 h2 hp;have dB:=xz (P:=P) (ops:=ops) (dr:=dr) (K:=ia P r N0 Q K .normal) ops.toList 0 s l1 e h3 hk;cases dr with
      |false=>exact e7 dB
      |true=>
       have hl:qx ops.toList.toArray=true:=by simpa using hb
       have:=Ib (P:=P) (r:=r) (N0:=N0) (Q:=ia P r N0 Q K) (s:=s) (id:=id) (l:=ops.toList) hm hl (by simpa using dB);show bA P r N0 (.region id ops true) (ia P r N0 Q K) s
       simpa using this
     ·cases h
   ·next o x y=>
    split at h
    ·cases h;exact hp
    ·next as A=>
     split at h
     ·next b e=>
      obtain⟨n,e2,h2,h3⟩:=TB h bS;have h4:=OK.GJ (h3 (_,_) aox);have hk:=ih (.c _) _ _ _ _ _ e2 h2 hp;exact Pj h4 (λe=>by subst e;exact hk) (λe=>by subst e;exact hk)
     ·cases h
   ·split at h
    ·cases h;exact hp
    ·cases h
end
def wK:WO->apf Fr
 |some (.at _ K _,_)=>K
 |_=>[]
def wS:WO->St
 |some (.at _ _ s,_)=>s
 |_=>⟨0,[],[]⟩
def kJ(k:Nat):apf Fr->apf (St->Prop)
 |[]=>[]
 | .F k' f::K=>bif k'==k then f::kJ k K else kJ k K
 |_::K=>kJ k K
theorem EE{k:Nat}{f:St->Prop}:∀{K:apf Fr},Fr.F k f∈K->f∈kJ k K
 |[],h=>by cases h
 | .S _::K,h=>by
   rcases aoV.1 h with h|h
   ·cases h
   ·exact EE (K:=K) h
 | .B _::K,h=>by
   rcases aoV.1 h with h|h
   ·cases h
   ·exact EE (K:=K) h
 | .F k' g::K,h=>by
   rcases aoV.1 h with h|h
   ·cases h;simp [kJ]
   ·unfold kJ;cases k'==k with
    |true=>exact aoA _ (EE h)
    |false=>exact EE h
def tk:WO->aph (apf (In×bX))
 |some (.at _ _ _,l)=>some l
 |_=>none
def lF(live:apf Nat)(m:Nat):WO->aph (St×apf (In×bX))
 |some (.at (.loop _) _ s,l)=>(j6 s live m).map (·,l)
 |_=>none
def OY(live:apf Nat)(m:Nat)(ks:apf Nat)(kn:apf (Nat×Nat)):WO->aph (St×apf (In×bX))
 |some (.at (.loop _) _ s,l)=>(mA s live m ks kn).map (·,l)
 |_=>none
def FT:WO->aph (apf (In×bX))
 |some (.at _ (.S _::_) _,l)=>some l
 |_=>none
def qj(k:Nat)(live:apf Nat)(m:Nat):WO->aph (St×apf (In×bX))
 |some (.fin k' s,l)=>bif k'==k then(j6 s live m).map (·,l)else none
 |_=>none
def Nv(k:Nat)(live:apf Nat)(m:Nat)(ks:apf Nat)(kn:apf (Nat×Nat)):WO->aph (St×apf (In×bX))
 |some (.fin k' s,l)=>bif k'==k then(mA s live m ks kn).map (·,l)else none
 |_=>none
def rO(P:api)(rs:apf ResultVar):WO->aph (AV×apf (In×bX))
 |some (.ret s,l)=>(wR P rs s).map (·,l)
 |some (.nrm s,l)=>(wR P rs s).map (·,l)
 |_=>none
def KI(P:api)(rs:apf ResultVar)(m:Nat):WO->aph ((AV×apf aq)×apf (In×bX))
 |some (.ret s,l)=>(xI P rs m s).map (·,l)
 |some (.nrm s,l)=>(xI P rs m s).map (·,l)
 |_=>none
def A9:apf Fr->aph (Code×apf Fr)
 | .S y::K=>some (y,K)
 | .B _::K=>A9 K
 |_=>none
def Jg(P:api)(keep:apf Nat)(as:apf (Nat×bX)):WO->aph (apf (Nat×AV)×apf aq×apf (In×bX))
 |some (.at (.region _ ops dr) K s,_)=>bif (!dr||qx ops)&&(A9 K).isSome then qH P dr ops.toList as keep s else none
 |_=>none
def iv(k:Nat)(f:St->Prop)(s:St):WO->WO
 |some (.at (.loop b) K _,_)=>some (.at b (.F k f::K) s,[])
 |_=>none
def L5(k:Nat)(f:St->Prop):WO->WO
 |some (.at c (.S _::K) s,_)=>some (.at c (.F k f::K) s,[])
 |_=>none
def KA(s:St):WO->WO
 |some (.at _ (.S y::K) _,_)=>some (.at y K s,[])
 |_=>none
def tM(Δ:apf (Nat×AV))(h':apf aq):WO->WO
 |some (.at _ K s,_)=>match A9 K with
  |some (y,K')=>some (.at y K' ⟨s.n,Δ++s.t,h'⟩,[])
  |none=>none
 |_=>none
def YQ(f:St->St):WO->WO
 |some (.at c K s,l)=>some (.at c K (f s),l)
 |_=>none
def Wc:Nat:=4000
def wk(P:api)(w:WO)(ay:apf (apf (Nat×Ob P))):WO:=
 match w with
 |some (.at c K s,_)=>mM P Wc (.c c) K (ay.map iY) s
 |_=>none
def dW{P:api}(ay:apf (apf (Nat×Ob P))):apf (In×bX):=ay.flatMap jv
theorem aik{P:api}(ay:apf (apf (Nat×Ob P))):gq P (dW ay):=λp hp=>by
 obtain⟨l,_,h⟩:=List.mem_flatMap.1 hp;exact pz l p h
theorem tb{α β:Type}{x:aph α}{l:β}{y:α}{m:β}(h:x.map (·,l)=some (y,m)):x=some y/\l=m:=by
 cases x with
 |none=>cases h
 |some z=>cases h;exact⟨rfl,rfl⟩
def BY(P:api)(r:aph Nat)(N0:Nat)(Q:Exit->St->Prop):WO->Prop
 |some (.at c K s,_)=>bA P r N0 c (ia P r N0 Q K) s
 |_=>True
structure GW(P:Program)(r:Option Nat)(N0:Nat)(Q:Exit->St->Prop)(w:WO):Prop where
 run:BY P r N0 Q w
section
variable {P:api} {r:aph Nat} {N0:Nat} {Q:Exit->St->Prop} {w0:WO}
theorem o0{ay:apf (apf (Nat×Ob P))}(hm:P.follows .mixedOrders=true){w:WR}(e:wk P w0 ay=some (w,dW ay))(hp:∀K,(∀k f,Fr.F k f∈K->Fr.F k f∈wK w0)->EG P r N0 Q K w):GW P r N0 Q w0:=by
 constructor
 unfold wk at e;split at e
 ·next c K s l=>exact Uq hm Wc (.c c) K _ s w _ e (aik ay) (hp K λk f h=>h)
 ·cases e
theorem je(hm:P.follows .mixedOrders=true)(ay:apf (apf (Nat×Ob P)))(k:GW P r N0 Q (wk P w0 ay))(e:tk (wk P w0 ay)=some (dW ay):=by kernel_rfl):GW P r N0 Q w0:=by
 generalize hw:wk P w0 ay=w at e k;unfold tk at e;split at e
 ·cases e;exact o0 hm hw λK _=>k.run
 ·cases e
theorem ady(hm:P.follows .mixedOrders=true){fn:Func}{R:AV}(ay:apf (apf (Nat×Ob P)))(e:rO P fn.results.toList (wk P w0 ay)=some (R,dW ay)):GW P r N0 (kS P fn R) w0:=by
 generalize hw:wk P w0 ay=w at e;unfold rO at e;split at e
 ·obtain⟨e1,rfl⟩:=tb e;exact o0 hm hw λK _=>e1
 ·obtain⟨e1,rfl⟩:=tb e;exact o0 hm hw λK _=>e1
 ·cases e
theorem adR(hm:P.follows .mixedOrders=true){fn:Func}{m:Nat}{R:AV}{H:apf aq}(ay:apf (apf (Nat×Ob P)))(e:KI P fn.results.toList m (wk P w0 ay)=some ((R,H),dW ay)):GW P r N0 (tR P fn m R H) w0:=by
 generalize hw:wk P w0 ay=w at e;unfold KI at e;split at e
 ·obtain⟨e1,rfl⟩:=tb e;exact o0 hm hw λK _=>e1
 ·obtain⟨e1,rfl⟩:=tb e;exact o0 hm hw λK _=>e1
 ·cases e
theorem wr(hm:P.follows .mixedOrders=true){fn:Func}{R:AV}(ay:apf (apf (Nat×Ob P)))(e:rO P fn.results.toList (wk P w0 ay)=some (R,dW ay):=by kernel_rfl):GW P r N0 (kS P fn R) w0:=ady hm ay e
theorem nh(hm:P.follows .mixedOrders=true){fn:Func}{m:Nat}{R:AV}{H:apf aq}(ay:apf (apf (Nat×Ob P)))(e:KI P fn.results.toList m (wk P w0 ay)=some ((R,H),dW ay):=by kernel_rfl):GW P r N0 (tR P fn m R H) w0:=adR hm ay e
structure HH{ι:Type}(k:Nat)(live:List Nat)(m:Nat)(st:ι->St)(I:ι->Prop)(μ:ι->Nat)(i0:ι)(f:St->Prop):Prop where
 h:∀s' i',j6 s' live m=some (st i')->I i'->μ i'<μ i0->f s'
structure N6{ι:Type}(k:Nat)(live:List Nat)(m:Nat)(ks:List Nat)(kn:List (Nat×Nat))(st:ι->St)(I:ι->Prop)(μ:ι->Nat)(i0:ι)(f:St->Prop):Prop where
 h:∀s' i',ja m (s'.h.take m)->mA s' live m ks kn=some (st i')->I i'->μ i'<μ i0->f s'
structure Bk{ι:Type}(k:Nat)(live:List Nat)(m:Nat)(st:ι->St)(I:ι->Prop)(f:St->Prop):Prop where
 h:∀s' i',j6 s' live m=some (st i')->I i'->f s'
theorem QZ(hm:P.follows .mixedOrders=true){k:Nat}{s1:St}{f:St->Prop}(ay:apf (apf (Nat×Ob P)))(e1:kJ k (wK w0)=[f])(e:wk P w0 ay=some (.fin k s1,dW ay))(hf:f s1):GW P r N0 Q w0:=
 o0 hm e λK hK g hg=>by
  have:=EE (hK k g hg);rw[e1,List.mem_singleton]at this;subst this;exact hf
theorem R1(hm:P.follows .mixedOrders=true){ι:Type}{live:apf Nat}{m k:Nat}{st:ι->St}{I:ι->Prop}{μ:ι->Nat}{i0:ι}{f:St->Prop}(hf:HH k live m st I μ i0 f)(i:ι)(ay:apf (apf (Nat×Ob P)))(hI:I i)(hμ:μ i<μ i0:=by exact apd _)(e1:kJ k (wK w0)=[f]:=by kernel_rfl)(e:qj k live m (wk P w0 ay)=some (st i,dW ay):=by kernel_rfl):GW P r N0 Q w0:=by
 generalize hw:wk P w0 ay=w at e;unfold qj at e;split at e
 ·next k' s' l=>
  obtain⟨hb,e⟩:=kG e;obtain⟨e2,rfl⟩:=tb e;rw[beq_iff_eq]at hb;subst hb;exact QZ hm ay e1 hw (hf.h _ i e2 hI hμ)
 ·cases e
def ub:apf aq->apf (apf (apf AV))
 |[]=>[]
 | .vec _ _ cs::l=>cs::ub l
 |_::l=>ub l
structure VE(m:Nat) where
 x:List (List AV)
 ok:∀e k,(aq.vec e k x).zx m
def VE.H9{m:Nat}(xs:apf (apf D)):VE m:=⟨cd xs,λ_ _=>(lY (m:=m) (l:=[]) jB).1⟩
theorem Ma{m:Nat}:∀(l:apf aq)(kM:apf (VE m)),ub l=kM.map VE.x->ja m l
 |[],_,_=>jB
 |B::l,kM,h=>by
  cases B with
  |vec e k cs=>
   cases kM with
   |nil=>cases h
   |cons v vs=>
    have J:cs=v.x:=(List.cons.inj h).1;subst J;exact⟨v.ok e k,Ma l vs (List.cons.inj h).2⟩
  |_=>exact⟨trivial,Ma l kM h⟩
def Lk(m:Nat):WO->apf (apf (apf AV))
 |some (.fin _ s,_)=>ub (s.h.take m)
 |some (.at _ _ s,_)=>ub (s.h.take m)
 |_=>[]
theorem ahk(hm:P.follows .mixedOrders=true){ι:Type}{live:apf Nat}{m k:Nat}{ks:apf Nat}{kn:apf (Nat×Nat)}{st:ι->St}{I:ι->Prop}{μ:ι->Nat}{i0:ι}{f:St->Prop}(hf:N6 k live m ks kn st I μ i0 f)(i:ι)(ay:apf (apf (Nat×Ob P)))(hI:I i)(hμ:μ i<μ i0:=by exact apd _)(e1:kJ k (wK w0)=[f]:=by kernel_rfl)(kM:apf (VE m):=[])(e0:Lk m (wk P w0 ay)=kM.map VE.x:=by kernel_rfl)(e:Nv k live m ks kn (wk P w0 ay)=some (st i,dW ay):=by kernel_rfl):GW P r N0 Q w0:=by
 generalize hw:wk P w0 ay=w at e e0;unfold Nv at e;split at e
 ·next k' s' l=>
  obtain⟨hb,e⟩:=kG e;obtain⟨e2,rfl⟩:=tb e;rw[beq_iff_eq]at hb;subst hb;exact QZ hm ay e1 hw (hf.h _ i (Ma _ kM e0) e2 hI hμ)
 ·cases e
theorem mm(hm:P.follows .mixedOrders=true){ι:Type}{live:apf Nat}{m k:Nat}{st:ι->St}{I:ι->Prop}{f:St->Prop}(hf:Bk k live m st I f)(i:ι)(ay:apf (apf (Nat×Ob P)))(hI:I i)(e1:kJ k (wK w0)=[f]:=by kernel_rfl)(e:qj k live m (wk P w0 ay)=some (st i,dW ay):=by kernel_rfl):GW P r N0 Q w0:=by
 generalize hw:wk P w0 ay=w at e;unfold qj at e;split at e
 ·next k' s' l=>
  obtain⟨hb,e⟩:=kG e;obtain⟨e2,rfl⟩:=tb e;rw[beq_iff_eq]at hb;subst hb;exact QZ hm ay e1 hw (hf.h _ i e2 hI)
 ·cases e
theorem Rh(hm:P.follows .mixedOrders=true){ι:Type}(k:Nat)(ay:apf (apf (Nat×Ob P)))(live:apf Nat)(m:Nat)(st:ι->St)(I:ι->Prop)(μ:ι->Nat)(i0:ι)(hI:I i0)
 (body:∀i,I i->∀f:St->Prop,HH k live m st I μ i f->GW P r N0 Q (iv k f (st i) (wk P w0 ay)))
 (hN:N0<=m:=by exact aoz rfl) (e:lF live m (wk P w0 ay)=some (st i0,dW ay):=by kernel_rfl):GW P r N0 Q w0:=by
 generalize hw:wk P w0 ay=w at e body;unfold lF at e;split at e
 ·next b K' s' l=>
  obtain⟨e2,rfl⟩:=tb e;refine o0 hm hw λK _=> ?_;refine Ns live m st I μ i0 hN e2 hI λi hi=> ?_;exact(body i hi _ ⟨λs' i' J h2 h3=>⟨i',J,h2,h3⟩⟩).run
 ·cases e
theorem ahB(hm:P.follows .mixedOrders=true){ι:Type}(k:Nat)(ay:apf (apf (Nat×Ob P)))(live:apf Nat)(m:Nat)(ks:apf Nat)(kn:apf (Nat×Nat))(st:ι->St)(I:ι->Prop)(μ:ι->Nat)(i0:ι)(hI:I i0)
 (body:∀i,I i->∀f:St->Prop,N6 k live m ks kn st I μ i f->GW P r N0 Q (iv k f (st i) (wk P w0 ay)))
 (hN:N0<=m:=by exact aoz rfl) (kM:apf (VE m):=[]) (e0:Lk m (wk P w0 ay)=kM.map VE.x:=by kernel_rfl) (e:OY live m ks kn (wk P w0 ay)=some (st i0,dW ay):=by kernel_rfl):GW P r N0 Q w0:=by
 generalize hw:wk P w0 ay=w at e e0 body;unfold OY at e;split at e
 ·next b K' s' l=>
  obtain⟨e2,rfl⟩:=tb e;refine o0 hm hw λK _=> ?_;refine NV live m ks kn st I μ i0 hN ⟨Ma _ kM e0,e2⟩ hI λi hi=> ?_;exact(body i hi _ ⟨λs' i' h0 J h2 h3=>⟨i',⟨h0,J⟩,h2,h3⟩⟩).run
 ·cases e
theorem Q5(hm:P.follows .mixedOrders=true){ι:Type}(k:Nat)(ay:apf (apf (Nat×Ob P)))(live:apf Nat)(m:Nat)(st:ι->St)(I:ι->Prop)
 (br:∀f:St->Prop,Bk k live m st I f->GW P r N0 Q (L5 k f (wk P w0 ay)))
 (rest:∀i,I i->GW P r N0 Q (KA (st i) (wk P w0 ay))) (hN:N0<=m:=by exact aoz rfl) (e:FT (wk P w0 ay)=some (dW ay):=by kernel_rfl):GW P r N0 Q w0:=by
 generalize hw:wk P w0 ay=w at e br rest;unfold FT at e;split at e
 ·cases e
  refine o0 hm hw λK _=> ?_;exact Dd live m st I hN (br _ ⟨λs' i' J h2=>⟨i',J,h2⟩⟩).run λi hi=>(rest i hi).run
 ·cases e
theorem Mo:∀{K:apf Fr}{y:Code}{K':apf Fr}{s:St},A9 K=some (y,K')->bA P r N0 y (ia P r N0 Q K') s->ia P r N0 Q K .normal s
 |[],_,_,_,h,_=>by cases h
 | .S y::K,_,_,_,h,k=>by cases h;exact k
 | .B _::K,_,_,s,h,k=>Mo (K:=K) (s:=s) h k
 | .F _ _::K,_,_,_,h,_=>by cases h
theorem amW(hm:P.follows .mixedOrders=true)(Δ:apf (Nat×AV))(h':apf aq)(e:∃ay:apf (Nat×Ob P),Jg P (Δ.map (·.1)) (iY ay) (wk P w0 [])=some (Δ,h',jv ay))(k:GW P r N0 Q (tM Δ h' (wk P w0 [])))(e0:tk (wk P w0 [])=some []:=by kernel_rfl):GW P r N0 Q w0:=by
 generalize hw:wk P w0 []=w at e k e0;obtain⟨ay,e⟩:=e;unfold Jg at e;split at e
 ·next id ops dr K' s' l=>
  obtain⟨hb,e⟩:=kG e;rw[aot]at hb;cases e0
  refine o0 hm hw λK _=> ?_;obtain⟨s1,J,h2,h3,h4⟩:=Jo e;obtain⟨p,hp⟩:=Option.isSome_iff_exists.1 hb.2;obtain⟨y,K2⟩:=p;have hk:ia P r N0 Q K' .normal s1:=by
   refine Mo hp (L2 (s:=s1) (s':=⟨s'.n,Δ++s'.t,h'⟩) h2.symm h3.symm h4 ?_);have k:=k.run;simp only[tM,hp]at k;exact k
  show bA P r N0 (.region id ops dr) (ia P r N0 Q K') s';have dB:=xz (P:=P) (ops:=ops.toList.toArray) (dr:=dr) (K:=ia P r N0 Q K' .normal) ops.toList 0 s' _ J (pz ay) hk;cases dr with
  |false=>exact e7 (by simpa using dB)
  |true=>
   have hl:qx ops.toList.toArray=true:=by simpa using hb.1
   have:=Ib (P:=P) (r:=r) (N0:=N0) (Q:=ia P r N0 Q K') (s:=s') (id:=id) (l:=ops.toList) hm hl (by simpa using dB)
   simpa using this
 ·cases e
def Zw(P:api)(keep:apf Nat)(as:apf (Nat×bX)):WO->aph (apf (apf (Nat×AV)×apf aq×apf (In×bX)))
 |some (.at (.region _ ops true) K s,_)=>bif (A9 K).isSome then yO P ops.toList as keep s else none
 |_=>none
theorem abS(m:Nat)(hm:P.follows .mixedOrders=true)(Δ:apf (Nat×AV))(h':apf aq)(e:∃ay:apf (Nat×Ob P),Zw P (Δ.map (·.1)) (iY ay) (wk P w0 [])=some (List.replicate m (Δ,h',jv ay)))(k:GW P r N0 Q (tM Δ h' (wk P w0 [])))(e0:tk (wk P w0 [])=some []:=by kernel_rfl):GW P r N0 Q w0:=by
 generalize hw:wk P w0 []=w at e k e0;obtain⟨ay,e⟩:=e;unfold Zw at e;split at e
 ·next id ops K' s' l=>
  obtain⟨hb,e⟩:=kG e;cases e0
  refine o0 hm hw λK _=> ?_;obtain⟨p,hp⟩:=Option.isSome_iff_exists.1 hb;obtain⟨y,K2⟩:=p;show bA P r N0 (.region id ops true) (ia P r N0 Q K') s';have:=rte (r:=r) (N0:=N0) (Q:=ia P r N0 Q K') (id:=id) (ol:=ops.toList) (n:=s'.n) (t:=s'.t) (h:=s'.h) m hm ay Δ h' e (Mo hp (by
   have k:=k.run;simp only[tM,hp]at k;exact k))
  simpa using this
 ·cases e
def Xf(P:api)(keep:apf Nat)(as:apf (Nat×bX)):WO->aph (apf (Nat×AV)×apf aq×apf (In×bX))
 |some (.at (.region _ ops true) K s,_)=>bif (A9 K).isSome&&D4 true ops (List.range ops.toList.length)&&Fp as 0 ops.toList then qH P false ops.toList as keep s else none
 |_=>none
theorem AD(hm:P.follows .mixedOrders=true)(ay:apf (Nat×Ob P))(Δ:apf (Nat×AV))(h':apf aq)(k:GW P r N0 Q (tM Δ h' (wk P w0 [])))(e:Xf P (Δ.map (·.1)) (iY ay) (wk P w0 [])=some (Δ,h',jv ay):=by kernel_rfl)(e0:tk (wk P w0 [])=some []:=by kernel_rfl):GW P r N0 Q w0:=by
 generalize hw:wk P w0 []=w at e k e0;unfold Xf at e;split at e
 ·next id ops K' s' l=>
  obtain⟨hb,e⟩:=kG e;rw[aot,aot]at hb;cases e0
  refine o0 hm hw λK _=> ?_;obtain⟨p,hp⟩:=Option.isSome_iff_exists.1 hb.1.1;obtain⟨y,K2⟩:=p;show bA P r N0 (.region id ops true) (ia P r N0 Q K') s';have hk:bA P r N0 y (ia P r N0 Q K2) ⟨s'.n,Δ++s'.t,h'⟩:=by
   have k:=k.run;simp only[tM,hp]at k;exact k
  obtain⟨s1,J,h2,h3,h4⟩:=Jo e;have xu:ia P r N0 Q K' .normal s1:=Mo hp (L2 (s:=s1) (s':=⟨s'.n,Δ++s'.t,h'⟩) h2.symm h3.symm h4 hk);have hl:D4 true ops.toList.toArray (List.range ops.toList.length)=true:=by simpa using hb.1.2
  have:bA P r N0 (.region id ops.toList.toArray true) (ia P r N0 Q K') s':=by
   refine Ti (m:=true) (List.range ops.toList.length) hm (by simp) hl ?_;rw[Uu];exact Nk ops.toList 0 _ _ J (pz ay) hb.2 xu
  simpa using this
 ·cases e
def PX(b:Nat):aq->apf (Nat×Nat×Nat×Nat)
 | .cells cs=>AV.ud b cs
 | .lp .. =>[(1,0,0,0)]
 | .it .. =>[(1,0,0,0)]
 | .eP _ cs=>AV.ud b cs
 |_=>[]
structure VM(b L kk:Nat)(ys:List (List D)) where
 x:List (List AV)
 y:List (List AV)
 ok:ys.length=L->y=x.map (·.map (AV.dj b kk ys))
def VM.H9{b L kk:Nat}{ys:apf (apf D)}(zs:apf (apf D)):VM b L kk ys:=⟨cd zs,cd zs,λ_=>(ab4 (λd=>by simp [AV.dj]) zs).symm⟩
def pj(b:Nat)(ys:apf (apf D)):apf aq->apf (apf (apf AV))->apf aq
 |[],_=>[]
 |B::l,vs=>match B with
  | .vec e k cs=>match vs with
    |v::vs=> .vec e k v::pj b ys l vs
    |[]=> .vec e k cs::pj b ys l []
  | .cells cs=> .cells (AV.nv b ys cs)::pj b ys l vs
  | .eP T cs=> .eP T (AV.nv b ys cs)::pj b ys l vs
  |B=>B::pj b ys l vs
theorem Xd{b L kk:Nat}{ys:apf (apf D)}(hL:ys.length=L):∀(h:apf aq)(vs:apf (VM b L kk ys)),ub h=vs.map VM.x->(∀q∈h.flatMap (PX b),q=(0,ys.length,ys.length,kk))->pj b ys h (vs.map VM.y)=h.map (aq.lx (AV.dj b kk ys))
 |[],_,_,_=>rfl
 |B::l,vs,hv,ho=>by
  have hl:∀vs:apf (VM b L kk ys),ub l=vs.map VM.x->pj b ys l (vs.map VM.y)=l.map (aq.lx (AV.dj b kk ys)):=λvs hv=>Xd hL l vs hv λq hq=>ho q (by rw[List.flatMap_cons];exact List.mem_append_right _ hq);have hb:∀q∈PX b B,q=(0,ys.length,ys.length,kk):=λq hq=>ho q (by rw[List.flatMap_cons];exact List.mem_append_left _ hq);cases B with
  |vec e k cs=>
   cases vs with
   |nil=>cases hv
   |cons v vs=>
    have hv1:cs=v.x:=(List.cons.inj hv).1;have e1:(aq.vec e k cs).lx (AV.dj b kk ys)= .vec e k v.y:=by rw[v.ok hL,hv1];rfl
    show aq.vec e k v.y::pj b ys l (vs.map VM.y)=aq.lx (AV.dj b kk ys) (.vec e k cs)::l.map _;rw[hl vs (List.cons.inj hv).2,e1]
  |cells cs=>
   have e1:(aq.cells cs).lx (AV.dj b kk ys)= .cells (AV.nv b ys cs):=by
    rw[<-yX cs hb,wY];rfl
   show aq.cells (AV.nv b ys cs)::pj b ys l (vs.map VM.y)=aq.lx (AV.dj b kk ys) (.cells cs)::l.map _;rw[hl vs hv,e1]
  |front e k n=>exact congrArg (aq.front e k n::·) (hl vs hv)
  |iB e q=>exact congrArg (aq.iB e q::·) (hl vs hv)
  |map kv=>exact congrArg (aq.map kv::·) (hl vs hv)
  |iS kv=>exact congrArg (aq.iS kv::·) (hl vs hv)
  |gone=>exact congrArg (aq.gone::·) (hl vs hv)
  |lp ls p as bd cs=>have:=congrArg Prod.fst (hb (1,0,0,0) aox);cases this
  |it sn cs=>have:=congrArg Prod.fst (hb (1,0,0,0) aox);cases this
  |eP T0 cs=>
   have e1:(aq.eP T0 cs).lx (AV.dj b kk ys)= .eP T0 (AV.nv b ys cs):=by
    rw[<-yX cs hb,wY];rfl
   show aq.eP T0 (AV.nv b ys cs)::pj b ys l (vs.map VM.y)=aq.lx (AV.dj b kk ys) (.eP T0 cs)::l.map _;rw[hl vs hv,e1]
theorem aiU{c:Code}{s:St}(live:apf Nat)(b:Nat)(xs:apf (apf D)){e k L:Nat}(h':apf aq)(hb:s.h[b]?=some (.vec e k (cd xs)))(jq:∀c∈xs,c.all D.zZ=true)(hL:xs.length=L)
 (ho:∀q∈live.flatMap λi=>(bn s.t i).uE b,q=(0,xs.length,xs.length,k)) (hh:h'=s.h.map (aq.lx (AV.dj b k xs))) (K:bA P r N0 c Q ⟨s.n,live.map (λi=>(i,(bn s.t i).mlt b xs)),h'.set b .gone⟩):bA P r N0 c Q s:=by
 constructor
 intro G w a n hs hN;obtain⟨G',hE,e1,cC⟩:=hs.XM xs hb jq;refine wpIn_mono (K.run G' w a n (cC.less rfl (by rw[hh]) λi=> ?_) (by rw[e1];exact hN)) λ_ _ _ hn=>hn.trans (hE.less hN);show bn (live.map (λi=>(i,(bn s.t i).mlt b xs))) i=bn (s.t.map λp=>(p.1,p.2.dj b k xs)) i\/_;rw[tc (λk=>(bn s.t k).mlt b xs),Lc (AV.dj b k xs) (by simp [AV.dj])];split
 ·next hi=>
  left
  refine(Ua _ λq hq=>ho q ?_).symm;exact List.mem_flatMap.2 ⟨i,hi,hq⟩
 ·exact .inr rfl
def aeM(live:apf Nat)(b:Nat)(s:St):apf (Nat×Nat×Nat×Nat):=(live.flatMap λi=>(bn s.t i).uE b)++s.h.flatMap (PX b)
def aiT(live:apf Nat)(b:Nat)(ys:apf (apf D))(vs:apf (apf (apf AV)))(s:St):St:=⟨s.n,live.map (λi=>(i,(bn s.t i).mlt b ys)),(pj b ys s.h vs).set b .gone⟩
theorem aln(live:apf Nat)(b:Nat){xs:apf (apf D)}(ys:apf (apf D))(L c e k:Nat)(vs:apf (VM b L k ys))(hL:xs.length=L)(hy:ys=xs)(jq:∀c∈xs,c.all D.zZ=true)(K:GW P r N0 Q (YQ (aiT live b ys (vs.map VM.y)) w0))(hb:(wS w0).h[b]?=some (.vec e k (cd xs)):=by kernel_rfl)(ho:aeM live b (wS w0)=List.replicate c (0,L,L,k):=by kernel_rfl)(hv:ub (wS w0).h=vs.map VM.x:=by kernel_rfl):GW P r N0 Q w0:=by
 subst hy;constructor
 unfold BY;split
 ·next c K' s l=>
  have nt:=akY hL ho;exact aiU live b ys _ hb jq hL (λq hq=>nt q (List.mem_append_left _ hq)) (Xd hL s.h vs hv λq hq=>nt q (List.mem_append_right _ hq)) K.run
 ·trivial
theorem W6{m:Nat}:([]:apf aq).all (aq.aE m)=true:=rfl
theorem zW{B:aq}{l:apf aq}{m:Nat}(h:B.aE m=true)(k:l.all (aq.aE m)=true):(B::l).all (aq.aE m)=true:=by rw[apb,h,k];rfl
theorem Zt{e k m:Nat}{xs:apf (apf D)}:(aq.vec e k (cd xs)).aE m=true:=ab1 xs
theorem acX{m n:Nat}{T:apf (Nat×AV)}{LP:aq}{next:apf aq->Prop}{Q:Exit->St->Prop}{s:St}(hs:apf aq)(hl:hs.length=m)(hb:hs.all (aq.aE (m+1))=true)(hc:ja (m+1) (s.h.take (m+1))/\mA s [] (m+1) [] []=some ⟨s.n,[],hs++[LP]⟩)(hn:next hs):Fo m n T LP next Q .normal s:=⟨hs,hl,hb,⟨λh=>h.mA hc.1 hc.2⟩,hn⟩
theorem adv(k:Nat)(xs:apf (apf D))(hx:(bn (wS w0).t k).fI=some xs)(h:uW (.sl xs)->GW P r N0 Q w0):GW P r N0 Q w0:=by
 constructor
 unfold BY;split
 ·next c K s l=>exact vH k xs hx λhl=>(h hl).run
 ·trivial
theorem SX(b i:Nat)(xs:apf (apf D))(hx:(((wS w0).h[b]?).bind λB=>match B with| .cells cs=>(cs[i]?).bind AV.fI|_=>none)=some xs)(h:uW (.sl xs)->GW P r N0 Q w0):GW P r N0 Q w0:=by
 constructor
 unfold BY;split
 ·next c K s l=>exact acE b i xs hx λhl=>(h hl).run
 ·trivial
def adS(k e sz:Nat)(xs:apf (apf D))(s:St):St:=⟨s.n,(k, .own s.h.length xs)::s.t,s.h++[.front e sz xs.length]⟩
def SO(xs:apf (apf D)):AV->Bool
 | .d (.v (.slice none 0 0))=>xs.isEmpty
 |_=>false
theorem amA{xs:apf (apf D)}{x:AV}(h:SO xs x=true):x= .d (.v (.slice none 0 0))/\xs=[]:=by
 unfold SO at h;split at h
 ·exact⟨rfl,List.isEmpty_iff.1 h⟩
 ·cases h
theorem sK(k e sz:Nat)(xs:apf (apf D))(hx:bn (wS w0).t k= .full xs\/SO xs (bn (wS w0).t k)=true)(h:GW P r N0 Q (YQ (adS k e sz xs) w0)):GW P r N0 Q w0:=by
 constructor
 unfold BY;split
 ·next c K s l=>exact Mh k e sz xs (hx.imp id amA) h.run
 ·trivial
end
theorem bc{α:Type}{c:Bool}{a b x:α}{G:Prop}(h:(bif c then a else b)=x)(t:c=true->a=x->G)(f:c=false->b=x->G):G:=by
 cases c with
 |true=>exact t rfl h
 |false=>exact f rfl h
theorem sj{α:Type}{a b:α}(h:some a=some b):a=b:=aoK h
theorem vt{α:Type}{c:Bool}{x:aph α}{r:α}(h:(bif c then x else none)=some r):c=true/\x=some r:=by
 cases c with
 |true=>exact⟨rfl,h⟩
 |false=>cases h
def zg(fn:Func)(args:apf AV)(h:apf aq):WO:=some (.at (fn.body.getD .skip) [] {n:=args.length+(fn.ntmps-args.length),t:=lD 0 args,h:=h},[])
theorem aje{P:api}{f:FuncId}{fn:Func}{args:apf AV}{R:AV}(hf:P.funcs[f]?=some fn)(hb:fn.body.isSome=true)(hn:(fn.name== "runtime.NumGoroutine")=false)
 (hw:GW P none 0 (kS P fn R) (zg fn args [])):ga P f args (·=R):=by
 obtain⟨c,hc⟩:=Option.isSome_iff_exists.1 hb;refine ru hf hc hn ?_;have:fn.body.getD .skip=c:=by rw[hc];rfl
 rw[<-this];exact hw.run
theorem amX{P:api}{f:FuncId}{fn:Func}{args:apf AV}{h H:apf aq}{R:AV}(m:Nat)(hf:P.funcs[f]?=some fn)(hb:fn.body.isSome=true)(hn:(fn.name== "runtime.NumGoroutine")=false)(hm:h.length<=m)
 (hw:GW P none h.length (tR P fn m R H) (zg fn args h)):cO P f args h λr1 J=>r1=R/\J=H:=by
 obtain⟨c,hc⟩:=Option.isSome_iff_exists.1 hb;refine qU m hf hc hn hm ?_;have:fn.body.getD .skip=c:=by rw[hc];rfl
 rw[<-this];exact hw.run
section yB
variable {P:api}
def oL{α:Type}{f:apf α->apf (apf D)}(l:apf α)(h:(f l).length=l.length):Ob P:=⟨_,_, .len h⟩
def oE{xs:apf (apf D)}{k:Nat}{c:apf D}(h:xs[k]?=some c):Ob P:=⟨_,_, .el (xs:=xs) (i:=(k:Int)) (Int.natCast_nonneg _) h⟩
def oq{a b:AV}(h:a=b):Ob P:=⟨_,_, .eq h⟩
def os(ks:apf Nat)(o:Ob P)(l:apf (Nat×Ob P)):apf (Nat×Ob P):=ks.foldr (λk t=>(k,o)::t) l
noncomputable def soI(x:Nat×Ob P)(l:apf (Nat×Ob P)):apf (Nat×Ob P):=List.rec [x] (λy t r=>bif Nat.ble x.1 y.1 then x::y::t else y::r) l
noncomputable def so(l:apf (Nat×Ob P)):apf (Nat×Ob P):=l.foldr soI []
theorem Ag{xs:apf (apf D)}{n:Nat}(e:xs.length=n)(h:uW (.sl xs)):n<=maxLen:=e▸Mj h
end yB
inductive dQ(P:Program):TypeId->List D->Prop
 |bool {t:TypeId} (b:Bool) (h:P.underlying t=some .bool):dQ P t [.v (.bool b)]
 |int {t:TypeId} {k:IntKind} (n:Int) (h:P.underlying t=some (.int k)) (w:(Lit.int k n).wf=true):dQ P t [.v (.int k n)]
 |str {t:TypeId} (s:ByteArray) (h:P.underlying t=some .string) (w:s.size<=maxLen):dQ P t [.v (.string s)]
 |sl {t e:TypeId} (xs:List (List D)) (h:P.underlying t=some (.slice e)) (w:xs.length<=140737488355328) (hx:∀x∈xs,dQ P e x):dQ P t [.sl xs]
 |struct {t:TypeId} {fs:Array Field} (parts:List (List D)) (h:P.underlying t=some (.struct fs)) (hl:parts.length=fs.size) (hx:∀(i:Nat)(f:Field)(x:List D),fs[i]?=some f->parts[i]?=some x->dQ P f.type x):dQ P t parts.flatten
section
variable {P:api} {t:TypeId} {xs:apf D}
theorem dQ.agf(h:dQ P t xs)(ht:P.underlying t=some .bool):∃b,xs=[.v (.bool b)]:=by
 cases h with
 |bool b h=>exact⟨b,rfl⟩
 |int n h=>rw[ht]at h;cases h
 |str s h=>rw[ht]at h;cases h
 |sl l h=>rw[ht]at h;cases h
 |struct p h=>rw[ht]at h;cases h
theorem dQ.n7{k:IntKind}(h:dQ P t xs)(ht:P.underlying t=some (.int k)):∃n,xs=[.v (.int k n)]/\k.min<=n/\n<=k.max:=by
 cases h with
 |bool b h=>rw[ht]at h;cases h
 |int n h w=>
  rw[ht]at h;cases h;unfold Lit.wf at w;simp only[aot,decide_eq_true_eq]at w;exact⟨n,rfl,w⟩
 |str s h=>rw[ht]at h;cases h
 |sl l h=>rw[ht]at h;cases h
 |struct p h=>rw[ht]at h;cases h
theorem dQ.td(h:dQ P t xs)(ht:P.underlying t=some .string):∃s,xs=[.v (.string s)]/\s.size<=maxLen:=by
 cases h with
 |bool b h=>rw[ht]at h;cases h
 |int n h=>rw[ht]at h;cases h
 |str s h w=>exact⟨s,rfl,w⟩
 |sl l h=>rw[ht]at h;cases h
 |struct p h=>rw[ht]at h;cases h
theorem dQ.nr{e:TypeId}(h:dQ P t xs)(ht:P.underlying t=some (.slice e)):∃l,xs=[.sl l]/\l.length<=140737488355328/\∀x∈l,dQ P e x:=by
 cases h with
 |bool b h=>rw[ht]at h;cases h
 |int n h=>rw[ht]at h;cases h
 |str s h=>rw[ht]at h;cases h
 |sl l h w hx=>rw[ht]at h;cases h;exact⟨l,rfl,w,hx⟩
 |struct p h=>rw[ht]at h;cases h
theorem dQ.mQ{fs:Array Field}(h:dQ P t xs)(ht:P.underlying t=some (.struct fs)):∃parts:apf (apf D),xs=parts.flatten/\parts.length=fs.size/\∀(i:Nat)(f:Field)(x:apf D),fs[i]?=some f->parts[i]?=some x->dQ P f.type x:=by
 cases h with
 |bool b h=>rw[ht]at h;cases h
 |int n h=>rw[ht]at h;cases h
 |str s h=>rw[ht]at h;cases h
 |sl l h=>rw[ht]at h;cases h
 |struct p h hl hx=>rw[ht]at h;cases h;exact⟨p,rfl,hl,hx⟩
theorem nk{α:Type}{f:α->apf D}{Q:α->Prop}:∀l:apf (apf D),(∀x∈l,∃a,x=f a/\Q a)->∃r:apf α,l=r.map f/\∀a∈r,Q a
 |[],_=>⟨[],rfl,λ_ h=>by cases h⟩
 |x::l,h=>by
  obtain⟨a,rfl,ha⟩:=h x aox;obtain⟨r,rfl,hr⟩:=nk l λy hy=>h y (aoA _ hy);refine⟨a::r,rfl,λb hb=> ?_⟩;rcases aoV.1 hb with rfl|hb
  ·exact ha
  ·exact hr b hb
end
def PW(P:api)(S:apf TypeId):Bool:=S.all λt=>match P.underlying t with
 |some .bool|some (.int _)|some .string=>true
 |some (.slice e)=>S.contains e&&(decide (0<P.cellsOf e)&&decide (0<P.bytesOf e))
 |some (.struct fs)=>P.consecB fs.toList 0 (P.cellsOf t)&&fs.toList.all λf=>S.contains f.type
 |_=>false
def jF(S:Nat->Nat->Prop)(w:apk)(cs:apf apj)(xs:apf D):Prop:=xs.length=cs.length/\∀(i:Nat)(u:apj)(x:D),cs[i]?=some u->xs[i]?=some x->dh S w u x/\u.oneCell'=true
theorem jF.nil{S:Nat->Nat->Prop}{w:apk}:jF S w [] []:=⟨rfl,λi u x h=>by simp at h⟩
theorem jF.one{S:Nat->Nat->Prop}{w:apk}{u:apj}{x:D}(h:dh S w u x)(J:u.oneCell'=true):jF S w [u] [x]:=⟨rfl,λi v y hv hy=>by
 cases i with
 |zero=>cases hv;cases hy;exact⟨h,J⟩
 |succ i=>simp at hv⟩
theorem jF.app{S:Nat->Nat->Prop}{w:apk}{a b:apf apj}{x y:apf D}(h:jF S w a x)(k:jF S w b y):jF S w (a++b) (x++y):=by
 refine⟨by simp [h.1,k.1],λi u z hu hz=> ?_⟩;by_cases hi:i<a.length
 ·rw[aoB hi]at hu;rw[aoB (by rw[h.1];exact hi)]at hz;exact h.2 i u z hu hz
 ·rw[aoH (by omega)]at hu;rw[aoH (by rw[h.1];omega),h.1]at hz;exact k.2 _ u z hu hz
theorem Vp{α:Type}{Q:Nat->α->Prop}:∀n:Nat,(∀i,i<n->∃x,Q i x)->∃l:apf α,l.length=n/\∀i x,l[i]?=some x->Q i x
 |0,_=>⟨[],rfl,λi x h=>by simp at h⟩
 |n+1,h=>by
  obtain⟨l,J,h2⟩:=Vp n λi hi=>h i (by omega);obtain⟨x,hx⟩:=h n (by omega);refine⟨l++[x],by simp [J],λi y hy=> ?_⟩;by_cases hi:i<l.length
  ·rw[aoB hi]at hy;exact h2 i y hy
  ·rw[aoH (by omega)]at hy;have:i-l.length=0:=by
     by_cases e:i-l.length=0
     ·exact e
     ·rw[aoX (by simp;omega)]at hy;cases hy
   rw[this]at hy;cases hy;have:i=n:=by omega
   rw[this];exact hx
theorem ab7{a:Addr}(h:a.spot=none)(n:Nat):a.add n=⟨a.block,a.off+n,none⟩:=by
 unfold Addr.add;split
 ·next e=>subst e;cases a;simp only at h;subst h;rfl
 ·rfl
section
variable {H:Type} {enc:TypeId×apj->H} {P:api} {W:apk} {Ts:apf TypeId}
abbrev rk(W:apk):Nat->Nat->Prop:=λb _=>b<W.heap.size
theorem anZ{S:Nat->Nat->Prop}{w:apk}:dh S w (.slice none 0 0) (.sl []):=
 .sl none 0 0 0 0 [] (λ_ _=>undef) (λh=>absurd rfl h) (aoC _) (by simp) (λ_ h=>by cases h) (λi j hi=>by simp at hi) (λi j x d hx=>by simp at hx)
theorem UQ{e:TypeId}:∀{l:apf (DataW H)}{d:DataW H},d∈l->∀n∈d.weights P e,n∈DataW.weightsAll P e l
 |[],_,h,_,_=>by cases h
 |x::l,d,h,n,hn=>by
  simp only[DataW.weightsAll,ao3];rcases aoV.1 h with rfl|h
  ·exact .inl hn
  ·exact .inr (UQ h n hn)
theorem XY{fuel:Nat}(IH:∀(t:TypeId)(cs:apf apj)(d:DataW H)(ps:apf MemPlace),t∈Ts->(∀n∈d.weights P t,n<=reachBytes)->DataW.trod enc P W 0 (λ_=>true) true fuel t cs=some (d,ps)->∃xs,dQ P t xs/\jF (rk W) W cs xs)(cs:apf apj):
 ∀(fs:apf Field)(off:Nat)(ys:apf (DataW H×apf MemPlace)),P.consecB fs off cs.length=true->(∀f∈fs,f.type∈Ts)->(∀n∈DataW.weightsEach P (fs.map (·.type)) (ys.map (·.1)),n<=reachBytes)->
  fs.mapM (λf=>DataW.trod enc P W 0 (λ_=>true) true fuel f.type ((cs.drop f.offset).take (P.cellsOf f.type)))=some ys->
  ∃parts:apf (apf D),parts.length=fs.length/\(∀(i:Nat)(f:Field)(x:apf D),fs[i]?=some f->parts[i]?=some x->dQ P f.type x)/\jF (rk W) W (cs.drop off) parts.flatten
 |[],off,ys,hc,_,_,_=>by
  simp only[Program.consecB,beq_iff_eq]at hc;refine⟨[],rfl,λi f x h=>by simp at h,?_⟩;rw[List.drop_eq_nil_iff.2 (by omega)];exact jF.nil
 |f::fs,off,ys,hc,hS,hw,hm=>by
  simp only[Program.consecB,aot,beq_iff_eq]at hc;obtain⟨anO,hc⟩:=hc;rw[List.mapM_cons]at hm;cases hx:DataW.trod enc P W 0 (λ_=>true) true fuel f.type ((cs.drop f.offset).take (P.cellsOf f.type))with
  |none=>simp [hx]at hm
  |some p=>
   cases lT:fs.mapM (λf=>DataW.trod enc P W 0 (λ_=>true) true fuel f.type ((cs.drop f.offset).take (P.cellsOf f.type)))with
   |none=>simp [hx,lT]at hm
   |some ps=>
    obtain⟨d,q⟩:=p;obtain rfl:(d,q)::ps=ys:=by simpa [hx,lT]using hm
    simp only[aoQ,DataW.weightsEach,ao3]at hw;obtain⟨x,J,h2⟩:=IH f.type _ d q (hS f aox) (λn hn=>hw n (.inl hn)) hx;obtain⟨parts,k1,k2,k3⟩:=XY IH cs fs (off+P.cellsOf f.type) ps hc (λg hg=>hS g (aoA _ hg)) (λn hn=>hw n (.inr hn)) lT;refine⟨x::parts,by simp [k1],λi g y hg hy=> ?_,?_⟩
    ·cases i with
     |zero=>cases hg;cases hy;exact J
     |succ i=>exact k2 i g y (by simpa using hg) (by simpa using hy)
    ·rw[List.flatten_cons];rw[anO]at h2;have:=h2.app k3
     rwa [take_drop_step]at this
theorem aal(hT:PW P Ts=true):∀(fuel:Nat)(t:TypeId)(cs:apf apj)(d:DataW H)(ps:apf MemPlace),t∈Ts->(∀n∈d.weights P t,n<=reachBytes)->DataW.trod enc P W 0 (λ_=>true) true fuel t cs=some (d,ps)->∃xs,dQ P t xs/\jF (rk W) W cs xs
 |0,t,cs,d,ps,_,_,h=>by simp [DataW.trod]at h
 |fuel+1,t,cs,d,ps,ht,rN,h=>by
  have IH:=aal hT fuel;have nb:=aoR.1 hT t ht;unfold DataW.trod at h;split at h
  ·next b e=>exact⟨_, .bool b e,jF.one (.v _) rfl⟩
  ·next k k' n e=>
   split at h
   ·next hk=>obtain⟨rfl,hw⟩:=hk;exact⟨_, .int n e hw,jF.one (.v _) rfl⟩
   ·cases h
  ·next e=>rw[e]at nb;cases nb
  ·next s e=>
   split at h
   ·next hw=>exact⟨_, .str s e hw,jF.one (.v _) rfl⟩
   ·cases h
  ·next e=>rw[e]at nb;cases nb
  ·next e=>rw[e]at nb;cases nb
  ·next e e1=>exact⟨_, .sl [] e1 (Nat.zero_le _) (λx hx=>absurd hx ao7),jF.one anZ rfl⟩
  ·next e a len cap e1=>
   rw[e1]at nb;simp only[aot,List.contains_iff_mem,decide_eq_true_eq]at nb;obtain⟨hme,GR,po⟩:=nb;simp only at h;split at h
   ·next hb=>
    obtain⟨_,ln,wq⟩:=hb;rw[Option.bind_eq_some_iff]at h;obtain⟨elems,C7,Ap⟩:=h;rw[Option.map_eq_some_iff]at Ap;obtain⟨rest,_,Ap⟩:=Ap;cases Ap
    simp only[DataW.weights,e1,aoV,ao3,aow]at rN;have hlen:elems.length=len:=by simpa using mapM_some_length C7
    have hQ:∀i,i<len->∃x:apf D,dQ P e x/\∃cB,W.cells? 0 (a.add (i*P.cellsOf e)) (P.cellsOf e)=some cB/\jF (rk W) W cB x:=λi hi=>by
     have J:=mapM_some_get C7 i i (by simp [hi]);rw[aov (by omega)]at J;rw[Option.bind_eq_some_iff]at J;obtain⟨cB,h2,h3⟩:=J;obtain⟨x,h4,h5⟩:=IH e cB elems[i].1 elems[i].2 hme (λn hn=>rN n (.inr (.inl (UQ (List.mem_map.2 ⟨_,List.getElem_mem _,rfl⟩) n hn)))) h3;exact⟨x,h4,cB,h2,h5⟩
    obtain⟨xs,xC,Tb⟩:=Vp len hQ;have Ww:xs≠ []->a.spot=none:=λcE=>by
     have h0:0<len:=by cases xs with|nil=>exact(cE rfl).elim|cons x l=>simp at xC;omega
     obtain⟨x,_,cB,h2,_⟩:=hQ 0 h0;obtain⟨_,h3,h4⟩:=World.cells?_some h2;have h5:=h4 0 GR;rw[Nat.zero_mul]at h5;have e0:(a.add 0).add 0=a:=by simp [Addr.add]
     rw[e0,aov (by omega)]at h5;unfold World.cell? at h5;split at h5
     ·split at h5
      ·cases h5
      ·next hn=>simpa using hn
     ·cases h5
    have ie:∀i x,xs[i]?=some x->x.length=P.cellsOf e/\∀j,j<P.cellsOf e->∃u,W.cell? ⟨a.block,a.off+i*P.cellsOf e+j,none⟩=some u/\u.oneCell'=true/\∀d,x[j]?=some d->dh (rk W) W u d:=λi x hx=>by
     obtain⟨_,cB,h2,h3⟩:=Tb i x hx;obtain⟨_,h4,h5⟩:=World.cells?_some h2;have hs:=Ww (λe=>by rw[e]at hx;simp at hx);refine⟨h3.1.trans h4,λj hj=> ?_⟩;have h6:=h5 j hj;rw[ab7 hs,ab7 rfl,aov (by omega)]at h6;have hjx:j<x.length:=by rw[h3.1,h4];exact hj
     have hd:x[j]?=some x[j]:=aov hjx;have h7:=h3.2 j _ _ (aov (by omega)) hd;exact⟨_,h6,h7.2,λd iM=>by rw[hd]at iM;cases iM;exact h7.1⟩
    have akU:xs.length<=140737488355328:=by
     have J:=rN _ (.inl rfl);have h2:(elems.length+rest.length)*1<=(elems.length+rest.length)*P.bytesOf e:=Nat.mul_le_mul_left _ po;have h3:reachBytes<=140737488355328:=by decide
     omega
    refine⟨[.sl xs], .sl xs e1 akU (λx hx=> ?_),jF.one ?_ rfl⟩
    ·obtain⟨i,hi,rfl⟩:=List.mem_iff_getElem.1 hx;exact(Tb i _ (aov hi)).1
    ·rw[<-xC];refine .sl (some a) a.block a.off cap (P.cellsOf e) xs (λi j=>(W.cell? ⟨a.block,a.off+i*P.cellsOf e+j,none⟩).getD undef) (λcE=> ?_) (by omega) wq (λx hx=> ?_) (λi j hi hj=> ?_) λi j x d hx hd=> ?_
     ·have:=Ww cE;cases a;simp only at this;subst this;rfl
     ·obtain⟨i,hi,rfl⟩:=List.mem_iff_getElem.1 hx;exact(ie i _ (aov hi)).1
     ·obtain⟨u,J,h2,_⟩:=(ie i _ (aov hi)).2 j hj;refine⟨World.block_lt_of_cell? W ⟨a.block,a.off+i*P.cellsOf e+j,none⟩ J,?_,?_⟩
      ·rw[J];rfl
      ·rw[J];exact h2
     ·obtain⟨hl,hc⟩:=ie i x hx;obtain⟨u,J,_,h3⟩:=hc j (by rw[<-hl];exact(aor.1 hd).1);simp only[J,Option.getD_some];exact h3 d hd
   ·cases h
  ·next cB fs e1=>
   rw[e1]at nb;simp only[aot,aoR,List.contains_iff_mem]at nb;split at h
   ·next hl=>
    rw[Option.map_eq_some_iff]at h;obtain⟨ys,hm,Ap⟩:=h;cases Ap
    simp only[DataW.weights,e1]at rN;obtain⟨parts,k1,k2,k3⟩:=XY IH _ fs.toList 0 ys (by rw[hl];exact nb.1) nb.2 rN hm;exact⟨_, .struct parts e1 (by simpa using k1) (λi f x hf=>k2 i f x (by simpa using hf)),by simpa using k3⟩
   ·cases h
  all_goals first|(cases h;done)|(exfalso;revert nb;(next e=>rw[e];intro h0;cases h0))
theorem Pd{t:TypeId}{v:apj}{d:DataW H}{ps:apf MemPlace}(hT:PW P Ts=true)(hm:t∈Ts)(hw:∀n∈d.weights P t,n<=reachBytes)(h:DataW.Trod enc P W 0 (λ_=>true) true t v d ps):∃xs,dQ P t xs/\jF (rk W) W v.cells.toList xs:=
 let ⟨fuel,h⟩:=h
 aal hT fuel t _ d ps hm hw h
theorem aoe{t:TypeId}{fs:Array Field}{v:apj}{r:Reach}{base:Nat}(ht:P.underlying t=some (.struct fs))(h:Value.okWide P W r base t v):∃cs,v= .agg cs:=by
 unfold Value.okWide at h;rw[ht]at h;obtain⟨cs,rfl,_⟩:=h;exact⟨cs,rfl⟩
theorem anW{G:Gh}(hS:G.S=rk W){cs:Array apj}{xs:apf D}(h:jF (rk W) W cs.toList xs):aF G W (.agg cs) (.agg (xs.map .d)):=by
 refine .agg cs _ (by rw[aow,h.1,aoY]) λi u c hu hc=> ?_;rw[aoy]at hc;cases hx:xs[i]? with
 |none=>rw[hx]at hc;cases hc
 |some x=>
  rw[hx]at hc;cases hc
  exact .d (hS▸(h.2 i u x (by rw[aoO];exact hu) hx).1)
theorem UB{G:Gh}(hS:G.S=rk W){v:apj}{x:D}(h:jF (rk W) W #[v].toList [x]):aF G W v (.d x):= .d (hS▸(h.2 0 v x rfl rfl).1)
end
end Go.Proofs.YtpeecnpmcbnahaaGreatDoor
