/-
  Part 4 of the proof: AbsWk, AbsMapR, AbsBld, OpenD.
-/
import Derived.Test.YtmkmibahjanejaaGreatDoorPp3
import Derived.Deep.AppendSrc
import Derived.ProofKit
import Derived.DataOpen
import Derived.SizedLaws
namespace Go.Proofs.YtmkmibahjanejaaGreatDoor
open Go.RowKit
set_option linter.unusedSimpArgs false
set_option linter.unusedVariables false
def Ji{α:Type}(x:AV)(k:AV->α):α:=
 match x with
 | .d y=>k (.d y)
 | .agg cs=>k (.agg cs)
 | .bz cs=>k (.bz cs)
 | .ptr n o=>fN n λn=>fN o λo=>k (.ptr n o)
 | .own n xs=>fN n λn=>k (.own n xs)
 | .fn f cs=>k (.fn f cs)
 | .mp n=>fN n λn=>k (.mp n)
 |x=>k x
theorem Zw{α:Type}(x:AV)(k:AV->α):Ji x k=k x:=by cases x<;>simp [Ji,B8]
def fT{α:Type}:aqx (Nat×AV)->(aqx (Nat×AV)->α)->α
 |[],k=>k []
 |(d,x)::l,k=>fN d λd=>Ji x λx=>fT l λl=>k ((d,x)::l)
theorem Xp{α:Type}:∀(l:aqx (Nat×AV))(k:aqx (Nat×AV)->α),fT l k=k l
 |[],k=>rfl
 |(d,x)::l,k=>by rw[fT,B8,Zw,Xp l]
def fC{α:Type}:aqx AV->(aqx AV->α)->α
 |[],k=>k []
 |x::l,k=>Ji x λx=>fC l λl=>k (x::l)
theorem Xs{α:Type}:∀(l:aqx AV)(k:aqx AV->α),fC l k=k l
 |[],k=>rfl
 |x::l,k=>by rw[fC,Zw,Xs l]
def fH{α:Type}:aqx an->(aqx an->α)->α
 |[],k=>k []
 | .cells cs::l,k=>fC cs λcs=>fH l λl=>k (.cells cs::l)
 | .front e z n::l,k=>fH l λl=>k (.front e z n::l)
 | .map kv::l,k=>fH l λl=>k (.map kv::l)
 | .gone::l,k=>fH l λl=>k (.gone::l)
 |B::l,k=>fH l λl=>k (B::l)
theorem qt{α:Type}:∀(l:aqx an)(k:aqx an->α),fH l k=k l
 |[],k=>rfl
 | .cells cs::l,k=>by rw[fH,Xs,qt l]
 | .front e z n::l,k=>by rw[fH,qt l]
 | .map kv::l,k=>by rw[fH,qt l]
 | .gone::l,k=>by rw[fH,qt l]
 | .fV .. ::l,k=>by rw[fH,qt l]<;>simp
 | .vec .. ::l,k=>by rw[fH,qt l]<;>simp
 | .lp .. ::l,k=>by rw[fH,qt l]<;>simp
 | .it .. ::l,k=>by rw[fH,qt l]<;>simp
 | .aV .. ::l,k=>by rw[fH,qt l]<;>simp
 | .bm .. ::l,k=>by rw[fH,qt l]<;>simp
def PJ{α:Type}(s:St)(k:St->α):α:=fN s.n λn=>fT s.t λt=>fH s.h λh=>k ⟨n,t,h⟩
theorem aly{α:Type}(s:St)(k:St->α):PJ s k=k s:=by unfold PJ;rw[B8,Xp,qt]
inductive Fr
 |S (y:Code)
 |B (id:Nat)
 |F (k:Nat) (f:St->Prop)
def gM(P:aqA)(r:aqz Nat)(N0:Nat)(Q:Exit->St->Prop):aqx Fr->Exit->St->Prop
 |[]=>Q
 | .S y::K=>gy (λs=>bu P r N0 y (gM P r N0 Q K) s) (gM P r N0 Q K)
 | .B id::K=>rE id (gM P r N0 Q K)
 | .F _ f::K=>gy f (gM P r N0 Q K)
inductive Md
 |c (c:Code)
 |n
 |x (id:Nat)
inductive WR
 |at (c:Code) (K:List Fr) (s:St)
 |ret (s:St)
 |nrm (s:St)
 |fin (k:Nat) (s:St)
abbrev WO:=aqz (WR×aqx (In×bY))
def KJ(l:aqx (In×bY)):WO->WO
 |some (w,m)=>some (w,l++m)
 |none=>none
def mK(P:aqA):Nat->Md->aqx Fr->aqx (aqx (Nat×bY))->St->WO
 |0,_,_,_,_=>none
 |F+1,m,K,A,s=>match m with
  | .n=>match K with
    |[]=>some (.nrm s,[])
    | .S y::K=>mK P F (.c y) K A s
    | .B _::K=>mK P F .n K A s
    | .F k _::_=>some (.fin k s,[])
  | .x id=>match K with
    |[]=>none
    | .S _::K=>mK P F (.x id) K A s
    | .B qL::K=>mK P F (bif id==qL then .n else .x id) K A s
    | .F _ _::K=>mK P F (.x id) K A s
  | .c c=>match c with
    | .seq a b=>mK P F (.c a) (.S b::K) A s
    | .block id b=>mK P F (.c b) (.B id::K) A s
    | .skip=>mK P F .n K A s
    | .ret=>some (.ret s,[])
    | .exit id=>mK P F (.x id) K A s
    | .region id ops dr=>match A with
      |[]=>some (.at (.region id ops dr) K s,[])
      |as::A=>bif !dr||uC ops then match je P ops dr ops.toList 0 as s with
         |some (s1,l)=>PJ s1 λs1=>KJ l (mK P F .n K A s1)
         |none=>none
       else none
    | .cond o x y=>match A with
      |[]=>some (.at (.cond o x y) K s,[])
      |as::A=>match iY as 0 with
       | .bit b=>KJ [(.bit (ev s o), .bit b)] (mK P F (.c (bif b then x else y)) K A s)
       |_=>none
    |c=>match A with
     |[]=>some (.at c K s,[])
     |_=>none
section
variable {P:aqA} {r:aqz Nat} {N0:Nat} {Q:Exit->St->Prop}
theorem LG:∀(K:aqx Fr)(s:St),Q .ret s->gM P r N0 Q K .ret s
 |[],_,h=>h
 | .S _::K,s,h=>LG K s h
 | .B _::K,s,h=>LG K s h
 | .F _ _::K,s,h=>LG K s h
def aiX(P:aqA)(r:aqz Nat)(N0:Nat)(Q:Exit->St->Prop)(m:Md)(K:aqx Fr)(s:St):Prop:=
 match m with
 | .c c=>bu P r N0 c (gM P r N0 Q K) s
 | .n=>gM P r N0 Q K .normal s
 | .x id=>gM P r N0 Q K (.exit id) s
def EC(P:aqA)(r:aqz Nat)(N0:Nat)(Q:Exit->St->Prop)(K0:aqx Fr):WR->Prop
 | .at c K s=>bu P r N0 c (gM P r N0 Q K) s
 | .ret s=>Q .ret s
 | .nrm s=>Q .normal s
 | .fin k s=>∀f,Fr.F k f∈K0->f s
theorem EC.sub{K K':aqx Fr}(h:∀k f,Fr.F k f∈K'->Fr.F k f∈K):∀{w:WR},EC P r N0 Q K w->EC P r N0 Q K' w
 | .at _ _ _,hp=>hp
 | .ret _,hp=>hp
 | .nrm _,hp=>hp
 | .fin k _,hp=>λf hf=>hp f (h k f hf)
theorem Vf{l m:aqx (In×bY)}{x:WO}{w:WR}(h:KJ l x=some (w,m))(bQ:gC P m):∃n,x=some (w,n)/\gC P n/\gC P l:=by
 unfold KJ at h;split at h
 ·next w' n=>
  cases h
  exact⟨n,rfl,λp hp=>bQ p (List.mem_append_right _ hp),λp hp=>bQ p (List.mem_append_left _ hp)⟩
 ·cases h
theorem U7(hm:P.follows .mixedOrders=true):∀(F:Nat)(m:Md)(K:aqx Fr)(A:aqx (aqx (Nat×bY)))(s:St)(w:WR)(l:aqx (In×bY)),mK P F m K A s=some (w,l)->gC P l->EC P r N0 Q K w->aiX P r N0 Q m K s
 |0,_,_,_,_,_,_,h,_,_=>by simp [mK]at h
 |F+1,m,K,A,s,w,l,h,bQ,hp=>by
  have ih:=U7 hm F;have tl:∀{x:Fr}{K:aqx Fr},∀k f,Fr.F k f∈K->Fr.F k f∈x::K:=λ_ _ h=>apS _ h;have pS:∀{y:Code}{K:aqx Fr},∀k f,Fr.F k f∈Fr.S y::K->Fr.F k f∈K:=λk f h=>by
   rcases aqd.1 h with h|h
   ·cases h
   ·exact h
  have pB:∀{y:Nat}{K:aqx Fr},∀k f,Fr.F k f∈Fr.B y::K->Fr.F k f∈K:=λk f h=>by
   rcases aqd.1 h with h|h
   ·cases h
   ·exact h
  unfold mK at h;cases m with
  |n=>
   cases K with
   |nil=>cases h;exact hp
   |cons x K=>
    cases x with
    |S y=>exact ih (.c y) K _ _ _ _ h bQ (hp.sub tl)
    |B id=>exact ih .n K _ _ _ _ h bQ (hp.sub tl)
    |F k f=>cases h;exact hp _ apP
  |x id=>
   cases K with
   |nil=>cases h
   |cons x K=>
    cases x with
    |S y=>exact ih (.x id) K _ _ _ _ h bQ (hp.sub tl)
    |B qL=>
     show(bif id==qL then gM P r N0 Q K .normal s else gM P r N0 Q K (.exit id) s);simp only at h;cases e:id==qL with
     |true=>rw[e]at h;exact ih .n K _ _ _ _ h bQ (hp.sub tl)
     |false=>rw[e]at h;exact ih (.x id) K _ _ _ _ h bQ (hp.sub tl)
    |F k f=>exact ih (.x id) K _ _ _ _ h bQ (hp.sub tl)
  |c c=>
   simp only at h;split at h
   ·exact bW (ih (.c _) (.S _::K) _ _ _ _ h bQ (hp.sub pS))
   ·exact ky (ih (.c _) (.B _::K) _ _ _ _ h bQ (hp.sub pB))
   ·exact jn (ih .n _ _ _ _ _ h bQ hp)
   ·cases h;exact gN (LG K s hp)
   ·exact wJ (ih (.x _) _ _ _ _ _ h bQ hp)
   ·next id ops dr=>
    split at h
    ·cases h;exact hp
    ·next as A=>
     obtain⟨hb,h⟩:=nF h;split at h
     ·next s1 l1 e=>
      rw[aly]at h;obtain⟨n,e2,h2,h3⟩:=Vf h bQ;have hk:=ih .n _ _ _ _ _ e2 h2 hp;have dp:=xT (P:=P) (ops:=ops) (dr:=dr) (K:=gM P r N0 Q K .normal) ops.toList 0 s l1 e h3 hk;cases dr with
      |false=>exact fP dp
      |true=>
       have hl:uC ops.toList.toArray=true:=by simpa using hb
       have:=Sl (P:=P) (r:=r) (N0:=N0) (Q:=gM P r N0 Q K) (s:=s) (id:=id) (l:=ops.toList) hm hl (by simpa using dp);show bu P r N0 (.region id ops true) (gM P r N0 Q K) s
       simpa using this
     ·cases h
   ·next o x y=>
    split at h
    ·cases h;exact hp
    ·next as A=>
     split at h
     ·next b e=>
      obtain⟨n,e2,h2,h3⟩:=Vf h bQ;have h4:=OK.Lt (h3 (_,_) apP);have hk:=ih (.c _) _ _ _ _ _ e2 h2 hp;exact DC h4 (λe=>by subst e;exact hk) (λe=>by subst e;exact hk)
     ·cases h
   ·split at h
    ·cases h;exact hp
    ·cases h
end
def wK:WO->aqx Fr
 |some (.at _ K _,_)=>K
 |_=>[]
def wS:WO->St
 |some (.at _ _ s,_)=>s
 |_=>⟨0,[],[]⟩
def jP(k:Nat):aqx Fr->aqx (St->Prop)
 |[]=>[]
 | .F k' f::K=>bif k'==k then f::jP k K else jP k K
 |_::K=>jP k K
theorem FW{k:Nat}{f:St->Prop}:∀{K:aqx Fr},Fr.F k f∈K->f∈jP k K
 |[],h=>by cases h
 | .S _::K,h=>by
   rcases aqd.1 h with h|h
   ·cases h
   ·exact FW (K:=K) h
 | .B _::K,h=>by
   rcases aqd.1 h with h|h
   ·cases h
   ·exact FW (K:=K) h
 | .F k' g::K,h=>by
   rcases aqd.1 h with h|h
   ·cases h;simp [jP]
   ·unfold jP;cases k'==k with
    |true=>exact apS _ (FW h)
    |false=>exact FW h
def ub:WO->aqz (aqx (In×bY))
 |some (.at _ _ _,l)=>some l
 |_=>none
def mL(live:aqx Nat)(m:Nat):WO->aqz (St×aqx (In×bY))
 |some (.at (.loop _) _ s,l)=>(jc s live m).map (·,l)
 |_=>none
def DZ(live:aqx Nat)(m:Nat)(ks:aqx Nat)(kn:aqx (Nat×Nat)):WO->aqz (St×aqx (In×bY))
 |some (.at (.loop _) _ s,l)=>(ni s live m ks kn).map (·,l)
 |_=>none
def rX:WO->aqz (aqx (In×bY))
 |some (.at _ (.S _::_) _,l)=>some l
 |_=>none
def p5(k:Nat)(live:aqx Nat)(m:Nat):WO->aqz (St×aqx (In×bY))
 |some (.fin k' s,l)=>bif k'==k then(jc s live m).map (·,l)else none
 |_=>none
def zy(k:Nat)(live:aqx Nat)(m:Nat)(ks:aqx Nat)(kn:aqx (Nat×Nat)):WO->aqz (St×aqx (In×bY))
 |some (.fin k' s,l)=>bif k'==k then(ni s live m ks kn).map (·,l)else none
 |_=>none
def sL(P:aqA)(rs:aqx ResultVar):WO->aqz (AV×aqx (In×bY))
 |some (.ret s,l)=>(wW P rs s).map (·,l)
 |some (.nrm s,l)=>(wW P rs s).map (·,l)
 |_=>none
def Hd(P:aqA)(rs:aqx ResultVar)(m:Nat):WO->aqz ((AV×aqx an)×aqx (In×bY))
 |some (.ret s,l)=>(wg P rs m s).map (·,l)
 |some (.nrm s,l)=>(wg P rs m s).map (·,l)
 |_=>none
def wy:aqx Fr->aqz (Code×aqx Fr)
 | .S y::K=>some (y,K)
 | .B _::K=>wy K
 |_=>none
def Ho(P:aqA)(aT:aqx Nat)(as:aqx (Nat×bY)):WO->aqz (aqx (Nat×AV)×aqx an×aqx (In×bY))
 |some (.at (.region _ ops dr) K s,_)=>bif (!dr||uC ops)&&(wy K).isSome then oX P dr ops.toList as aT s else none
 |_=>none
def inLoop(k:Nat)(f:St->Prop)(s:St):WO->WO
 |some (.at (.loop b) K _,_)=>some (.at b (.F k f::K) s,[])
 |_=>none
def uF(k:Nat)(f:St->Prop):WO->WO
 |some (.at c (.S _::K) s,_)=>some (.at c (.F k f::K) s,[])
 |_=>none
def uQ(s:St):WO->WO
 |some (.at _ (.S y::K) _,_)=>some (.at y K s,[])
 |_=>none
def vD(Δ:aqx (Nat×AV))(h':aqx an):WO->WO
 |some (.at _ K s,_)=>match wy K with
  |some (y,K')=>some (.at y K' ⟨s.n,Δ++s.t,h'⟩,[])
  |none=>none
 |_=>none
def P8(f:St->St):WO->WO
 |some (.at c K s,l)=>some (.at c K (f s),l)
 |_=>none
def Vj:Nat:=4000
def wk(P:aqA)(w:WO)(ax:aqx (aqx (Nat×Ob P))):WO:=
 match w with
 |some (.at c K s,_)=>mK P Vj (.c c) K (ax.map ja) s
 |_=>none
def dE{P:aqA}(ax:aqx (aqx (Nat×Ob P))):aqx (In×bY):=ax.flatMap jW
theorem alq{P:aqA}(ax:aqx (aqx (Nat×Ob P))):gC P (dE ax):=λp hp=>by
 obtain⟨l,_,h⟩:=List.mem_flatMap.1 hp;exact qV l p h
theorem sa{α β:Type}{x:aqz α}{l:β}{y:α}{m:β}(h:x.map (·,l)=some (y,m)):x=some y/\l=m:=by
 cases x with
 |none=>cases h
 |some z=>cases h;exact⟨rfl,rfl⟩
def zA(P:aqA)(r:aqz Nat)(N0:Nat)(Q:Exit->St->Prop):WO->Prop
 |some (.at c K s,_)=>bu P r N0 c (gM P r N0 Q K) s
 |_=>True
structure GW(P:Program)(r:Option Nat)(N0:Nat)(Q:Exit->St->Prop)(w:WO):Prop where
 run:zA P r N0 Q w
section
variable {P:aqA} {r:aqz Nat} {N0:Nat} {Q:Exit->St->Prop} {w0:WO}
theorem oF{ax:aqx (aqx (Nat×Ob P))}(hm:P.follows .mixedOrders=true){w:WR}(e:wk P w0 ax=some (w,dE ax))(hp:∀K,(∀k f,Fr.F k f∈K->Fr.F k f∈wK w0)->EC P r N0 Q K w):GW P r N0 Q w0:=by
 constructor
 unfold wk at e;split at e
 ·next c K s l=>exact U7 hm Vj (.c c) K _ s w _ e (alq ax) (hp K λk f h=>h)
 ·cases e
theorem wC(hm:P.follows .mixedOrders=true)(ax:aqx (aqx (Nat×Ob P)))(k:GW P r N0 Q (wk P w0 ax))(e:ub (wk P w0 ax)=some (dE ax):=by kernel_rfl):GW P r N0 Q w0:=by
 generalize hw:wk P w0 ax=w at e k;unfold ub at e;split at e
 ·cases e;exact oF hm hw λK _=>k.run
 ·cases e
theorem af8(hm:P.follows .mixedOrders=true){fn:Func}{R:AV}(ax:aqx (aqx (Nat×Ob P)))(e:sL P fn.results.toList (wk P w0 ax)=some (R,dE ax)):GW P r N0 (kR P fn R) w0:=by
 generalize hw:wk P w0 ax=w at e;unfold sL at e;split at e
 ·obtain⟨e1,rfl⟩:=sa e;exact oF hm hw λK _=>e1
 ·obtain⟨e1,rfl⟩:=sa e;exact oF hm hw λK _=>e1
 ·cases e
theorem ahy(hm:P.follows .mixedOrders=true){fn:Func}{m:Nat}{R:AV}{H:aqx an}(ax:aqx (aqx (Nat×Ob P)))(e:Hd P fn.results.toList m (wk P w0 ax)=some ((R,H),dE ax)):GW P r N0 (s7 P fn m R H) w0:=by
 generalize hw:wk P w0 ax=w at e;unfold Hd at e;split at e
 ·obtain⟨e1,rfl⟩:=sa e;exact oF hm hw λK _=>e1
 ·obtain⟨e1,rfl⟩:=sa e;exact oF hm hw λK _=>e1
 ·cases e
theorem wr(hm:P.follows .mixedOrders=true){fn:Func}{R:AV}(ax:aqx (aqx (Nat×Ob P)))(e:sL P fn.results.toList (wk P w0 ax)=some (R,dE ax):=by kernel_rfl):GW P r N0 (kR P fn R) w0:=af8 hm ax e
theorem HM(hm:P.follows .mixedOrders=true){fn:Func}{m:Nat}{R:AV}{H:aqx an}(ax:aqx (aqx (Nat×Ob P)))(e:Hd P fn.results.toList m (wk P w0 ax)=some ((R,H),dE ax):=by kernel_rfl):GW P r N0 (s7 P fn m R H) w0:=ahy hm ax e
structure I1{ι:Type}(k:Nat)(live:List Nat)(m:Nat)(st:ι->St)(I:ι->Prop)(μ:ι->Nat)(i0:ι)(f:St->Prop):Prop where
 h:∀s' i',jc s' live m=some (st i')->I i'->μ i'<μ i0->f s'
structure Rj{ι:Type}(k:Nat)(live:List Nat)(m:Nat)(ks:List Nat)(kn:List (Nat×Nat))(st:ι->St)(I:ι->Prop)(μ:ι->Nat)(i0:ι)(f:St->Prop):Prop where
 h:∀s' i',kd m (s'.h.take m)->ni s' live m ks kn=some (st i')->I i'->μ i'<μ i0->f s'
structure vE{ι:Type}(k:Nat)(live:List Nat)(m:Nat)(st:ι->St)(I:ι->Prop)(f:St->Prop):Prop where
 h:∀s' i',jc s' live m=some (st i')->I i'->f s'
structure IT{ι:Type}(k:Nat)(live:List Nat)(m:Nat)(ks:List Nat)(kn:List (Nat×Nat))(st:ι->St)(I:ι->Prop)(f:St->Prop):Prop where
 h:∀s' i',kd m (s'.h.take m)->ni s' live m ks kn=some (st i')->I i'->f s'
theorem Mq(hm:P.follows .mixedOrders=true){k:Nat}{s1:St}{f:St->Prop}(ax:aqx (aqx (Nat×Ob P)))(e1:jP k (wK w0)=[f])(e:wk P w0 ax=some (.fin k s1,dE ax))(hf:f s1):GW P r N0 Q w0:=
 oF hm e λK hK g hg=>by
  have:=FW (hK k g hg);rw[e1,List.mem_singleton]at this;subst this;exact hf
theorem OO(hm:P.follows .mixedOrders=true){ι:Type}{live:aqx Nat}{m k:Nat}{st:ι->St}{I:ι->Prop}{μ:ι->Nat}{i0:ι}{f:St->Prop}(hf:I1 k live m st I μ i0 f)(i:ι)(ax:aqx (aqx (Nat×Ob P)))(hI:I i)(hμ:μ i<μ i0:=by exact aqv _)(e1:jP k (wK w0)=[f]:=by kernel_rfl)(e:p5 k live m (wk P w0 ax)=some (st i,dE ax):=by kernel_rfl):GW P r N0 Q w0:=by
 generalize hw:wk P w0 ax=w at e;unfold p5 at e;split at e
 ·next k' s' l=>
  obtain⟨hb,e⟩:=nF e;obtain⟨e2,rfl⟩:=sa e;rw[beq_iff_eq]at hb;subst hb;exact Mq hm ax e1 hw (hf.h _ i e2 hI hμ)
 ·cases e
def E2:aqx an->aqx (aqx (aqx AV))
 |[]=>[]
 | .vec _ _ cs::l=>cs::E2 l
 |_::l=>E2 l
structure VE(m:Nat) where
 x:List (List AV)
 ok:∀e k,(an.vec e k x).Bn m
theorem Cc{m:Nat}:∀(l:aqx an)(gP:aqx (VE m)),E2 l=gP.map VE.x->kd m l
 |[],_,_=>NO
 |B::l,gP,h=>by
  cases B with
  |vec e k cs=>
   cases gP with
   |nil=>cases h
   |cons v vs=>
    have h1:cs=v.x:=(List.cons.inj h).1;subst h1;exact⟨v.ok e k,Cc l vs (List.cons.inj h).2⟩
  |_=>exact⟨trivial,Cc l gP h⟩
def uZ(m:Nat):WO->aqx (aqx (aqx AV))
 |some (.fin _ s,_)=>E2 (s.h.take m)
 |some (.at _ _ s,_)=>E2 (s.h.take m)
 |_=>[]
theorem anC(hm:P.follows .mixedOrders=true){ι:Type}{live:aqx Nat}{m k:Nat}{ks:aqx Nat}{kn:aqx (Nat×Nat)}{st:ι->St}{I:ι->Prop}{μ:ι->Nat}{i0:ι}{f:St->Prop}(hf:Rj k live m ks kn st I μ i0 f)(i:ι)(ax:aqx (aqx (Nat×Ob P)))(hI:I i)(hμ:μ i<μ i0:=by exact aqv _)(e1:jP k (wK w0)=[f]:=by kernel_rfl)(gP:aqx (VE m):=[])(e0:uZ m (wk P w0 ax)=gP.map VE.x:=by kernel_rfl)(e:zy k live m ks kn (wk P w0 ax)=some (st i,dE ax):=by kernel_rfl):GW P r N0 Q w0:=by
 generalize hw:wk P w0 ax=w at e e0;unfold zy at e;split at e
 ·next k' s' l=>
  obtain⟨hb,e⟩:=nF e;obtain⟨e2,rfl⟩:=sa e;rw[beq_iff_eq]at hb;subst hb;exact Mq hm ax e1 hw (hf.h _ i (Cc _ gP e0) e2 hI hμ)
 ·cases e
theorem Mp(hm:P.follows .mixedOrders=true){ι:Type}{live:aqx Nat}{m k:Nat}{st:ι->St}{I:ι->Prop}{f:St->Prop}(hf:vE k live m st I f)(i:ι)(ax:aqx (aqx (Nat×Ob P)))(hI:I i)(e1:jP k (wK w0)=[f]:=by kernel_rfl)(e:p5 k live m (wk P w0 ax)=some (st i,dE ax):=by kernel_rfl):GW P r N0 Q w0:=by
 generalize hw:wk P w0 ax=w at e;unfold p5 at e;split at e
 ·next k' s' l=>
  obtain⟨hb,e⟩:=nF e;obtain⟨e2,rfl⟩:=sa e;rw[beq_iff_eq]at hb;subst hb;exact Mq hm ax e1 hw (hf.h _ i e2 hI)
 ·cases e
theorem S2(hm:P.follows .mixedOrders=true){ι:Type}(k:Nat)(ax:aqx (aqx (Nat×Ob P)))(live:aqx Nat)(m:Nat)(st:ι->St)(I:ι->Prop)(μ:ι->Nat)(i0:ι)(hI:I i0)
 (body:∀i,I i->∀f:St->Prop,I1 k live m st I μ i f->GW P r N0 Q (inLoop k f (st i) (wk P w0 ax)))
 (hN:N0<=m:=by exact apR rfl) (e:mL live m (wk P w0 ax)=some (st i0,dE ax):=by kernel_rfl):GW P r N0 Q w0:=by
 generalize hw:wk P w0 ax=w at e body;unfold mL at e;split at e
 ·next b K' s' l=>
  obtain⟨e2,rfl⟩:=sa e;refine oF hm hw λK _=> ?_;refine Z9 live m st I μ i0 hN e2 hI λi hi=> ?_;exact(body i hi _ ⟨λs' i' h1 h2 h3=>⟨i',h1,h2,h3⟩⟩).run
 ·cases e
theorem alB(hm:P.follows .mixedOrders=true){ι:Type}(k:Nat)(ax:aqx (aqx (Nat×Ob P)))(live:aqx Nat)(m:Nat)(ks:aqx Nat)(kn:aqx (Nat×Nat))(st:ι->St)(I:ι->Prop)(μ:ι->Nat)(i0:ι)(hI:I i0)
 (body:∀i,I i->∀f:St->Prop,Rj k live m ks kn st I μ i f->GW P r N0 Q (inLoop k f (st i) (wk P w0 ax)))
 (hN:N0<=m:=by exact apR rfl) (gP:aqx (VE m):=[]) (e0:uZ m (wk P w0 ax)=gP.map VE.x:=by kernel_rfl) (e:DZ live m ks kn (wk P w0 ax)=some (st i0,dE ax):=by kernel_rfl):GW P r N0 Q w0:=by
 generalize hw:wk P w0 ax=w at e e0 body;unfold DZ at e;split at e
 ·next b K' s' l=>
  obtain⟨e2,rfl⟩:=sa e;refine oF hm hw λK _=> ?_;refine aa0 live m ks kn st I μ i0 hN ⟨Cc _ gP e0,e2⟩ hI λi hi=> ?_;exact(body i hi _ ⟨λs' i' h0 h1 h2 h3=>⟨i',⟨h0,h1⟩,h2,h3⟩⟩).run
 ·cases e
theorem QX(hm:P.follows .mixedOrders=true){ι:Type}(k:Nat)(ax:aqx (aqx (Nat×Ob P)))(live:aqx Nat)(m:Nat)(st:ι->St)(I:ι->Prop)
 (br:∀f:St->Prop,vE k live m st I f->GW P r N0 Q (uF k f (wk P w0 ax)))
 (rest:∀i,I i->GW P r N0 Q (uQ (st i) (wk P w0 ax))) (hN:N0<=m:=by exact apR rfl) (e:rX (wk P w0 ax)=some (dE ax):=by kernel_rfl):GW P r N0 Q w0:=by
 generalize hw:wk P w0 ax=w at e br rest;unfold rX at e;split at e
 ·cases e
  refine oF hm hw λK _=> ?_;exact aoC live m st I hN (br _ ⟨λs' i' h1 h2=>⟨i',h1,h2⟩⟩).run λi hi=>(rest i hi).run
 ·cases e
theorem ak9(hm:P.follows .mixedOrders=true){ι:Type}{live:aqx Nat}{m k:Nat}{ks:aqx Nat}{kn:aqx (Nat×Nat)}{st:ι->St}{I:ι->Prop}{f:St->Prop}(hf:IT k live m ks kn st I f)(i:ι)(ax:aqx (aqx (Nat×Ob P)))(hI:I i)(gP:aqx (VE m):=[])(e0:uZ m (wk P w0 ax)=gP.map VE.x:=by kernel_rfl)(e1:jP k (wK w0)=[f]:=by kernel_rfl)(e:zy k live m ks kn (wk P w0 ax)=some (st i,dE ax):=by kernel_rfl):GW P r N0 Q w0:=by
 generalize hw:wk P w0 ax=w at e e0;unfold zy at e;split at e
 ·next k' s' l=>
  obtain⟨hb,e⟩:=nF e;obtain⟨e2,rfl⟩:=sa e;rw[beq_iff_eq]at hb;subst hb;exact Mq hm ax e1 hw (hf.h _ i (Cc _ gP e0) e2 hI)
 ·cases e
theorem adh(hm:P.follows .mixedOrders=true){ι:Type}(k:Nat)(ax:aqx (aqx (Nat×Ob P)))(live:aqx Nat)(m:Nat)(ks:aqx Nat)(kn:aqx (Nat×Nat))(st:ι->St)(I:ι->Prop)
 (br:∀f:St->Prop,IT k live m ks kn st I f->GW P r N0 Q (uF k f (wk P w0 ax)))
 (rest:∀i,I i->GW P r N0 Q (uQ (st i) (wk P w0 ax))) (hN:N0<=m:=by exact apR rfl) (e:rX (wk P w0 ax)=some (dE ax):=by kernel_rfl):GW P r N0 Q w0:=by
 generalize hw:wk P w0 ax=w at e br rest;unfold rX at e;split at e
 ·cases e
  refine oF hm hw λK _=> ?_;exact apo live m ks kn st I hN (br _ ⟨λs' i' h0 h1 h2=>⟨i',⟨h0,h1⟩,h2⟩⟩).run λi hi=>(rest i hi).run
 ·cases e
theorem CT:∀{K:aqx Fr}{y:Code}{K':aqx Fr}{s:St},wy K=some (y,K')->bu P r N0 y (gM P r N0 Q K') s->gM P r N0 Q K .normal s
 |[],_,_,_,h,_=>by cases h
 | .S y::K,_,_,_,h,k=>by cases h;exact k
 | .B _::K,_,_,s,h,k=>CT (K:=K) (s:=s) h k
 | .F _ _::K,_,_,_,h,_=>by cases h
theorem aok(hm:P.follows .mixedOrders=true)(Δ:aqx (Nat×AV))(h':aqx an)(e:∃ax:aqx (Nat×Ob P),Ho P (Δ.map (·.1)) (ja ax) (wk P w0 [])=some (Δ,h',jW ax))(k:GW P r N0 Q (vD Δ h' (wk P w0 [])))(e0:ub (wk P w0 [])=some []:=by kernel_rfl):GW P r N0 Q w0:=by
 generalize hw:wk P w0 []=w at e k e0;obtain⟨ax,e⟩:=e;unfold Ho at e;split at e
 ·next id ops dr K' s' l=>
  obtain⟨hb,e⟩:=nF e;rw[apL]at hb;cases e0
  refine oF hm hw λK _=> ?_;obtain⟨s1,h1,h2,h3,h4⟩:=CH e;obtain⟨p,hp⟩:=Option.isSome_iff_exists.1 hb.2;obtain⟨y,K2⟩:=p;have hk:gM P r N0 Q K' .normal s1:=by
   refine CT hp (DY (s:=s1) (s':=⟨s'.n,Δ++s'.t,h'⟩) h2.symm h3.symm h4 ?_);have k:=k.run;simp only[vD,hp]at k;exact k
  show bu P r N0 (.region id ops dr) (gM P r N0 Q K') s';have dp:=xT (P:=P) (ops:=ops.toList.toArray) (dr:=dr) (K:=gM P r N0 Q K' .normal) ops.toList 0 s' _ h1 (qV ax) hk;cases dr with
  |false=>exact fP (by simpa using dp)
  |true=>
   have hl:uC ops.toList.toArray=true:=by simpa using hb.1
   have:=Sl (P:=P) (r:=r) (N0:=N0) (Q:=gM P r N0 Q K') (s:=s') (id:=id) (l:=ops.toList) hm hl (by simpa using dp)
   simpa using this
 ·cases e
def X0(P:aqA)(aT:aqx Nat)(as:aqx (Nat×bY)):WO->aqz (aqx (aqx (Nat×AV)×aqx an×aqx (In×bY)))
 |some (.at (.region _ ops true) K s,_)=>bif (wy K).isSome then Kn P ops.toList as aT s else none
 |_=>none
theorem V8(m:Nat)(hm:P.follows .mixedOrders=true)(Δ:aqx (Nat×AV))(h':aqx an)(e:∃ax:aqx (Nat×Ob P),X0 P (Δ.map (·.1)) (ja ax) (wk P w0 [])=some (List.replicate m (Δ,h',jW ax)))(k:GW P r N0 Q (vD Δ h' (wk P w0 [])))(e0:ub (wk P w0 [])=some []:=by kernel_rfl):GW P r N0 Q w0:=by
 generalize hw:wk P w0 []=w at e k e0;obtain⟨ax,e⟩:=e;unfold X0 at e;split at e
 ·next id ops K' s' l=>
  obtain⟨hb,e⟩:=nF e;cases e0
  refine oF hm hw λK _=> ?_;obtain⟨p,hp⟩:=Option.isSome_iff_exists.1 hb;obtain⟨y,K2⟩:=p;show bu P r N0 (.region id ops true) (gM P r N0 Q K') s';have:=rte (r:=r) (N0:=N0) (Q:=gM P r N0 Q K') (id:=id) (ol:=ops.toList) (n:=s'.n) (t:=s'.t) (h:=s'.h) m hm ax Δ h' e (CT hp (by
   have k:=k.run;simp only[vD,hp]at k;exact k))
  simpa using this
 ·cases e
def Vv(P:aqA)(aT:aqx Nat)(as:aqx (Nat×bY)):WO->aqz (aqx (Nat×AV)×aqx an×aqx (In×bY))
 |some (.at (.region _ ops true) K s,_)=>bif (wy K).isSome&&yI true ops (List.range ops.toList.length)&&yq as 0 ops.toList then oX P false ops.toList as aT s else none
 |_=>none
theorem aeV(hm:P.follows .mixedOrders=true)(ax:aqx (Nat×Ob P))(Δ:aqx (Nat×AV))(h':aqx an)(k:GW P r N0 Q (vD Δ h' (wk P w0 [])))(e:Vv P (Δ.map (·.1)) (ja ax) (wk P w0 [])=some (Δ,h',jW ax):=by kernel_rfl)(e0:ub (wk P w0 [])=some []:=by kernel_rfl):GW P r N0 Q w0:=by
 generalize hw:wk P w0 []=w at e k e0;unfold Vv at e;split at e
 ·next id ops K' s' l=>
  obtain⟨hb,e⟩:=nF e;rw[apL,apL]at hb;cases e0
  refine oF hm hw λK _=> ?_;obtain⟨p,hp⟩:=Option.isSome_iff_exists.1 hb.1.1;obtain⟨y,K2⟩:=p;show bu P r N0 (.region id ops true) (gM P r N0 Q K') s';have hk:bu P r N0 y (gM P r N0 Q K2) ⟨s'.n,Δ++s'.t,h'⟩:=by
   have k:=k.run;simp only[vD,hp]at k;exact k
  obtain⟨s1,h1,h2,h3,h4⟩:=CH e;have Li:gM P r N0 Q K' .normal s1:=CT hp (DY (s:=s1) (s':=⟨s'.n,Δ++s'.t,h'⟩) h2.symm h3.symm h4 hk);have hl:yI true ops.toList.toArray (List.range ops.toList.length)=true:=by simpa using hb.1.2
  have:bu P r N0 (.region id ops.toList.toArray true) (gM P r N0 Q K') s':=by
   refine R8 (m:=true) (List.range ops.toList.length) hm (by simp) hl ?_;rw[PC];exact LX ops.toList 0 _ _ h1 (qV ax) hb.2 Li
  simpa using this
 ·cases e
theorem aoK(k:Nat)(xs:aqx (aqx D))(hx:(bC (wS w0).t k).fM=some xs)(h:vG (.sl xs)->GW P r N0 Q w0):GW P r N0 Q w0:=by
 constructor
 unfold zA;split
 ·next c K s l=>exact CM k xs hx λhl=>(h hl).run
 ·trivial
theorem Lu(b i:Nat)(xs:aqx (aqx D))(hx:(((wS w0).h[b]?).bind λB=>match B with| .cells cs=>(cs[i]?).bind AV.fM|_=>none)=some xs)(h:vG (.sl xs)->GW P r N0 Q w0):GW P r N0 Q w0:=by
 constructor
 unfold zA;split
 ·next c K s l=>exact ajf b i xs hx λhl=>(h hl).run
 ·trivial
def adS(k e sz:Nat)(xs:aqx (aqx D))(s:St):St:=⟨s.n,(k, .own s.h.length xs)::s.t,s.h++[.front e sz xs.length]⟩
def Mh(b i e sz:Nat)(xs:aqx (aqx D))(s:St):St:=match s.h[b]? with
 |some (.cells cs)=>⟨s.n,s.t,(s.h++[an.front e sz xs.length]).set b (an.cells (cs.set i (AV.own s.h.length xs)))⟩
 |_=>s
def MW(xs:aqx (aqx D)):AV->Bool
 | .d (.v (.slice none 0 0))=>xs.isEmpty
 |_=>false
theorem YN{xs:aqx (aqx D)}{x:AV}(h:MW xs x=true):x= .d (.v (.slice none 0 0))/\xs=[]:=by
 unfold MW at h;split at h
 ·exact⟨rfl,List.isEmpty_iff.1 h⟩
 ·cases h
theorem l8(k e sz:Nat)(xs:aqx (aqx D))(hx:bC (wS w0).t k= .full xs\/MW xs (bC (wS w0).t k)=true)(h:GW P r N0 Q (P8 (adS k e sz xs) w0)):GW P r N0 Q w0:=by
 constructor
 unfold zA;split
 ·next c K s l=>exact aa9 k e sz xs (hx.imp id YN) h.run
 ·trivial
def AV.W7:AV->AV
 | .own _ xs=> .d (.sl xs)
 |x=>x
theorem AV.Le.HI(x:AV):AV.Le x x.W7:=λG w u h=>by
 cases h with
 |own n xs h1 hp h2 h3=>exact .d hp
 |_=>first|exact .d (by assumption)|(constructor<;>assumption)
def PV(b:Nat)(s:St):St:=match s.h[b]? with
 |some (.cells cs)=>⟨s.n,s.t,s.h.set b (an.cells (cs.map AV.W7))⟩
 |_=>s
theorem adA{c:Code}{s:St}{Q:Exit->St->Prop}(b:Nat)(h:bu P r N0 c Q (PV b s)):bu P r N0 c Q s:=by
 unfold PV at h;split at h
 ·next cs hb=>
  constructor
  intro G w a n hs hN;obtain⟨h1,h2,vs,T,h3,h4,h5⟩:=hs.inv.cD _ _ hb;refine h.run G w a n ⟨hs.size,hs.tmp,Ss hs.inv hb (by rw[apO]) λej T' qb j u c hu hc=> ?_,hs.df⟩ hN;rw[h3]at qb;cases qb
  rw[apQ]at hc;cases hq:cs[j]? with
  |none=>rw[hq]at hc;cases hc
  |some y=>rw[hq]at hc;cases hc;exact AV.Le.HI y G w u (h5 j u y hu hq)
 ·exact h
theorem aeF(b:Nat)(h:GW P r N0 Q (P8 (PV b) w0)):GW P r N0 Q w0:=by
 constructor
 unfold zA;split
 ·next c K s l=>exact adA b h.run
 ·trivial
def MY(b i:Nat)(s:St):AV:=match s.h[b]? with
 |some (.cells cs)=>(cs[i]?).getD .dead
 |_=> .dead
theorem T6{b i:Nat}{s:St}{x:AV}(h:MY b i s=x)(hx:x≠ .dead):∃cs,s.h[b]?=some (.cells cs)/\cs[i]?=some x:=by
 unfold MY at h;split at h
 ·next cs hb=>
  refine⟨cs,hb,?_⟩;cases hq:cs[i]? with
  |none=>rw[hq]at h;exact absurd h.symm hx
  |some y=>rw[hq]at h;rw[<-h];rfl
 ·exact absurd h.symm hx
theorem nj(b i e sz:Nat)(xs:aqx (aqx D))(hx:MY b i (wS w0)= .full xs\/MW xs (MY b i (wS w0))=true)(h:GW P r N0 Q (P8 (Mh b i e sz xs) w0)):GW P r N0 Q w0:=by
 constructor
 unfold zA;split
 ·next c K s l=>
  have h':bu P r N0 c (gM P r N0 Q K) (Mh b i e sz xs s):=h.run;rcases hx with hx|hx
  ·obtain⟨cs,h1,h2⟩:=T6 hx (λh=>by cases h);unfold Mh at h';rw[show s.h[b]?=some (.cells cs)from h1]at h';exact Yn b i e sz xs h1 (.inl h2) h'
  ·obtain⟨h3,rfl⟩:=YN hx;obtain⟨cs,h1,h2⟩:=T6 h3 (λh=>by cases h);unfold Mh at h';rw[show s.h[b]?=some (.cells cs)from h1]at h';exact Yn b i e sz [] h1 (.inr ⟨h2,rfl⟩) h'
 ·trivial
end
theorem bc{α:Type}{c:Bool}{a b x:α}{G:Prop}(h:(bif c then a else b)=x)(t:c=true->a=x->G)(f:c=false->b=x->G):G:=by
 cases c with
 |true=>exact t rfl h
 |false=>exact f rfl h
theorem sj{α:Type}{a b:α}(h:some a=some b):a=b:=ap2 h
theorem rY{α:Type}{c:Bool}{x:aqz α}{r:α}(h:(bif c then x else none)=some r):c=true/\x=some r:=by
 cases c with
 |true=>exact⟨rfl,h⟩
 |false=>cases h
def w7(fn:Func)(args:aqx AV)(h:aqx an):WO:=some (.at (fn.body.getD .skip) [] {n:=args.length+(fn.ntmps-args.length),t:=mA 0 args,h:=h},[])
theorem adr{P:aqA}{f:FuncId}{fn:Func}{args:aqx AV}{R:AV}(hf:P.funcs[f]?=some fn)(hb:fn.body.isSome=true)(hn:(fn.name== "runtime.NumGoroutine")=false)
 (hw:GW P none 0 (kR P fn R) (w7 fn args [])):ij P f args (·=R):=by
 obtain⟨c,hc⟩:=Option.isSome_iff_exists.1 hb;refine Ca hf hc hn ?_;have:fn.body.getD .skip=c:=by rw[hc];rfl
 rw[<-this];exact hw.run
theorem alE{P:aqA}{f:FuncId}{fn:Func}{args:aqx AV}{h H:aqx an}{R:AV}(m:Nat)(hf:P.funcs[f]?=some fn)(hb:fn.body.isSome=true)(hn:(fn.name== "runtime.NumGoroutine")=false)(hm:h.length<=m)
 (hw:GW P none h.length (s7 P fn m R H) (w7 fn args h)):cF P f args h λr1 h1=>r1=R/\h1=H:=by
 obtain⟨c,hc⟩:=Option.isSome_iff_exists.1 hb;refine Ab m hf hc hn hm ?_;have:fn.body.getD .skip=c:=by rw[hc];rfl
 rw[<-this];exact hw.run
section nL
variable {P:aqA}
def oL{α:Type}{f:aqx α->aqx (aqx D)}(l:aqx α)(h:(f l).length=l.length):Ob P:=⟨_,_, .len h⟩
def oE{xs:aqx (aqx D)}{k:Nat}{c:aqx D}(h:xs[k]?=some c):Ob P:=⟨_,_, .el (xs:=xs) (i:=(k:Int)) (Int.natCast_nonneg _) h⟩
def oq{a b:AV}(h:a=b):Ob P:=⟨_,_, .eq h⟩
def os(ks:aqx Nat)(o:Ob P)(l:aqx (Nat×Ob P)):aqx (Nat×Ob P):=ks.foldr (λk t=>(k,o)::t) l
noncomputable def soI(x:Nat×Ob P)(l:aqx (Nat×Ob P)):aqx (Nat×Ob P):=List.rec [x] (λy t r=>bif Nat.ble x.1 y.1 then x::y::t else y::r) l
noncomputable def so(l:aqx (Nat×Ob P)):aqx (Nat×Ob P):=l.foldr soI []
theorem Be{xs:aqx (aqx D)}{n:Nat}(e:xs.length=n)(h:vG (.sl xs)):n<=maxLen:=e▸JS h
end nL
section
variable {P:aqA} {r:aqz Nat} {n N0:Nat} {G:Gh} {w:aqC} {a:Act} {s:St} {Q:Exit->St->Prop} {c:Code}
theorem bD.pW{h:aqx an}{k:Nat}{B B':an}(hi:bD G w h)(hk:h[k]?=some B)(ho:B'.dA G k=B.dA G k)(hB:dD G w k B->dD G w k B'):bD G w (h.set k B'):=by
 have aH:=(apJ.1 hk).1;have Xr:(h.set k B')[k]?=some B':=aqc aH;have eC:∀m,m≠k->(h.set k B')[m]?=h[m]?:=λm hm=>by rw[aqh (Ne.symm hm)]
 have dS:∀m,bM (h.set k B') G m=bM h G m:=λm=>by
  by_cases e:m=k
  ·subst e;rw[dc Xr,dc hk,ho]
  ·unfold bM;rw[eC m e]
 refine⟨by rw[List.length_set];exact hi.len,hi.z,hi.S,λm C hC=> ?_,λm m' b h1 h2=>hi.inj m m' b (by rw[<-dS];exact h1) (by rw[<-dS];exact h2),hi.gl⟩;by_cases e:m=k
 ·subst e;rw[Xr]at hC;cases hC
  exact hB (hi.cD m B hk)
 ·rw[eC m e]at hC;exact hi.cD m C hC
theorem cG.pW{k:Nat}{B B':an}(hs:cG G w a s)(hk:s.h[k]?=some B)(ho:B'.dA G k=B.dA G k)(hB:dD G w k B->dD G w k B'):cG G w a ⟨s.n,s.t,s.h.set k B'⟩:=
 ⟨hs.size,hs.tmp,hs.inv.pW hk ho hB,hs.df⟩
theorem Eu:∀{l:aqx (aqy×D)}{x:aqy}{d:D},eN l x=some d->(x,d)∈l
 |(k,e)::l,x,d,h=>by
  rw[uk]at h;split at h
  ·next hk=>cases h;subst hk;exact apP
  ·exact apS _ (Eu h)
theorem GV:∀{l:aqx (aqy×D)}{x:aqy}{d:D},(l.map (·.1)).Nodup->(x,d)∈l->eN l x=some d
 |(k,e)::l,x,d,hn,h=>by
  rw[ap8,List.nodup_cons]at hn;rw[uk];rcases aqd.1 h with h|h
  ·cases h;rw[if_pos rfl]
  ·rw[if_neg,GV hn.2 h];intro hk;exact hn.1 (by rw[hk];exact List.mem_map.2 ⟨_,h,rfl⟩)
theorem o6.pW{S:Nat->Nat->Prop}{es:Array MapEntry}{clock:Nat}{kv DJ:aqx (aqy×D)}(h:o6 S w es clock kv)(e:∀x,eN DJ x=eN kv x)(hl:es.size<=DJ.length):o6 S w es clock DJ:=
 ⟨h.size,h.stamped,λx hx=>let ⟨s,d,h1,h2,h3⟩:=h.ee x hx;⟨s,d,h1,(e s).trans h2,h3⟩,λs d hs=>h.all s d ((e s)▸hs),hl,h.born,h.A2⟩
theorem ak1{S:Nat->Nat->Prop}{es:Array MapEntry}{clock:Nat}{kv:aqx (aqy×D)}(h:o6 S w es clock kv):∃ee,wx S w es clock ee/\(∀x,eN ee x=eN kv x)/\(ee.map (·.1)).Nodup:=by
 have gd:(es.toList.map (·.key)).Nodup:=h.stamped.2.2;have key:∀l:aqx MapEntry,(∀e∈l,∃s d,e.key= .string s/\eN kv s=some d/\dn S w e.val d)->∃ee:aqx (aqy×D),ee.length=l.length/\∀(i:Nat)(e:MapEntry),l[i]?=some e->∃p,ee[i]?=some p/\e.key= .string p.1/\eN kv p.1=some p.2/\dn S w e.val p.2:=by
  intro l
  induction l with
  |nil=>exact λ_=>⟨[],rfl,λi e he=>by simp at he⟩
  |cons x l ih=>
   intro hl;obtain⟨ee,e1,e2⟩:=ih λe he=>hl e (apS _ he);obtain⟨s,d,h1,h2,h3⟩:=hl x apP;refine⟨(s,d)::ee,by simp [e1],λi e he=> ?_⟩;cases i with
   |zero=>cases he;exact⟨_,rfl,h1,h2,h3⟩
   |succ i=>exact e2 i e he
 obtain⟨ee,e1,e2⟩:=key es.toList h.ee;have hlen:ee.length=es.size:=by rw[e1];simp
 have PY:∀(i:Nat)(p:aqy×D),ee[i]?=some p->∃e,es.toList[i]?=some e/\e.key= .string p.1/\eN kv p.1=some p.2:=by
  intro i p hp;have hi:i<es.toList.length:=by rw[<-e1];exact(apJ.1 hp).1
  obtain⟨q,q1,q2,q3,_⟩:=e2 i _ (apN hi);rw[hp]at q1;cases q1
  exact⟨_,apN hi,q2,q3⟩
 have yA:es.toList.map (·.key)=(ee.map (·.1)).map Value.string:=by
  apply List.ext_getElem?;intro i;rw[apQ,apQ,apQ];cases hp:ee[i]? with
  |none=>
   rw[aqf (by rw[<-e1];exact List.getElem?_eq_none_iff.1 hp)];rfl
  |some p=>
   obtain⟨e,h1,h2,_⟩:=PY i p hp;rw[h1];simp [h2]
 have hn:(ee.map (·.1)).Nodup:=by
  rw[yA]at gd;exact(List.pairwise_map.1 gd).imp λh e=>h (congrArg _ e)
 have eC:∀x,eN ee x=eN kv x:=by
  intro x;cases hx:eN ee x with
  |some d=>
   obtain⟨i,hi,ei⟩:=List.getElem_of_mem (Eu hx);obtain⟨_,_,_,h3⟩:=PY i (x,d) (by rw[apN hi,ei]);exact h3.symm
  |none=>
   cases hy:eN kv x with
   |none=>rfl
   |some d=>
    exfalso;obtain⟨e,he,hk⟩:=h.all x d hy;obtain⟨i,hi,ei⟩:=List.getElem_of_mem he;obtain⟨p,p1,p2,p3,_⟩:=e2 i e (by rw[apN hi,ei]);rw[hk]at p2;injection p2 with p2;have:=GV hn (apW p1);rw[<-p2,hx]at this;cases this
 refine⟨ee,⟨h.pW eC (by omega),λi e he=> ?_,hlen⟩,eC,hn⟩;obtain⟨p,p1,p2,_,p4⟩:=e2 i e (by rw[ap6];exact he);exact⟨p,p1,p2,p4⟩
theorem anA(mb:Nat)(kv:aqx (aqy×D))(hb:s.h[mb]?=some (.map kv))(k:∀ee:aqx (aqy×D),(∀x,eN ee x=eN kv x)->(ee.map (·.1)).Nodup->ee.length<=kv.length->ee.length<=maxLen->bu P r N0 c Q ⟨s.n,s.t,s.h.set mb (.fV ee)⟩):bu P r N0 c Q s:=by
 constructor
 intro G w a n hs hN;obtain⟨h1,h2,es,clock,h3,h4⟩:=hs.inv.cD mb _ hb;obtain⟨ee,e1,e2,e3⟩:=ak1 h4;exact(k ee e2 e3 (by rw[e1.all];exact h4.len) (by rw[e1.all];exact h4.size)).run G w a n (hs.pW (B':= .fV ee) hb rfl λ_=>⟨h1,h2,es,clock,h3,e1⟩) hN
theorem am2(mb:Nat)(kv ee:aqx (aqy×D))(hb:s.h[mb]?=some (.fV ee))(e:∀x,eN kv x=eN ee x)(hl:ee.length<=kv.length)(k:bu P r N0 c Q ⟨s.n,s.t,s.h.set mb (.map kv)⟩):bu P r N0 c Q s:=by
 constructor
 intro G w a n hs hN;refine k.run G w a n (hs.pW (B':= .map kv) hb rfl λh=> ?_) hN;obtain⟨h1,h2,es,clock,h3,h4⟩:=h;exact⟨h1,h2,es,clock,h3,h4.ok.pW e (by rw[<-h4.all];exact hl)⟩
theorem alc(mb:Nat)(kv Rt:aqx (aqy×D))(hb:s.h[mb]?=some (.map Rt))(e:∀x,eN kv x=eN Rt x)(hl:Rt.length<=kv.length)(k:bu P r N0 c Q ⟨s.n,s.t,s.h.set mb (.map kv)⟩):bu P r N0 c Q s:=by
 constructor
 intro G w a n hs hN;refine k.run G w a n (hs.pW (B':= .map kv) hb rfl λh=> ?_) hN;obtain⟨h1,h2,es,clock,h3,h4⟩:=h;exact⟨h1,h2,es,clock,h3,h4.pW e (ap1 h4.len hl)⟩
theorem P6{ops:Array Oper}{o:Oper}{l:aqx Oper}{K:St->Prop}(hg:o.guard=none)(h:qN P o (iM P ops l K) s):iM P ops (o::l) K s:=by
 unfold iM ig;rw[hg];exact .inr (.inr (.inr (.inr (.inr h))))
theorem FH{ops:Array Oper}{s1:St}{K:St->Prop}(l:aqx Oper)(j:Nat)(as:aqx (Nat×bY)){ps:aqx (In×bY)}(h:je P ops false l j as s=some (s1,ps))(ho:gC P ps)(k:K s1):iM P ops l K s:=
 xT (dr:=false) l j s ps h ho k
theorem afM{ops:Array Oper}{o:Oper}{s1:St}{K:St->Prop}(l:aqx Oper)(h:je P ops false l 0 [] s=some (s1,[]))(hg:o.guard=none)(k:qN P o K s1):iM P ops (l++[o]) K s:=
 Yi l 0 s [] K h (λ_ hp=>by cases hp) o (by unfold ig;rw[hg];exact .inr (.inr (.inr (.inr (.inr k)))))
end
def hX(b:aqy):aqx (aqx AV):=(byteCells b).map λu=>[AV.d (.v u)]
theorem jZ(b:aqy):(hX b).length=b.size:=by unfold hX;rw[apO,byteCells_length]
theorem WL(a b:aqy):hX (a++b)=hX a++hX b:=by
 unfold hX byteCells;rw[ByteArray.data_append,Array.toList_append,List.map_append,List.map_append]
theorem alm{b:aqy}{i:Nat}{u:UInt8}(h:(bL b)[i]?=some u):(hX b)[i]?=some [AV.d (.v (.int .u8 u.toNat))]:=by
 unfold hX byteCells;rw[apQ,apQ];show((bL b)[i]?.map _).map _=_;rw[h];rfl
theorem Uy{b:aqy}{i:Nat}{c:aqx AV}(h:(hX b)[i]?=some c):∃u:UInt8,(bL b)[i]?=some u/\c=[AV.d (.v (.int .u8 u.toNat))]:=by
 unfold hX byteCells at h;rw[apQ,apQ]at h;have h:((bL b)[i]?.map _).map _=_:=h;cases hu:(bL b)[i]? with
 |none=>rw[hu]at h;cases h
 |some u=>rw[hu]at h;cases h;exact⟨u,rfl,rfl⟩
theorem ZU(b:aqy):b.size=(bL b).length:=by unfold bL;rw[aqg];rfl
section
variable {P:aqA} {r:aqz Nat} {n N0:Nat} {G:Gh} {w w':aqC} {a:Act} {s:St} {Q:Exit->St->Prop} {c:Code} {h:aqx an}
theorem W0(w:aqC)(b o:Nat)(v:aqB):w.grownBy (w.setCell ⟨b,o,none⟩ v) (some b):=
 ⟨rfl,rfl,rfl,by simp [World.setCell],λk _ hk=>Below.heap_setCell _ _ _ _ (λe=>hk (by simp [e]))⟩
theorem Rc{n:Nat}{T:TypeId}{cs bP:aqx AV}{p':aqB}{ej:Array aqB}(hi:bD G w h)(hn:h[n]?=some (.aV T cs))(hg:w.grownBy w' (some (G.aI n)))(fB:w'.heap[G.aI n]?=some (.cells (#[p']++ej) T (0,0)))
 (N7:p'= .pointer none\/p'= .pointer (some ⟨G.aI n,0,none⟩)) (hl:ej.size=bP.length) (qk:∀v∈ej.toList,Ml v) (hr:∀(i:Nat)(u:aqB)(c:AV),ej[i]?=some u->bP[i]?=some c->aD G w u c):
 bI G.N G w G w'/\bD G w' (h.set n (.aV T bP)):=by
 obtain⟨hz,hS,_,vs,p,hh,⟨xm,hp,acf⟩,Ck⟩:=hi.cD n _ hn;have gD:∀b o,G.S b o->w'.cell? ⟨b,o,none⟩=w.cell? ⟨b,o,none⟩:=λb o hs=>by
  unfold World.cell?;rw[hg.block b (hi.S b o hs) (λe=>by cases e;exact hS o hs)]
 have hE:bI G.N G w G w':=⟨hg.size,λ_ _ h=>h,gD,λ_ _=>rfl,λ_ _=> .inl ⟨rfl,rfl⟩,gp rfl,λb hb=>hg.block b (hi.z b hb) (λe=>by cases e;exact hz hb),hg.os,hg.tape,hg.output,λ_ _ hs=> .inl hs⟩;have eC:∀m,m≠n->(h.set n (.aV T bP))[m]?=h[m]?:=λm hm=>by rw[aqh (Ne.symm hm)]
 have kO:(h.set n (.aV T bP))[n]?=some (.aV T bP):=by rw[aqc (apJ.1 hn).1]
 have dS:∀m,bM (h.set n (.aV T bP)) G m=bM h G m:=λm=>by
  by_cases e:m=n
  ·subst e;rw[dc kO,dc hn];rfl
  ·unfold bM;rw[eC m e]
 have kK:bM h G n=some (G.aI n):=dc hn;refine⟨hE,by rw[List.length_set];exact hi.len,λb hb=>ap7 (hi.z b hb) hE.size,λb o hs=>ap7 (hi.S b o hs) hE.size,λm B hB=> ?_,λm m' b h1 h2=>hi.inj m m' b (by rw[<-dS];exact h1) (by rw[<-dS];exact h2),hi.gl.aT hE⟩;by_cases e:m=n
 ·subst e;rw[kO]at hB;cases hB
  exact⟨hz,hS,(),ej,p',fB,⟨hl,N7,qk⟩,λi u c hu hc=>(hr i u c hu hc).aT hE (apU _)⟩
 ·rw[eC m e]at hB;refine dD.aT (hi.lt hB) hE (apU _) ⟨rfl,rfl,rfl⟩ (λb hb=>⟨?_,λo h=>h⟩) (hi.cD m B hB);have kV:bM h G m=some b:=(dc hB).trans hb;exact hg.block b (hi.gw kV) (λeb=>by cases eb;exact e (hi.inj m n _ kV kK))
theorem agl{b:Nat}{T:TypeId}{cs bP:aqx AV}(hi:bD G w h)(hb:h[b]?=some (.aV T cs))(hl:bP.length=cs.length)
 (hc:∀(vs:Array aqB)(p:aqB),w.heap[G.aI b]?=some (.cells (#[p]++vs) T (0,0))->∀(i:Nat)(u:aqB)(c:AV),vs[i]?=some u->bP[i]?=some c->aD G w u c):bD G w (h.set b (an.aV T bP)):=by
 obtain⟨hz,hS,_,vs,p,hh,⟨xm,hp,acf⟩,Ck⟩:=hi.cD b _ hb;exact(Rc (bP:=bP) hi hb (w':=w) ⟨rfl,rfl,rfl,apU _,λ_ _ _=>rfl⟩ hh hp (xm.trans hl.symm) acf (hc vs p hh)).2
theorem Rg{k:Nat}{e:TypeId}{b:aqy}(hi:bD G w h)(hn:h[k]?=some (.bm e b)):bD G w (h.set k (.vec e 1 (hX b))):=by
 refine hi.pW hn rfl λhB=> ?_;obtain⟨h1,h2,h3⟩:=hB;refine⟨by rw[jZ];exact h1,by rw[jZ];exact h2,λc hc=> ?_,?_⟩
 ·obtain⟨i,hi⟩:=List.mem_iff_getElem?.1 hc;obtain⟨u,_,rfl⟩:=Uy hi;rfl
 ·rcases h3 with⟨a1,a2,a3⟩|⟨g,cap,cur,a1,a2,a3,a4,a5,a6,a7,a8,a9⟩
  ·exact .inl ⟨a1,List.eq_nil_of_length_eq_zero (by rw[jZ,a2]),a3⟩
  ·refine .inr ⟨g,cap,cur,a1,by rw[jZ];exact a2,a3,a4,by rw[jZ];exact a5,a6,by rw[a7,Nat.mul_one],a8,λi j c x v hc hx hv=> ?_⟩;obtain⟨u,hu,rfl⟩:=Uy hc
   match j,hx with
   |0,hx=>
    cases hx
    rw[Nat.mul_one,Nat.add_zero,a9 i u hu]at hv;cases hv
    exact .d (.v _)
theorem PA{k:Nat}{e:TypeId}{b:aqy}(hi:bD G w h)(hn:h[k]?=some (.vec e 1 (hX b))):bD G w (h.set k (.bm e b)):=by
 refine hi.pW hn rfl λhB=> ?_;obtain⟨h1,h2,_,h3⟩:=hB;rw[jZ]at h1 h2;refine⟨h1,h2,?_⟩;rcases h3 with⟨a1,a2,a3⟩|⟨g,cap,cur,a1,a2,a3,a4,a5,a6,a7,a8,a9⟩
 ·exact .inl ⟨a1,by rw[<-jZ b,a2];rfl,a3⟩
 ·rw[jZ]at a2 a5;rw[Nat.mul_one]at a7;refine .inr ⟨g,cap,cur,a1,a2,a3,a4,a5,a6,a7,a8,λi u hu=> ?_⟩;have aH:i<cur.size:=by
    have:=(apJ.1 hu).1;rw[<-ZU]at this;omega
  have hc:cur[i]?=some cur[i]:=ap5 aH;have:=(a9 i 0 _ _ cur[i] (alm hu) rfl (by rw[Nat.mul_one,Nat.add_zero];exact hc)).val;rw[hc,this]
theorem adL{G:Gh}{w:aqC}{h:aqx an}(hi:bD G w h)(e:Nat):bI G.N G w (G.dZ (.slice none 0 0) 0 none) w/\G.N<=(G.dZ (.slice none 0 0) 0 none).N/\bD (G.dZ (.slice none 0 0) 0 none) w (h++[.bm e (bs [])])/\aD (G.dZ (.slice none 0 0) 0 none) w (.slice none 0 0) (.vec h.length 0 0 0 1):=by
 obtain⟨a1,a2,a3,a4⟩:=Vg hi e 1;refine⟨a1,a2,?_,a4⟩;have hg:(h++[an.vec e 1 []])[h.length]?=some (.vec e 1 (hX (bs []))):=by simp;rfl
 have:=PA a3 hg;rw[List.set_append_right _ _ (apU _),Nat.sub_self]at this;exact this
theorem al2(b e:Nat){T:TypeId}(hb:s.h[b]?=some (.aV T [.d (.v (.slice none 0 0))]))
 (hk:bu P r N0 c Q ⟨s.n,s.t,(s.h++[an.bm e (bs [])]).set b (an.aV T [AV.vec s.h.length 0 0 0 1])⟩):bu P r N0 c Q s:=by
 constructor
 intro G w a n hs hN;obtain⟨h1,h2,_,vs,p,h3,⟨h4,hp,qk⟩,h5⟩:=hs.inv.cD _ _ hb;have ve:0<vs.size:=by rw[h4];decide
 have hv:vs[0]?=some vs[0]:=ap5 ve;have mi:=(h5 0 _ _ hv rfl).val;obtain⟨a1,a2,a3,a4⟩:=adL hs.inv e;have aH:=(apJ.1 hb).1;have ct:cG (G.dZ (.slice none 0 0) 0 none) w a ⟨s.n,s.t,(s.h++[an.bm e (bs [])]).set b (an.aV T [AV.vec s.h.length 0 0 0 1])⟩:=by
  refine⟨hs.size,λj=>(hs.tmp j).aT a1 a2,agl (cs:=[.d (.v (.slice none 0 0))]) a3 (by rw[apT aH];exact hb) rfl λej p' qb j u c hu hc=> ?_,hs.df.aT a1⟩;have e1:(G.dZ (.slice none 0 0) 0 none).aI b=G.aI b:=rfl;rw[e1,h3]at qb;have e2: #[p]++vs= #[p']++ej:=by
   injection qb with h6;injection h6
  have e3:vs=ej:=by
   have:=congrArg Array.toList e2;simp only[Array.toList_append,List.cons_append,List.nil_append,List.cons.injEq]at this;exact Array.toList_inj.1 this.2
  subst e3
  match j with
  |0=>
   rw[hv]at hu;cases hu
   cases hc
   rw[mi];exact a4
  |j+1=>simp at hc
 exact wpIn_mono (hk.run _ w a n ct (ap1 hN a2)) λ_ _ _ hn=>hn.trans (a1.less hN)
end
def NW(P:aqA)(T:TypeId)(o:Oper)(ρ:Operand->AV):Bool:=
 match o.guard with
 |none=>match o.op with
  | .alloc e=>e==T&&(match iu P e with
    |some z=>match z.cells.toList with
     |[.pointer none, .slice none 0 0]=>true
     |_=>false
    |none=>false)
  | .box e x=>e==T&&(match ρ x with
    | .agg [.d (.v (.pointer none)), .d (.v (.slice none 0 0))]=>true
    |_=>false)
  |_=>false
 |some _=>false
def Q3(P:aqA)(T k:Nat)(ops:Array Oper)(s:St):aqz St:=
 match je P ops false (ops.toList.take k) 0 [] s with
 |some (s1,[])=>match ops.toList.drop k with
  |o::rest=>bif NW P T o (ev s1)then
    match je P ops false rest 0 [] ((s1.wh (s1.h++[.aV T [.d (.v (.slice none 0 0))]])).put o.dst (.ptr s1.h.length 0))with
    |some (s3,[])=>some s3
    |_=>none
   else none
  |[]=>none
 |_=>none
theorem YR{P:aqA}{ops:Array Oper}{s1:St}{l2:aqx Oper}{K:St->Prop}{as:aqx (Nat×bY)}:∀(ol:aqx Oper)(j:Nat)(s:St)(l:aqx (In×bY)),je P ops false ol j as s=some (s1,l)->gC P l->iM P ops l2 K s1->iM P ops (ol++l2) K s
 |[],_,s,l,h,_,hK=>by cases h;exact hK
 |q::rest,j,s,l,h,bQ,hK=>by
  unfold je at h;split at h
  ·next s2 m hg=>
   obtain⟨n,e,h2,h3⟩:=vc h bQ;exact DM (dr:=false) (K:=iM P ops (rest++l2) K) hg h3 (YR rest (j+1) s2 n e h2 hK)
  ·cases h
theorem ahI{P:aqA}{T k:Nat}{ops:Array Oper}{s s3:St}{K:St->Prop}(h:Q3 P T k ops s=some s3)(hK:K s3):iM P ops ops.toList K s:=by
 unfold Q3 at h;split at h
 ·next s1 e1=>
  split at h
  ·next o rest e2=>
   obtain⟨hb,h⟩:=nF h;split at h
   ·next s4 e3=>
    cases h
    have hl:ops.toList=ops.toList.take k++o::rest:=by rw[<-e2,aqm]
    have hg:o.guard=none:=by
     unfold NW at hb;split at hb
     ·next e=>exact e
     ·cases hb
    have h2:iM P ops rest K ((s1.wh (s1.h++[.aV T [.d (.v (.slice none 0 0))]])).put o.dst (.ptr s1.h.length 0)):=FH rest 0 [] e3 (λ_ h=>by cases h) hK;have h3:qN P o (iM P ops rest K) s1:=by
     unfold NW at hb;rw[hg]at hb;simp only at hb;unfold qN;split at hb
     ·next e ho=>
      rw[apL,beq_iff_eq]at hb;obtain⟨rfl,hb⟩:=hb;rw[ho];simp only;split at hb
      ·next z hz=>
       rw[hz];simp only;refine⟨?_,h2⟩;split at hb
       ·next hc=>exact Array.toList_inj.1 hc
       ·cases hb
      ·cases hb
     ·next e x ho=>
      rw[apL,beq_iff_eq]at hb;obtain⟨rfl,hb⟩:=hb;rw[ho];simp only;split at hb
      ·next hx=>exact⟨hx,h2⟩
      ·cases hb
     ·cases hb
    have h4:iM P ops (o::rest) K s1:=P6 hg h3;rw[hl];exact YR (ops.toList.take k) 0 s [] e1 (λ_ h=>by cases h) h4
   ·cases h
  ·cases h
 ·cases h
def Tm(T e:Nat)(s:St):St:=match s.h[s.h.length-1]? with
 |some (.aV T' [.d (.v (.slice none 0 0))])=>bif T'==T then⟨s.n,s.t,(s.h++[an.bm e (bs [])]).set (s.h.length-1) (an.aV T [AV.vec s.h.length 0 0 0 1])⟩else s
 |_=>s
theorem akm{P:aqA}{r:aqz Nat}{N0:Nat}{s:St}{Q:Exit->St->Prop}{c:Code}(T e:Nat)(h:bu P r N0 c Q (Tm T e s)):bu P r N0 c Q s:=by
 unfold Tm at h;split at h
 ·next T' hb=>
  cases ht:T'==T with
  |true=>
   rw[ht]at h;rw[beq_iff_eq]at ht;subst ht;exact al2 _ e hb h
  |false=>rw[ht]at h;exact h
 ·exact h
def Nl(P:aqA)(T k:Nat):WO->aqz St
 |some (.at (.region _ ops false) K s,_)=>bif (wy K).isSome then Q3 P T k ops s else none
 |_=>none
def abm(s':St):WO->WO
 |some (.at _ K _,_)=>match wy K with
  |some (y,K')=>some (.at y K' s',[])
  |none=>none
 |_=>none
theorem yL{P:aqA}{r:aqz Nat}{N0:Nat}{Q:Exit->St->Prop}{w0:WO}(T k e:Nat)(h:(Nl P T k w0).isSome=true)(kk:GW P r N0 Q (abm (Tm T e ((Nl P T k w0).getD ⟨0,[],[]⟩)) w0)):GW P r N0 Q w0:=by
 obtain⟨s3,e1⟩:=Option.isSome_iff_exists.1 h;rw[e1]at kk;unfold Nl at e1;split at e1
 ·next id ops K s l=>
  obtain⟨hb,e1⟩:=nF e1;obtain⟨⟨y,K2⟩,hp⟩:=Option.isSome_iff_exists.1 hb;constructor
  have k:=kk.run;simp only[abm,hp,Option.getD_some]at k;show bu P r N0 (.region id ops false) (gM P r N0 Q K) s;exact fP (ahI e1 (CT hp (akm T e k)))
 ·cases e1
inductive er(P:Program):TypeId->List D->Prop
 |bool {t:TypeId} (b:Bool) (h:P.underlying t=some .bool):er P t [.v (.bool b)]
 |int {t:TypeId} {k:IntKind} (n:Int) (h:P.underlying t=some (.int k)) (w:(Lit.int k n).wf=true):er P t [.v (.int k n)]
 |str {t:TypeId} (s:ByteArray) (h:P.underlying t=some .string) (w:s.size<=maxLen):er P t [.v (.string s)]
 |sl {t e:TypeId} (xs:List (List D)) (h:P.underlying t=some (.slice e)) (w:xs.length<=140737488355328) (hx:∀x∈xs,er P e x):er P t [.sl xs]
 |struct {t:TypeId} {fs:Array Field} (parts:List (List D)) (h:P.underlying t=some (.struct fs)) (hl:parts.length=fs.size) (hx:∀(i:Nat)(f:Field)(x:List D),fs[i]?=some f->parts[i]?=some x->er P f.type x):er P t parts.flatten
section
variable {P:aqA} {t:TypeId} {xs:aqx D}
theorem er.alR(h:er P t xs)(ht:P.underlying t=some .bool):∃b,xs=[.v (.bool b)]:=by
 cases h with
 |bool b h=>exact⟨b,rfl⟩
 |int n h=>rw[ht]at h;cases h
 |str s h=>rw[ht]at h;cases h
 |sl l h=>rw[ht]at h;cases h
 |struct p h=>rw[ht]at h;cases h
theorem er.pv{k:IntKind}(h:er P t xs)(ht:P.underlying t=some (.int k)):∃n,xs=[.v (.int k n)]/\k.min<=n/\n<=k.max:=by
 cases h with
 |bool b h=>rw[ht]at h;cases h
 |int n h w=>
  rw[ht]at h;cases h;unfold Lit.wf at w;simp only[apL,decide_eq_true_eq]at w;exact⟨n,rfl,w⟩
 |str s h=>rw[ht]at h;cases h
 |sl l h=>rw[ht]at h;cases h
 |struct p h=>rw[ht]at h;cases h
theorem er.vr(h:er P t xs)(ht:P.underlying t=some .string):∃s,xs=[.v (.string s)]/\s.size<=maxLen:=by
 cases h with
 |bool b h=>rw[ht]at h;cases h
 |int n h=>rw[ht]at h;cases h
 |str s h w=>exact⟨s,rfl,w⟩
 |sl l h=>rw[ht]at h;cases h
 |struct p h=>rw[ht]at h;cases h
theorem er.qS{e:TypeId}(h:er P t xs)(ht:P.underlying t=some (.slice e)):∃l,xs=[.sl l]/\l.length<=140737488355328/\∀x∈l,er P e x:=by
 cases h with
 |bool b h=>rw[ht]at h;cases h
 |int n h=>rw[ht]at h;cases h
 |str s h=>rw[ht]at h;cases h
 |sl l h w hx=>rw[ht]at h;cases h;exact⟨l,rfl,w,hx⟩
 |struct p h=>rw[ht]at h;cases h
theorem er.oJ{fs:Array Field}(h:er P t xs)(ht:P.underlying t=some (.struct fs)):∃parts:aqx (aqx D),xs=parts.flatten/\parts.length=fs.size/\∀(i:Nat)(f:Field)(x:aqx D),fs[i]?=some f->parts[i]?=some x->er P f.type x:=by
 cases h with
 |bool b h=>rw[ht]at h;cases h
 |int n h=>rw[ht]at h;cases h
 |str s h=>rw[ht]at h;cases h
 |sl l h=>rw[ht]at h;cases h
 |struct p h hl hx=>rw[ht]at h;cases h;exact⟨p,rfl,hl,hx⟩
theorem pO{α:Type}{f:α->aqx D}{Q:α->Prop}:∀l:aqx (aqx D),(∀x∈l,∃a,x=f a/\Q a)->∃r:aqx α,l=r.map f/\∀a∈r,Q a
 |[],_=>⟨[],rfl,λ_ h=>by cases h⟩
 |x::l,h=>by
  obtain⟨a,rfl,ha⟩:=h x apP;obtain⟨r,rfl,hr⟩:=pO l λy hy=>h y (apS _ hy);refine⟨a::r,rfl,λb hb=> ?_⟩;rcases aqd.1 hb with rfl|hb
  ·exact ha
  ·exact hr b hb
end
def N2(P:aqA)(S:aqx TypeId):Bool:=S.all λt=>match P.underlying t with
 |some .bool|some (.int _)|some .string=>true
 |some (.slice e)=>S.contains e&&(decide (0<P.cellsOf e)&&decide (0<P.bytesOf e))
 |some (.struct fs)=>P.consecB fs.toList 0 (P.cellsOf t)&&fs.toList.all λf=>S.contains f.type
 |_=>false
def jC(S:Nat->Nat->Prop)(w:aqC)(cs:aqx aqB)(xs:aqx D):Prop:=xs.length=cs.length/\∀(i:Nat)(u:aqB)(x:D),cs[i]?=some u->xs[i]?=some x->dn S w u x/\u.oneCell'=true
theorem jC.nil{S:Nat->Nat->Prop}{w:aqC}:jC S w [] []:=⟨rfl,λi u x h=>by simp at h⟩
theorem jC.one{S:Nat->Nat->Prop}{w:aqC}{u:aqB}{x:D}(h:dn S w u x)(h1:u.oneCell'=true):jC S w [u] [x]:=⟨rfl,λi v y hv hy=>by
 cases i with
 |zero=>cases hv;cases hy;exact⟨h,h1⟩
 |succ i=>simp at hv⟩
theorem jC.app{S:Nat->Nat->Prop}{w:aqC}{a b:aqx aqB}{x y:aqx D}(h:jC S w a x)(k:jC S w b y):jC S w (a++b) (x++y):=by
 refine⟨by simp [h.1,k.1],λi u z hu hz=> ?_⟩;by_cases hi:i<a.length
 ·rw[apT hi]at hu;rw[apT (by rw[h.1];exact hi)]at hz;exact h.2 i u z hu hz
 ·rw[apZ (by omega)]at hu;rw[apZ (by rw[h.1];omega),h.1]at hz;exact k.2 _ u z hu hz
theorem aaN{α:Type}{Q:Nat->α->Prop}:∀n:Nat,(∀i,i<n->∃x,Q i x)->∃l:aqx α,l.length=n/\∀i x,l[i]?=some x->Q i x
 |0,_=>⟨[],rfl,λi x h=>by simp at h⟩
 |n+1,h=>by
  obtain⟨l,h1,h2⟩:=aaN n λi hi=>h i (by omega);obtain⟨x,hx⟩:=h n (by omega);refine⟨l++[x],by simp [h1],λi y hy=> ?_⟩;by_cases hi:i<l.length
  ·rw[apT hi]at hy;exact h2 i y hy
  ·rw[apZ (by omega)]at hy;have:i-l.length=0:=by
     by_cases e:i-l.length=0
     ·exact e
     ·rw[aqf (by simp;omega)]at hy;cases hy
   rw[this]at hy;cases hy;have:i=n:=by omega
   rw[this];exact hx
theorem acP{a:Addr}(h:a.spot=none)(n:Nat):a.add n=⟨a.block,a.off+n,none⟩:=by
 unfold Addr.add;split
 ·next e=>subst e;cases a;simp only at h;subst h;rfl
 ·rfl
section
variable {H:Type} {enc:TypeId×aqB->H} {P:aqA} {W:aqC} {Ts:aqx TypeId}
abbrev qU(W:aqC):Nat->Nat->Prop:=λb _=>b<W.heap.size
theorem age{S:Nat->Nat->Prop}{w:aqC}:dn S w (.slice none 0 0) (.sl []):=
 .sl none 0 0 0 0 [] (λ_ _=>undef) (λh=>absurd rfl h) (apU _) (by simp) (λ_ h=>by cases h) (λi j hi=>by simp at hi) (λi j x d hx=>by simp at hx)
theorem aa2{e:TypeId}:∀{l:aqx (DataW H)}{d:DataW H},d∈l->∀n∈d.weights P e,n∈DataW.weightsAll P e l
 |[],_,h,_,_=>by cases h
 |x::l,d,h,n,hn=>by
  simp only[DataW.weightsAll,aql];rcases aqd.1 h with rfl|h
  ·exact .inl hn
  ·exact .inr (aa2 h n hn)
theorem ab8{fuel:Nat}(IH:∀(t:TypeId)(cs:aqx aqB)(d:DataW H)(ps:aqx MemPlace),t∈Ts->(∀n∈d.weights P t,n<=reachBytes)->DataW.trod enc P W 0 (λ_=>true) true fuel t cs=some (d,ps)->∃xs,er P t xs/\jC (qU W) W cs xs)(cs:aqx aqB):
 ∀(fs:aqx Field)(off:Nat)(ys:aqx (DataW H×aqx MemPlace)),P.consecB fs off cs.length=true->(∀f∈fs,f.type∈Ts)->(∀n∈DataW.weightsEach P (fs.map (·.type)) (ys.map (·.1)),n<=reachBytes)->
  fs.mapM (λf=>DataW.trod enc P W 0 (λ_=>true) true fuel f.type ((cs.drop f.offset).take (P.cellsOf f.type)))=some ys->
  ∃parts:aqx (aqx D),parts.length=fs.length/\(∀(i:Nat)(f:Field)(x:aqx D),fs[i]?=some f->parts[i]?=some x->er P f.type x)/\jC (qU W) W (cs.drop off) parts.flatten
 |[],off,ys,hc,_,_,_=>by
  simp only[Program.consecB,beq_iff_eq]at hc;refine⟨[],rfl,λi f x h=>by simp at h,?_⟩;rw[List.drop_eq_nil_iff.2 (by omega)];exact jC.nil
 |f::fs,off,ys,hc,hS,hw,hm=>by
  simp only[Program.consecB,apL,beq_iff_eq]at hc;obtain⟨aiq,hc⟩:=hc;rw[List.mapM_cons]at hm;cases hx:DataW.trod enc P W 0 (λ_=>true) true fuel f.type ((cs.drop f.offset).take (P.cellsOf f.type))with
  |none=>simp [hx]at hm
  |some p=>
   cases lW:fs.mapM (λf=>DataW.trod enc P W 0 (λ_=>true) true fuel f.type ((cs.drop f.offset).take (P.cellsOf f.type)))with
   |none=>simp [hx,lW]at hm
   |some ps=>
    obtain⟨d,q⟩:=p;obtain rfl:(d,q)::ps=ys:=by simpa [hx,lW]using hm
    simp only[ap8,DataW.weightsEach,aql]at hw;obtain⟨x,h1,h2⟩:=IH f.type _ d q (hS f apP) (λn hn=>hw n (.inl hn)) hx;obtain⟨parts,k1,k2,k3⟩:=ab8 IH cs fs (off+P.cellsOf f.type) ps hc (λg hg=>hS g (apS _ hg)) (λn hn=>hw n (.inr hn)) lW;refine⟨x::parts,by simp [k1],λi g y hg hy=> ?_,?_⟩
    ·cases i with
     |zero=>cases hg;cases hy;exact h1
     |succ i=>exact k2 i g y (by simpa using hg) (by simpa using hy)
    ·rw[List.flatten_cons];rw[aiq]at h2;have:=h2.app k3
     rwa [take_drop_step]at this
theorem Yy(hT:N2 P Ts=true):∀(fuel:Nat)(t:TypeId)(cs:aqx aqB)(d:DataW H)(ps:aqx MemPlace),t∈Ts->(∀n∈d.weights P t,n<=reachBytes)->DataW.trod enc P W 0 (λ_=>true) true fuel t cs=some (d,ps)->∃xs,er P t xs/\jC (qU W) W cs xs
 |0,t,cs,d,ps,_,_,h=>by simp [DataW.trod]at h
 |fuel+1,t,cs,d,ps,ht,wu,h=>by
  have IH:=Yy hT fuel;have nt:=ap9.1 hT t ht;unfold DataW.trod at h;split at h
  ·next b e=>exact⟨_, .bool b e,jC.one (.v _) rfl⟩
  ·next k k' n e=>
   split at h
   ·next hk=>obtain⟨rfl,hw⟩:=hk;exact⟨_, .int n e hw,jC.one (.v _) rfl⟩
   ·cases h
  ·next e=>rw[e]at nt;cases nt
  ·next s e=>
   split at h
   ·next hw=>exact⟨_, .str s e hw,jC.one (.v _) rfl⟩
   ·cases h
  ·next e=>rw[e]at nt;cases nt
  ·next e=>rw[e]at nt;cases nt
  ·next e e1=>exact⟨_, .sl [] e1 (Nat.zero_le _) (λx hx=>absurd hx aqp),jC.one age rfl⟩
  ·next e a len cap e1=>
   rw[e1]at nt;simp only[apL,List.contains_iff_mem,decide_eq_true_eq]at nt;obtain⟨hme,Oz,pR⟩:=nt;simp only at h;split at h
   ·next hb=>
    obtain⟨_,lD,yy⟩:=hb;rw[Option.bind_eq_some_iff]at h;obtain⟨elems,EJ,AD⟩:=h;rw[Option.map_eq_some_iff]at AD;obtain⟨rest,_,AD⟩:=AD;cases AD
    simp only[DataW.weights,e1,aqd,aql,apO]at wu;have hlen:elems.length=len:=by simpa using mapM_some_length EJ
    have hQ:∀i,i<len->∃x:aqx D,er P e x/\∃bP,W.cells? 0 (a.add (i*P.cellsOf e)) (P.cellsOf e)=some bP/\jC (qU W) W bP x:=λi hi=>by
     have h1:=mapM_some_get EJ i i (by simp [hi]);rw[apN (by omega)]at h1;rw[Option.bind_eq_some_iff]at h1;obtain⟨bP,h2,h3⟩:=h1;obtain⟨x,h4,h5⟩:=IH e bP elems[i].1 elems[i].2 hme (λn hn=>wu n (.inr (.inl (aa2 (List.mem_map.2 ⟨_,List.getElem_mem _,rfl⟩) n hn)))) h3;exact⟨x,h4,bP,h2,h5⟩
    obtain⟨xs,xE,hxq⟩:=aaN len hQ;have VL:xs≠ []->a.spot=none:=λcy=>by
     have h0:0<len:=by cases xs with|nil=>exact(cy rfl).elim|cons x l=>simp at xE;omega
     obtain⟨x,_,bP,h2,_⟩:=hQ 0 h0;obtain⟨_,h3,h4⟩:=World.cells?_some h2;have h5:=h4 0 Oz;rw[Nat.zero_mul]at h5;have e0:(a.add 0).add 0=a:=by simp [Addr.add]
     rw[e0,apN (by omega)]at h5;unfold World.cell? at h5;split at h5
     ·split at h5
      ·cases h5
      ·next hn=>simpa using hn
     ·cases h5
    have gD:∀i x,xs[i]?=some x->x.length=P.cellsOf e/\∀j,j<P.cellsOf e->∃u,W.cell? ⟨a.block,a.off+i*P.cellsOf e+j,none⟩=some u/\u.oneCell'=true/\∀d,x[j]?=some d->dn (qU W) W u d:=λi x hx=>by
     obtain⟨_,bP,h2,h3⟩:=hxq i x hx;obtain⟨_,h4,h5⟩:=World.cells?_some h2;have hs:=VL (λe=>by rw[e]at hx;simp at hx);refine⟨h3.1.trans h4,λj hj=> ?_⟩;have h6:=h5 j hj;rw[acP hs,acP rfl,apN (by omega)]at h6;have hjx:j<x.length:=by rw[h3.1,h4];exact hj
     have hd:x[j]?=some x[j]:=apN hjx;have h7:=h3.2 j _ _ (apN (by omega)) hd;exact⟨_,h6,h7.2,λd gz=>by rw[hd]at gz;cases gz;exact h7.1⟩
    have aea:xs.length<=140737488355328:=by
     have h1:=wu _ (.inl rfl);have h2:(elems.length+rest.length)*1<=(elems.length+rest.length)*P.bytesOf e:=Nat.mul_le_mul_left _ pR;have h3:reachBytes<=140737488355328:=by decide
     omega
    refine⟨[.sl xs], .sl xs e1 aea (λx hx=> ?_),jC.one ?_ rfl⟩
    ·obtain⟨i,hi,rfl⟩:=List.mem_iff_getElem.1 hx;exact(hxq i _ (apN hi)).1
    ·rw[<-xE];refine .sl (some a) a.block a.off cap (P.cellsOf e) xs (λi j=>(W.cell? ⟨a.block,a.off+i*P.cellsOf e+j,none⟩).getD undef) (λcy=> ?_) (by omega) yy (λx hx=> ?_) (λi j hi hj=> ?_) λi j x d hx hd=> ?_
     ·have:=VL cy;cases a;simp only at this;subst this;rfl
     ·obtain⟨i,hi,rfl⟩:=List.mem_iff_getElem.1 hx;exact(gD i _ (apN hi)).1
     ·obtain⟨u,h1,h2,_⟩:=(gD i _ (apN hi)).2 j hj;refine⟨World.block_lt_of_cell? W ⟨a.block,a.off+i*P.cellsOf e+j,none⟩ h1,?_,?_⟩
      ·rw[h1];rfl
      ·rw[h1];exact h2
     ·obtain⟨hl,hc⟩:=gD i x hx;obtain⟨u,h1,_,h3⟩:=hc j (by rw[<-hl];exact(apJ.1 hd).1);simp only[h1,Option.getD_some];exact h3 d hd
   ·cases h
  ·next bP fs e1=>
   rw[e1]at nt;simp only[apL,ap9,List.contains_iff_mem]at nt;split at h
   ·next hl=>
    rw[Option.map_eq_some_iff]at h;obtain⟨ys,hm,AD⟩:=h;cases AD
    simp only[DataW.weights,e1]at wu;obtain⟨parts,k1,k2,k3⟩:=ab8 IH _ fs.toList 0 ys (by rw[hl];exact nt.1) nt.2 wu hm;exact⟨_, .struct parts e1 (by simpa using k1) (λi f x hf=>k2 i f x (by simpa using hf)),by simpa using k3⟩
   ·cases h
  all_goals first|(cases h;done)|(exfalso;revert nt;(next e=>rw[e];intro h0;cases h0))
theorem acG{t:TypeId}{v:aqB}{d:DataW H}{ps:aqx MemPlace}(hT:N2 P Ts=true)(hm:t∈Ts)(hw:∀n∈d.weights P t,n<=reachBytes)(h:DataW.Trod enc P W 0 (λ_=>true) true t v d ps):∃xs,er P t xs/\jC (qU W) W v.cells.toList xs:=
 let ⟨fuel,h⟩:=h
 Yy hT fuel t _ d ps hm hw h
theorem apr{t:TypeId}{fs:Array Field}{v:aqB}{r:Reach}{base:Nat}(ht:P.underlying t=some (.struct fs))(h:Value.okWide P W r base t v):∃cs,v= .agg cs:=by
 unfold Value.okWide at h;rw[ht]at h;obtain⟨cs,rfl,_⟩:=h;exact⟨cs,rfl⟩
theorem ajH{G:Gh}(hS:G.S=qU W){cs:Array aqB}{xs:aqx D}(h:jC (qU W) W cs.toList xs):aD G W (.agg cs) (.agg (xs.map .d)):=by
 refine .agg cs _ (by rw[apO,h.1,aqg]) λi u c hu hc=> ?_;rw[apQ]at hc;cases hx:xs[i]? with
 |none=>rw[hx]at hc;cases hc
 |some x=>
  rw[hx]at hc;cases hc
  exact .d (hS▸(h.2 i u x (by rw[ap6];exact hu) hx).1)
theorem aiM{G:Gh}(hS:G.S=qU W){v:aqB}{x:D}(h:jC (qU W) W #[v].toList [x]):aD G W v (.d x):= .d (hS▸(h.2 0 v x rfl rfl).1)
end
end Go.Proofs.YtmkmibahjanejaaGreatDoor
