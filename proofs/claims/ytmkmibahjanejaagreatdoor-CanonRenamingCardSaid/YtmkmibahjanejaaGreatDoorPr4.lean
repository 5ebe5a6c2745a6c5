/-
  Part 4 of the proof: AbsWk, AbsMapR, AbsBld, OpenD.
-/
import Derived.Test.YtmkmibahjanejaaGreatDoorPr3
import Derived.Deep.AppendSrc
import Derived.ProofKit
import Derived.DataOpen
import Derived.SizedLaws
namespace Go.Proofs.YtmkmibahjanejaaGreatDoor
open Go.RowKit
set_option linter.unusedSimpArgs false
set_option linter.unusedVariables false
def Mx{α:Type}(x:AV)(k:AV->α):α:=
 match x with
 | .d y=>k (.d y)
 | .agg cs=>k (.agg cs)
 | .bA cs=>k (.bA cs)
 | .ptr n o=>fN n λn=>fN o λo=>k (.ptr n o)
 | .own n xs=>fN n λn=>k (.own n xs)
 | .fn f cs=>k (.fn f cs)
 | .mp n=>fN n λn=>k (.mp n)
 |x=>k x
theorem ZG{α:Type}(x:AV)(k:AV->α):Mx x k=k x:=by cases x<;>simp [Mx,B4]
def fT{α:Type}:apH (Nat×AV)->(apH (Nat×AV)->α)->α
 |[],k=>k []
 |(d,x)::l,k=>fN d λd=>Mx x λx=>fT l λl=>k ((d,x)::l)
theorem W9{α:Type}:∀(l:apH (Nat×AV))(k:apH (Nat×AV)->α),fT l k=k l
 |[],k=>rfl
 |(d,x)::l,k=>by rw[fT,B4,ZG,W9 l]
def fC{α:Type}:apH AV->(apH AV->α)->α
 |[],k=>k []
 |x::l,k=>Mx x λx=>fC l λl=>k (x::l)
theorem WD{α:Type}:∀(l:apH AV)(k:apH AV->α),fC l k=k l
 |[],k=>rfl
 |x::l,k=>by rw[fC,ZG,WD l]
def fH{α:Type}:apH an->(apH an->α)->α
 |[],k=>k []
 | .cells cs::l,k=>fC cs λcs=>fH l λl=>k (.cells cs::l)
 | .front e z n::l,k=>fH l λl=>k (.front e z n::l)
 | .map kv::l,k=>fH l λl=>k (.map kv::l)
 | .gone::l,k=>fH l λl=>k (.gone::l)
 |B::l,k=>fH l λl=>k (B::l)
theorem pC{α:Type}:∀(l:apH an)(k:apH an->α),fH l k=k l
 |[],k=>rfl
 | .cells cs::l,k=>by rw[fH,WD,pC l]
 | .front e z n::l,k=>by rw[fH,pC l]
 | .map kv::l,k=>by rw[fH,pC l]
 | .gone::l,k=>by rw[fH,pC l]
 | .fR .. ::l,k=>by rw[fH,pC l]<;>simp
 | .vec .. ::l,k=>by rw[fH,pC l]<;>simp
 | .lp .. ::l,k=>by rw[fH,pC l]<;>simp
 | .it .. ::l,k=>by rw[fH,pC l]<;>simp
 | .aT .. ::l,k=>by rw[fH,pC l]<;>simp
 | .bg .. ::l,k=>by rw[fH,pC l]<;>simp
def SQ{α:Type}(s:St)(k:St->α):α:=fN s.n λn=>fT s.t λt=>fH s.h λh=>k ⟨n,t,h⟩
theorem afy{α:Type}(s:St)(k:St->α):SQ s k=k s:=by unfold SQ;rw[B4,W9,pC]
inductive Fr
 |S (y:Code)
 |B (id:Nat)
 |F (k:Nat) (f:St->Prop)
def gC(P:apK)(r:apJ Nat)(N0:Nat)(Q:Exit->St->Prop):apH Fr->Exit->St->Prop
 |[]=>Q
 | .S y::K=>gp (λs=>bj P r N0 y (gC P r N0 Q K) s) (gC P r N0 Q K)
 | .B id::K=>qX id (gC P r N0 Q K)
 | .F _ f::K=>gp f (gC P r N0 Q K)
inductive Md
 |c (c:Code)
 |n
 |x (id:Nat)
inductive WR
 |at (c:Code) (K:List Fr) (s:St)
 |ret (s:St)
 |nrm (s:St)
 |fin (k:Nat) (s:St)
abbrev WO:=apJ (WR×apH (In×bQ))
def LG(l:apH (In×bQ)):WO->WO
 |some (w,m)=>some (w,l++m)
 |none=>none
def mD(P:apK):Nat->Md->apH Fr->apH (apH (Nat×bQ))->St->WO
 |0,_,_,_,_=>none
 |F+1,m,K,A,s=>match m with
  | .n=>match K with
    |[]=>some (.nrm s,[])
    | .S y::K=>mD P F (.c y) K A s
    | .B _::K=>mD P F .n K A s
    | .F k _::_=>some (.fin k s,[])
  | .x id=>match K with
    |[]=>none
    | .S _::K=>mD P F (.x id) K A s
    | .B rQ::K=>mD P F (bif id==rQ then .n else .x id) K A s
    | .F _ _::K=>mD P F (.x id) K A s
  | .c c=>match c with
    | .seq a b=>mD P F (.c a) (.S b::K) A s
    | .block id b=>mD P F (.c b) (.B id::K) A s
    | .skip=>mD P F .n K A s
    | .ret=>some (.ret s,[])
    | .exit id=>mD P F (.x id) K A s
    | .region id ops dr=>match A with
      |[]=>some (.at (.region id ops dr) K s,[])
      |as::A=>bif !dr||vA ops then match iY P ops dr ops.toList 0 as s with
         |some (s1,l)=>SQ s1 λs1=>LG l (mD P F .n K A s1)
         |none=>none
       else none
    | .cond o x y=>match A with
      |[]=>some (.at (.cond o x y) K s,[])
      |as::A=>match iV as 0 with
       | .bit b=>LG [(.bit (ev s o), .bit b)] (mD P F (.c (bif b then x else y)) K A s)
       |_=>none
    |c=>match A with
     |[]=>some (.at c K s,[])
     |_=>none
section
variable {P:apK} {r:apJ Nat} {N0:Nat} {Q:Exit->St->Prop}
theorem Mo:∀(K:apH Fr)(s:St),Q .ret s->gC P r N0 Q K .ret s
 |[],_,h=>h
 | .S _::K,s,h=>Mo K s h
 | .B _::K,s,h=>Mo K s h
 | .F _ _::K,s,h=>Mo K s h
def adj(P:apK)(r:apJ Nat)(N0:Nat)(Q:Exit->St->Prop)(m:Md)(K:apH Fr)(s:St):Prop:=
 match m with
 | .c c=>bj P r N0 c (gC P r N0 Q K) s
 | .n=>gC P r N0 Q K .normal s
 | .x id=>gC P r N0 Q K (.exit id) s
def CY(P:apK)(r:apJ Nat)(N0:Nat)(Q:Exit->St->Prop)(K0:apH Fr):WR->Prop
 | .at c K s=>bj P r N0 c (gC P r N0 Q K) s
 | .ret s=>Q .ret s
 | .nrm s=>Q .normal s
 | .fin k s=>∀f,Fr.F k f∈K0->f s
theorem CY.sub{K K':apH Fr}(h:∀k f,Fr.F k f∈K'->Fr.F k f∈K):∀{w:WR},CY P r N0 Q K w->CY P r N0 Q K' w
 | .at _ _ _,hp=>hp
 | .ret _,hp=>hp
 | .nrm _,hp=>hp
 | .fin k _,hp=>λf hf=>hp f (h k f hf)
theorem UE{l m:apH (In×bQ)}{x:WO}{w:WR}(h:LG l x=some (w,m))(bO:gw P m):∃n,x=some (w,n)/\gw P n/\gw P l:=by
 unfold LG at h;split at h
 ·next w' n=>
  cases h
  exact⟨n,rfl,λp hp=>bO p (List.mem_append_right _ hp),λp hp=>bO p (List.mem_append_left _ hp)⟩
 ·cases h
theorem aaD(hm:P.follows .mixedOrders=true):∀(F:Nat)(m:Md)(K:apH Fr)(A:apH (apH (Nat×bQ)))(s:St)(w:WR)(l:apH (In×bQ)),mD P F m K A s=some (w,l)->gw P l->CY P r N0 Q K w->adj P r N0 Q m K s
 |0,_,_,_,_,_,_,h,_,_=>by simp [mD]at h
 |F+1,m,K,A,s,w,l,h,bO,hp=>by
  have ih:=aaD hm F;have tl:∀{x:Fr}{K:apH Fr},∀k f,Fr.F k f∈K->Fr.F k f∈x::K:=λ_ _ h=>ao1 _ h;have pS:∀{y:Code}{K:apH Fr},∀k f,Fr.F k f∈Fr.S y::K->Fr.F k f∈K:=λk f h=>by
   rcases apm.1 h with h|h
   ·cases h
   ·exact h
  have pB:∀{y:Nat}{K:apH Fr},∀k f,Fr.F k f∈Fr.B y::K->Fr.F k f∈K:=λk f h=>by
   rcases apm.1 h with h|h
   ·cases h
   ·exact h
  unfold mD at h;cases m with
  |n=>
   cases K with
   |nil=>cases h;exact hp
   |cons x K=>
    cases x with
    |S y=>exact ih (.c y) K _ _ _ _ h bO (hp.sub tl)
    |B id=>exact ih .n K _ _ _ _ h bO (hp.sub tl)
    |F k f=>cases h;exact hp _ aoY
  |x id=>
   cases K with
   |nil=>cases h
   |cons x K=>
    cases x with
    |S y=>exact ih (.x id) K _ _ _ _ h bO (hp.sub tl)
    |B rQ=>
     show(bif id==rQ then gC P r N0 Q K .normal s else gC P r N0 Q K (.exit id) s);simp only at h;cases e:id==rQ with
     |true=>rw[e]at h;exact ih .n K _ _ _ _ h bO (hp.sub tl)
     |false=>rw[e]at h;exact ih (.x id) K _ _ _ _ h bO (hp.sub tl)
    |F k f=>exact ih (.x id) K _ _ _ _ h bO (hp.sub tl)
  |c c=>
   simp only at h;split at h
   ·exact bP (ih (.c _) (.S _::K) _ _ _ _ h bO (hp.sub pS))
   ·exact kf (ih (.c _) (.B _::K) _ _ _ _ h bO (hp.sub pB))
   ·exact jG (ih .n _ _ _ _ _ h bO hp)
   ·cases h;exact gM (Mo K s hp)
   ·exact uC (ih (.x _) _ _ _ _ _ h bO hp)
   ·next id ops dr=>
    split at h
    ·cases h;exact hp
    ·next as A=>
     obtain⟨hb,h⟩:=mP h;split at h
     ·next s1 l1 e=>
      rw[afy]at h;obtain⟨n,e2,h2,h3⟩:=UE h bO;have hk:=ih .n _ _ _ _ _ e2 h2 hp;have db:=xU (P:=P) (ops:=ops) (dr:=dr) (K:=gC P r N0 Q K .normal) ops.toList 0 s l1 e h3 hk;cases dr with
      |false=>exact fy db
      |true=>
       have hl:vA ops.toList.toArray=true:=by simpa using hb
       have:=NU (P:=P) (r:=r) (N0:=N0) (Q:=gC P r N0 Q K) (s:=s) (id:=id) (l:=ops.toList) hm hl (by simpa using db);show bj P r N0 (.region id ops true) (gC P r N0 Q K) s
       simpa using this
     ·cases h
   ·next o x y=>
    split at h
    ·cases h;exact hp
    ·next as A=>
     split at h
     ·next b e=>
      obtain⟨n,e2,h2,h3⟩:=UE h bO;have h4:=OK.Ir (h3 (_,_) aoY);have hk:=ih (.c _) _ _ _ _ _ e2 h2 hp;exact E3 h4 (λe=>by subst e;exact hk) (λe=>by subst e;exact hk)
     ·cases h
   ·split at h
    ·cases h;exact hp
    ·cases h
end
def wK:WO->apH Fr
 |some (.at _ K _,_)=>K
 |_=>[]
def wS:WO->St
 |some (.at _ _ s,_)=>s
 |_=>⟨0,[],[]⟩
def jQ(k:Nat):apH Fr->apH (St->Prop)
 |[]=>[]
 | .F k' f::K=>bif k'==k then f::jQ k K else jQ k K
 |_::K=>jQ k K
theorem DM{k:Nat}{f:St->Prop}:∀{K:apH Fr},Fr.F k f∈K->f∈jQ k K
 |[],h=>by cases h
 | .S _::K,h=>by
   rcases apm.1 h with h|h
   ·cases h
   ·exact DM (K:=K) h
 | .B _::K,h=>by
   rcases apm.1 h with h|h
   ·cases h
   ·exact DM (K:=K) h
 | .F k' g::K,h=>by
   rcases apm.1 h with h|h
   ·cases h;simp [jQ]
   ·unfold jQ;cases k'==k with
    |true=>exact ao1 _ (DM h)
    |false=>exact DM h
def ur:WO->apJ (apH (In×bQ))
 |some (.at _ _ _,l)=>some l
 |_=>none
def ng(live:apH Nat)(m:Nat):WO->apJ (St×apH (In×bQ))
 |some (.at (.loop _) _ s,l)=>(iW s live m).map (·,l)
 |_=>none
def C0(live:apH Nat)(m:Nat)(ks:apH Nat)(kn:apH (Nat×Nat)):WO->apJ (St×apH (In×bQ))
 |some (.at (.loop _) _ s,l)=>(mQ s live m ks kn).map (·,l)
 |_=>none
def vZ:WO->apJ (apH (In×bQ))
 |some (.at _ (.S _::_) _,l)=>some l
 |_=>none
def qe(k:Nat)(live:apH Nat)(m:Nat):WO->apJ (St×apH (In×bQ))
 |some (.fin k' s,l)=>bif k'==k then(iW s live m).map (·,l)else none
 |_=>none
def AT(k:Nat)(live:apH Nat)(m:Nat)(ks:apH Nat)(kn:apH (Nat×Nat)):WO->apJ (St×apH (In×bQ))
 |some (.fin k' s,l)=>bif k'==k then(mQ s live m ks kn).map (·,l)else none
 |_=>none
def ue(P:apK)(rs:apH ResultVar):WO->apJ (AV×apH (In×bQ))
 |some (.ret s,l)=>(wW P rs s).map (·,l)
 |some (.nrm s,l)=>(wW P rs s).map (·,l)
 |_=>none
def Hd(P:apK)(rs:apH ResultVar)(m:Nat):WO->apJ ((AV×apH an)×apH (In×bQ))
 |some (.ret s,l)=>(vT P rs m s).map (·,l)
 |some (.nrm s,l)=>(vT P rs m s).map (·,l)
 |_=>none
def wq:apH Fr->apJ (Code×apH Fr)
 | .S y::K=>some (y,K)
 | .B _::K=>wq K
 |_=>none
def J3(P:apK)(aS:apH Nat)(as:apH (Nat×bQ)):WO->apJ (apH (Nat×AV)×apH an×apH (In×bQ))
 |some (.at (.region _ ops dr) K s,_)=>bif (!dr||vA ops)&&(wq K).isSome then oG P dr ops.toList as aS s else none
 |_=>none
def inLoop(k:Nat)(f:St->Prop)(s:St):WO->WO
 |some (.at (.loop b) K _,_)=>some (.at b (.F k f::K) s,[])
 |_=>none
def Bg(k:Nat)(f:St->Prop):WO->WO
 |some (.at c (.S _::K) s,_)=>some (.at c (.F k f::K) s,[])
 |_=>none
def Aq(s:St):WO->WO
 |some (.at _ (.S y::K) _,_)=>some (.at y K s,[])
 |_=>none
def wI(Δ:apH (Nat×AV))(h':apH an):WO->WO
 |some (.at _ K s,_)=>match wq K with
  |some (y,K')=>some (.at y K' ⟨s.n,Δ++s.t,h'⟩,[])
  |none=>none
 |_=>none
def Na(f:St->St):WO->WO
 |some (.at c K s,l)=>some (.at c K (f s),l)
 |_=>none
def X8:Nat:=4000
def wk(P:apK)(w:WO)(ay:apH (apH (Nat×Ob P))):WO:=
 match w with
 |some (.at c K s,_)=>mD P X8 (.c c) K (ay.map iX) s
 |_=>none
def dH{P:apK}(ay:apH (apH (Nat×Ob P))):apH (In×bQ):=ay.flatMap jP
theorem agu{P:apK}(ay:apH (apH (Nat×Ob P))):gw P (dH ay):=λp hp=>by
 obtain⟨l,_,h⟩:=List.mem_flatMap.1 hp;exact qS l p h
theorem rS{α β:Type}{x:apJ α}{l:β}{y:α}{m:β}(h:x.map (·,l)=some (y,m)):x=some y/\l=m:=by
 cases x with
 |none=>cases h
 |some z=>cases h;exact⟨rfl,rfl⟩
def AQ(P:apK)(r:apJ Nat)(N0:Nat)(Q:Exit->St->Prop):WO->Prop
 |some (.at c K s,_)=>bj P r N0 c (gC P r N0 Q K) s
 |_=>True
structure GW(P:Program)(r:Option Nat)(N0:Nat)(Q:Exit->St->Prop)(w:WO):Prop where
 run:AQ P r N0 Q w
section
variable {P:apK} {r:apJ Nat} {N0:Nat} {Q:Exit->St->Prop} {w0:WO}
theorem nY{ay:apH (apH (Nat×Ob P))}(hm:P.follows .mixedOrders=true){w:WR}(e:wk P w0 ay=some (w,dH ay))(hp:∀K,(∀k f,Fr.F k f∈K->Fr.F k f∈wK w0)->CY P r N0 Q K w):GW P r N0 Q w0:=by
 constructor
 unfold wk at e;split at e
 ·next c K s l=>exact aaD hm X8 (.c c) K _ s w _ e (agu ay) (hp K λk f h=>h)
 ·cases e
theorem wM(hm:P.follows .mixedOrders=true)(ay:apH (apH (Nat×Ob P)))(k:GW P r N0 Q (wk P w0 ay))(e:ur (wk P w0 ay)=some (dH ay):=by kernel_rfl):GW P r N0 Q w0:=by
 generalize hw:wk P w0 ay=w at e k;unfold ur at e;split at e
 ·cases e;exact nY hm hw λK _=>k.run
 ·cases e
theorem am2(hm:P.follows .mixedOrders=true){fn:Func}{R:AV}(ay:apH (apH (Nat×Ob P)))(e:ue P fn.results.toList (wk P w0 ay)=some (R,dH ay)):GW P r N0 (kQ P fn R) w0:=by
 generalize hw:wk P w0 ay=w at e;unfold ue at e;split at e
 ·obtain⟨e1,rfl⟩:=rS e;exact nY hm hw λK _=>e1
 ·obtain⟨e1,rfl⟩:=rS e;exact nY hm hw λK _=>e1
 ·cases e
theorem aos(hm:P.follows .mixedOrders=true){fn:Func}{m:Nat}{R:AV}{H:apH an}(ay:apH (apH (Nat×Ob P)))(e:Hd P fn.results.toList m (wk P w0 ay)=some ((R,H),dH ay)):GW P r N0 (tW P fn m R H) w0:=by
 generalize hw:wk P w0 ay=w at e;unfold Hd at e;split at e
 ·obtain⟨e1,rfl⟩:=rS e;exact nY hm hw λK _=>e1
 ·obtain⟨e1,rfl⟩:=rS e;exact nY hm hw λK _=>e1
 ·cases e
theorem wr(hm:P.follows .mixedOrders=true){fn:Func}{R:AV}(ay:apH (apH (Nat×Ob P)))(e:ue P fn.results.toList (wk P w0 ay)=some (R,dH ay):=by kernel_rfl):GW P r N0 (kQ P fn R) w0:=am2 hm ay e
theorem KJ(hm:P.follows .mixedOrders=true){fn:Func}{m:Nat}{R:AV}{H:apH an}(ay:apH (apH (Nat×Ob P)))(e:Hd P fn.results.toList m (wk P w0 ay)=some ((R,H),dH ay):=by kernel_rfl):GW P r N0 (tW P fn m R H) w0:=aos hm ay e
structure Kq{ι:Type}(k:Nat)(live:List Nat)(m:Nat)(st:ι->St)(I:ι->Prop)(μ:ι->Nat)(i0:ι)(f:St->Prop):Prop where
 h:∀s' i',iW s' live m=some (st i')->I i'->μ i'<μ i0->f s'
structure Se{ι:Type}(k:Nat)(live:List Nat)(m:Nat)(ks:List Nat)(kn:List (Nat×Nat))(st:ι->St)(I:ι->Prop)(μ:ι->Nat)(i0:ι)(f:St->Prop):Prop where
 h:∀s' i',kt m (s'.h.take m)->mQ s' live m ks kn=some (st i')->I i'->μ i'<μ i0->f s'
structure A7{ι:Type}(k:Nat)(live:List Nat)(m:Nat)(st:ι->St)(I:ι->Prop)(f:St->Prop):Prop where
 h:∀s' i',iW s' live m=some (st i')->I i'->f s'
structure Jn{ι:Type}(k:Nat)(live:List Nat)(m:Nat)(ks:List Nat)(kn:List (Nat×Nat))(st:ι->St)(I:ι->Prop)(f:St->Prop):Prop where
 h:∀s' i',kt m (s'.h.take m)->mQ s' live m ks kn=some (st i')->I i'->f s'
theorem JY(hm:P.follows .mixedOrders=true){k:Nat}{s1:St}{f:St->Prop}(ay:apH (apH (Nat×Ob P)))(e1:jQ k (wK w0)=[f])(e:wk P w0 ay=some (.fin k s1,dH ay))(hf:f s1):GW P r N0 Q w0:=
 nY hm e λK hK g hg=>by
  have:=DM (hK k g hg);rw[e1,List.mem_singleton]at this;subst this;exact hf
theorem N9(hm:P.follows .mixedOrders=true){ι:Type}{live:apH Nat}{m k:Nat}{st:ι->St}{I:ι->Prop}{μ:ι->Nat}{i0:ι}{f:St->Prop}(hf:Kq k live m st I μ i0 f)(i:ι)(ay:apH (apH (Nat×Ob P)))(hI:I i)(hμ:μ i<μ i0:=by exact apF _)(e1:jQ k (wK w0)=[f]:=by kernel_rfl)(e:qe k live m (wk P w0 ay)=some (st i,dH ay):=by kernel_rfl):GW P r N0 Q w0:=by
 generalize hw:wk P w0 ay=w at e;unfold qe at e;split at e
 ·next k' s' l=>
  obtain⟨hb,e⟩:=mP e;obtain⟨e2,rfl⟩:=rS e;rw[beq_iff_eq]at hb;subst hb;exact JY hm ay e1 hw (hf.h _ i e2 hI hμ)
 ·cases e
def C2:apH an->apH (apH (apH AV))
 |[]=>[]
 | .vec _ _ cs::l=>cs::C2 l
 |_::l=>C2 l
structure VE(m:Nat) where
 x:List (List AV)
 ok:∀e k,(an.vec e k x).AI m
theorem EW{m:Nat}:∀(l:apH an)(gO:apH (VE m)),C2 l=gO.map VE.x->kt m l
 |[],_,_=>SR
 |B::l,gO,h=>by
  cases B with
  |vec e k cs=>
   cases gO with
   |nil=>cases h
   |cons v vs=>
    have h1:cs=v.x:=(List.cons.inj h).1;subst h1;exact⟨v.ok e k,EW l vs (List.cons.inj h).2⟩
  |_=>exact⟨trivial,EW l gO h⟩
def wO(m:Nat):WO->apH (apH (apH AV))
 |some (.fin _ s,_)=>C2 (s.h.take m)
 |some (.at _ _ s,_)=>C2 (s.h.take m)
 |_=>[]
theorem adW(hm:P.follows .mixedOrders=true){ι:Type}{live:apH Nat}{m k:Nat}{ks:apH Nat}{kn:apH (Nat×Nat)}{st:ι->St}{I:ι->Prop}{μ:ι->Nat}{i0:ι}{f:St->Prop}(hf:Se k live m ks kn st I μ i0 f)(i:ι)(ay:apH (apH (Nat×Ob P)))(hI:I i)(hμ:μ i<μ i0:=by exact apF _)(e1:jQ k (wK w0)=[f]:=by kernel_rfl)(gO:apH (VE m):=[])(e0:wO m (wk P w0 ay)=gO.map VE.x:=by kernel_rfl)(e:AT k live m ks kn (wk P w0 ay)=some (st i,dH ay):=by kernel_rfl):GW P r N0 Q w0:=by
 generalize hw:wk P w0 ay=w at e e0;unfold AT at e;split at e
 ·next k' s' l=>
  obtain⟨hb,e⟩:=mP e;obtain⟨e2,rfl⟩:=rS e;rw[beq_iff_eq]at hb;subst hb;exact JY hm ay e1 hw (hf.h _ i (EW _ gO e0) e2 hI hμ)
 ·cases e
theorem Mb(hm:P.follows .mixedOrders=true){ι:Type}{live:apH Nat}{m k:Nat}{st:ι->St}{I:ι->Prop}{f:St->Prop}(hf:A7 k live m st I f)(i:ι)(ay:apH (apH (Nat×Ob P)))(hI:I i)(e1:jQ k (wK w0)=[f]:=by kernel_rfl)(e:qe k live m (wk P w0 ay)=some (st i,dH ay):=by kernel_rfl):GW P r N0 Q w0:=by
 generalize hw:wk P w0 ay=w at e;unfold qe at e;split at e
 ·next k' s' l=>
  obtain⟨hb,e⟩:=mP e;obtain⟨e2,rfl⟩:=rS e;rw[beq_iff_eq]at hb;subst hb;exact JY hm ay e1 hw (hf.h _ i e2 hI)
 ·cases e
theorem QM(hm:P.follows .mixedOrders=true){ι:Type}(k:Nat)(ay:apH (apH (Nat×Ob P)))(live:apH Nat)(m:Nat)(st:ι->St)(I:ι->Prop)(μ:ι->Nat)(i0:ι)(hI:I i0)
 (body:∀i,I i->∀f:St->Prop,Kq k live m st I μ i f->GW P r N0 Q (inLoop k f (st i) (wk P w0 ay)))
 (hN:N0<=m:=by exact ao0 rfl) (e:ng live m (wk P w0 ay)=some (st i0,dH ay):=by kernel_rfl):GW P r N0 Q w0:=by
 generalize hw:wk P w0 ay=w at e body;unfold ng at e;split at e
 ·next b K' s' l=>
  obtain⟨e2,rfl⟩:=rS e;refine nY hm hw λK _=> ?_;refine VJ live m st I μ i0 hN e2 hI λi hi=> ?_;exact(body i hi _ ⟨λs' i' h1 h2 h3=>⟨i',h1,h2,h3⟩⟩).run
 ·cases e
theorem amz(hm:P.follows .mixedOrders=true){ι:Type}(k:Nat)(ay:apH (apH (Nat×Ob P)))(live:apH Nat)(m:Nat)(ks:apH Nat)(kn:apH (Nat×Nat))(st:ι->St)(I:ι->Prop)(μ:ι->Nat)(i0:ι)(hI:I i0)
 (body:∀i,I i->∀f:St->Prop,Se k live m ks kn st I μ i f->GW P r N0 Q (inLoop k f (st i) (wk P w0 ay)))
 (hN:N0<=m:=by exact ao0 rfl) (gO:apH (VE m):=[]) (e0:wO m (wk P w0 ay)=gO.map VE.x:=by kernel_rfl) (e:C0 live m ks kn (wk P w0 ay)=some (st i0,dH ay):=by kernel_rfl):GW P r N0 Q w0:=by
 generalize hw:wk P w0 ay=w at e e0 body;unfold C0 at e;split at e
 ·next b K' s' l=>
  obtain⟨e2,rfl⟩:=rS e;refine nY hm hw λK _=> ?_;refine Tr live m ks kn st I μ i0 hN ⟨EW _ gO e0,e2⟩ hI λi hi=> ?_;exact(body i hi _ ⟨λs' i' h0 h1 h2 h3=>⟨i',⟨h0,h1⟩,h2,h3⟩⟩).run
 ·cases e
theorem aa2(hm:P.follows .mixedOrders=true){ι:Type}(k:Nat)(ay:apH (apH (Nat×Ob P)))(live:apH Nat)(m:Nat)(st:ι->St)(I:ι->Prop)
 (br:∀f:St->Prop,A7 k live m st I f->GW P r N0 Q (Bg k f (wk P w0 ay)))
 (rest:∀i,I i->GW P r N0 Q (Aq (st i) (wk P w0 ay))) (hN:N0<=m:=by exact ao0 rfl) (e:vZ (wk P w0 ay)=some (dH ay):=by kernel_rfl):GW P r N0 Q w0:=by
 generalize hw:wk P w0 ay=w at e br rest;unfold vZ at e;split at e
 ·cases e
  refine nY hm hw λK _=> ?_;exact afX live m st I hN (br _ ⟨λs' i' h1 h2=>⟨i',h1,h2⟩⟩).run λi hi=>(rest i hi).run
 ·cases e
theorem aog(hm:P.follows .mixedOrders=true){ι:Type}{live:apH Nat}{m k:Nat}{ks:apH Nat}{kn:apH (Nat×Nat)}{st:ι->St}{I:ι->Prop}{f:St->Prop}(hf:Jn k live m ks kn st I f)(i:ι)(ay:apH (apH (Nat×Ob P)))(hI:I i)(gO:apH (VE m):=[])(e0:wO m (wk P w0 ay)=gO.map VE.x:=by kernel_rfl)(e1:jQ k (wK w0)=[f]:=by kernel_rfl)(e:AT k live m ks kn (wk P w0 ay)=some (st i,dH ay):=by kernel_rfl):GW P r N0 Q w0:=by
 generalize hw:wk P w0 ay=w at e e0;unfold AT at e;split at e
 ·next k' s' l=>
  obtain⟨hb,e⟩:=mP e;obtain⟨e2,rfl⟩:=rS e;rw[beq_iff_eq]at hb;subst hb;exact JY hm ay e1 hw (hf.h _ i (EW _ gO e0) e2 hI)
 ·cases e
theorem aji(hm:P.follows .mixedOrders=true){ι:Type}(k:Nat)(ay:apH (apH (Nat×Ob P)))(live:apH Nat)(m:Nat)(ks:apH Nat)(kn:apH (Nat×Nat))(st:ι->St)(I:ι->Prop)
 (br:∀f:St->Prop,Jn k live m ks kn st I f->GW P r N0 Q (Bg k f (wk P w0 ay)))
 (rest:∀i,I i->GW P r N0 Q (Aq (st i) (wk P w0 ay))) (hN:N0<=m:=by exact ao0 rfl) (e:vZ (wk P w0 ay)=some (dH ay):=by kernel_rfl):GW P r N0 Q w0:=by
 generalize hw:wk P w0 ay=w at e br rest;unfold vZ at e;split at e
 ·cases e
  refine nY hm hw λK _=> ?_;exact anJ live m ks kn st I hN (br _ ⟨λs' i' h0 h1 h2=>⟨i',⟨h0,h1⟩,h2⟩⟩).run λi hi=>(rest i hi).run
 ·cases e
theorem FB:∀{K:apH Fr}{y:Code}{K':apH Fr}{s:St},wq K=some (y,K')->bj P r N0 y (gC P r N0 Q K') s->gC P r N0 Q K .normal s
 |[],_,_,_,h,_=>by cases h
 | .S y::K,_,_,_,h,k=>by cases h;exact k
 | .B _::K,_,_,s,h,k=>FB (K:=K) (s:=s) h k
 | .F _ _::K,_,_,_,h,_=>by cases h
theorem afx(hm:P.follows .mixedOrders=true)(Δ:apH (Nat×AV))(h':apH an)(e:∃ay:apH (Nat×Ob P),J3 P (Δ.map (·.1)) (iX ay) (wk P w0 [])=some (Δ,h',jP ay))(k:GW P r N0 Q (wI Δ h' (wk P w0 [])))(e0:ur (wk P w0 [])=some []:=by kernel_rfl):GW P r N0 Q w0:=by
 generalize hw:wk P w0 []=w at e k e0;obtain⟨ay,e⟩:=e;unfold J3 at e;split at e
 ·next id ops dr K' s' l=>
  obtain⟨hb,e⟩:=mP e;rw[aoU]at hb;cases e0
  refine nY hm hw λK _=> ?_;obtain⟨s1,h1,h2,h3,h4⟩:=DJ e;obtain⟨p,hp⟩:=Option.isSome_iff_exists.1 hb.2;obtain⟨y,K2⟩:=p;have hk:gC P r N0 Q K' .normal s1:=by
   refine FB hp (Cr (s:=s1) (s':=⟨s'.n,Δ++s'.t,h'⟩) h2.symm h3.symm h4 ?_);have k:=k.run;simp only[wI,hp]at k;exact k
  show bj P r N0 (.region id ops dr) (gC P r N0 Q K') s';have db:=xU (P:=P) (ops:=ops.toList.toArray) (dr:=dr) (K:=gC P r N0 Q K' .normal) ops.toList 0 s' _ h1 (qS ay) hk;cases dr with
  |false=>exact fy (by simpa using db)
  |true=>
   have hl:vA ops.toList.toArray=true:=by simpa using hb.1
   have:=NU (P:=P) (r:=r) (N0:=N0) (Q:=gC P r N0 Q K') (s:=s') (id:=id) (l:=ops.toList) hm hl (by simpa using db)
   simpa using this
 ·cases e
def UO(P:apK)(aS:apH Nat)(as:apH (Nat×bQ)):WO->apJ (apH (apH (Nat×AV)×apH an×apH (In×bQ)))
 |some (.at (.region _ ops true) K s,_)=>bif (wq K).isSome then KY P ops.toList as aS s else none
 |_=>none
theorem anE(m:Nat)(hm:P.follows .mixedOrders=true)(Δ:apH (Nat×AV))(h':apH an)(e:∃ay:apH (Nat×Ob P),UO P (Δ.map (·.1)) (iX ay) (wk P w0 [])=some (List.replicate m (Δ,h',jP ay)))(k:GW P r N0 Q (wI Δ h' (wk P w0 [])))(e0:ur (wk P w0 [])=some []:=by kernel_rfl):GW P r N0 Q w0:=by
 generalize hw:wk P w0 []=w at e k e0;obtain⟨ay,e⟩:=e;unfold UO at e;split at e
 ·next id ops K' s' l=>
  obtain⟨hb,e⟩:=mP e;cases e0
  refine nY hm hw λK _=> ?_;obtain⟨p,hp⟩:=Option.isSome_iff_exists.1 hb;obtain⟨y,K2⟩:=p;show bj P r N0 (.region id ops true) (gC P r N0 Q K') s';have:=rte (r:=r) (N0:=N0) (Q:=gC P r N0 Q K') (id:=id) (ol:=ops.toList) (n:=s'.n) (t:=s'.t) (h:=s'.h) m hm ay Δ h' e (FB hp (by
   have k:=k.run;simp only[wI,hp]at k;exact k))
  simpa using this
 ·cases e
def ack(P:apK)(aS:apH Nat)(as:apH (Nat×bQ)):WO->apJ (apH (Nat×AV)×apH an×apH (In×bQ))
 |some (.at (.region _ ops true) K s,_)=>bif (wq K).isSome&&yi true ops (List.range ops.toList.length)&&xQ as 0 ops.toList then oG P false ops.toList as aS s else none
 |_=>none
theorem af3(hm:P.follows .mixedOrders=true)(ay:apH (Nat×Ob P))(Δ:apH (Nat×AV))(h':apH an)(k:GW P r N0 Q (wI Δ h' (wk P w0 [])))(e:ack P (Δ.map (·.1)) (iX ay) (wk P w0 [])=some (Δ,h',jP ay):=by kernel_rfl)(e0:ur (wk P w0 [])=some []:=by kernel_rfl):GW P r N0 Q w0:=by
 generalize hw:wk P w0 []=w at e k e0;unfold ack at e;split at e
 ·next id ops K' s' l=>
  obtain⟨hb,e⟩:=mP e;rw[aoU,aoU]at hb;cases e0
  refine nY hm hw λK _=> ?_;obtain⟨p,hp⟩:=Option.isSome_iff_exists.1 hb.1.1;obtain⟨y,K2⟩:=p;show bj P r N0 (.region id ops true) (gC P r N0 Q K') s';have hk:bj P r N0 y (gC P r N0 Q K2) ⟨s'.n,Δ++s'.t,h'⟩:=by
   have k:=k.run;simp only[wI,hp]at k;exact k
  obtain⟨s1,h1,h2,h3,h4⟩:=DJ e;have JA:gC P r N0 Q K' .normal s1:=FB hp (Cr (s:=s1) (s':=⟨s'.n,Δ++s'.t,h'⟩) h2.symm h3.symm h4 hk);have hl:yi true ops.toList.toArray (List.range ops.toList.length)=true:=by simpa using hb.1.2
  have:bj P r N0 (.region id ops.toList.toArray true) (gC P r N0 Q K') s':=by
   refine Ns (m:=true) (List.range ops.toList.length) hm (by simp) hl ?_;rw[Nw];exact Jd ops.toList 0 _ _ h1 (qS ay) hb.2 JA
  simpa using this
 ·cases e
theorem afP(k:Nat)(xs:apH (apH D))(hx:(bp (wS w0).t k).fA=some xs)(h:u5 (.sl xs)->GW P r N0 Q w0):GW P r N0 Q w0:=by
 constructor
 unfold AQ;split
 ·next c K s l=>exact DY k xs hx λhl=>(h hl).run
 ·trivial
theorem U2(b i:Nat)(xs:apH (apH D))(hx:(((wS w0).h[b]?).bind λB=>match B with| .cells cs=>(cs[i]?).bind AV.fA|_=>none)=some xs)(h:u5 (.sl xs)->GW P r N0 Q w0):GW P r N0 Q w0:=by
 constructor
 unfold AQ;split
 ·next c K s l=>exact akW b i xs hx λhl=>(h hl).run
 ·trivial
def adS(k e sz:Nat)(xs:apH (apH D))(s:St):St:=⟨s.n,(k, .own s.h.length xs)::s.t,s.h++[.front e sz xs.length]⟩
def JD(b i e sz:Nat)(xs:apH (apH D))(s:St):St:=match s.h[b]? with
 |some (.cells cs)=>⟨s.n,s.t,(s.h++[an.front e sz xs.length]).set b (an.cells (cs.set i (AV.own s.h.length xs)))⟩
 |_=>s
def MI(xs:apH (apH D)):AV->Bool
 | .d (.v (.slice none 0 0))=>xs.isEmpty
 |_=>false
theorem YC{xs:apH (apH D)}{x:AV}(h:MI xs x=true):x= .d (.v (.slice none 0 0))/\xs=[]:=by
 unfold MI at h;split at h
 ·exact⟨rfl,List.isEmpty_iff.1 h⟩
 ·cases h
theorem l0(k e sz:Nat)(xs:apH (apH D))(hx:bp (wS w0).t k= .full xs\/MI xs (bp (wS w0).t k)=true)(h:GW P r N0 Q (Na (adS k e sz xs) w0)):GW P r N0 Q w0:=by
 constructor
 unfold AQ;split
 ·next c K s l=>exact UI k e sz xs (hx.imp id YC) h.run
 ·trivial
def AV.aa6:AV->AV
 | .own _ xs=> .d (.sl xs)
 |x=>x
theorem AV.Le.Mp(x:AV):AV.Le x x.aa6:=λG w u h=>by
 cases h with
 |own n xs h1 hp h2 h3=>exact .d hp
 |_=>first|exact .d (by assumption)|(constructor<;>assumption)
def Ry(b:Nat)(s:St):St:=match s.h[b]? with
 |some (.cells cs)=>⟨s.n,s.t,s.h.set b (an.cells (cs.map AV.aa6))⟩
 |_=>s
theorem anF{c:Code}{s:St}{Q:Exit->St->Prop}(b:Nat)(h:bj P r N0 c Q (Ry b s)):bj P r N0 c Q s:=by
 unfold Ry at h;split at h
 ·next cs hb=>
  constructor
  intro G w a n hs hN;obtain⟨h1,h2,vs,T,h3,h4,h5⟩:=hs.inv.cu _ _ hb;refine h.run G w a n ⟨hs.size,hs.tmp,QC hs.inv hb (by rw[aoX]) λdZ T' qu j u c hu hc=> ?_,hs.df⟩ hN;rw[h3]at qu;cases qu
  rw[aoZ]at hc;cases hq:cs[j]? with
  |none=>rw[hq]at hc;cases hc
  |some y=>rw[hq]at hc;cases hc;exact AV.Le.Mp y G w u (h5 j u y hu hq)
 ·exact h
theorem akR(b:Nat)(h:GW P r N0 Q (Na (Ry b) w0)):GW P r N0 Q w0:=by
 constructor
 unfold AQ;split
 ·next c K s l=>exact anF b h.run
 ·trivial
def MD(b i:Nat)(s:St):AV:=match s.h[b]? with
 |some (.cells cs)=>(cs[i]?).getD .dead
 |_=> .dead
theorem Y4{b i:Nat}{s:St}{x:AV}(h:MD b i s=x)(hx:x≠ .dead):∃cs,s.h[b]?=some (.cells cs)/\cs[i]?=some x:=by
 unfold MD at h;split at h
 ·next cs hb=>
  refine⟨cs,hb,?_⟩;cases hq:cs[i]? with
  |none=>rw[hq]at h;exact absurd h.symm hx
  |some y=>rw[hq]at h;rw[<-h];rfl
 ·exact absurd h.symm hx
theorem mL(b i e sz:Nat)(xs:apH (apH D))(hx:MD b i (wS w0)= .full xs\/MI xs (MD b i (wS w0))=true)(h:GW P r N0 Q (Na (JD b i e sz xs) w0)):GW P r N0 Q w0:=by
 constructor
 unfold AQ;split
 ·next c K s l=>
  have h':bj P r N0 c (gC P r N0 Q K) (JD b i e sz xs s):=h.run;rcases hx with hx|hx
  ·obtain⟨cs,h1,h2⟩:=Y4 hx (λh=>by cases h);unfold JD at h';rw[show s.h[b]?=some (.cells cs)from h1]at h';exact X6 b i e sz xs h1 (.inl h2) h'
  ·obtain⟨h3,rfl⟩:=YC hx;obtain⟨cs,h1,h2⟩:=Y4 h3 (λh=>by cases h);unfold JD at h';rw[show s.h[b]?=some (.cells cs)from h1]at h';exact X6 b i e sz [] h1 (.inr ⟨h2,rfl⟩) h'
 ·trivial
end
theorem bc{α:Type}{c:Bool}{a b x:α}{G:Prop}(h:(bif c then a else b)=x)(t:c=true->a=x->G)(f:c=false->b=x->G):G:=by
 cases c with
 |true=>exact t rfl h
 |false=>exact f rfl h
theorem sj{α:Type}{a b:α}(h:some a=some b):a=b:=apb h
theorem qW{α:Type}{c:Bool}{x:apJ α}{r:α}(h:(bif c then x else none)=some r):c=true/\x=some r:=by
 cases c with
 |true=>exact⟨rfl,h⟩
 |false=>cases h
def yd(fn:Func)(args:apH AV)(h:apH an):WO:=some (.at (fn.body.getD .skip) [] {n:=args.length+(fn.ntmps-args.length),t:=mv 0 args,h:=h},[])
theorem ani{P:apK}{f:FuncId}{fn:Func}{args:apH AV}{R:AV}(hf:P.funcs[f]?=some fn)(hb:fn.body.isSome=true)(hn:(fn.name== "runtime.NumGoroutine")=false)
 (hw:GW P none 0 (kQ P fn R) (yd fn args [])):ic P f args (·=R):=by
 obtain⟨c,hc⟩:=Option.isSome_iff_exists.1 hb;refine ER hf hc hn ?_;have:fn.body.getD .skip=c:=by rw[hc];rfl
 rw[<-this];exact hw.run
theorem aoj{P:apK}{f:FuncId}{fn:Func}{args:apH AV}{h H:apH an}{R:AV}(m:Nat)(hf:P.funcs[f]?=some fn)(hb:fn.body.isSome=true)(hn:(fn.name== "runtime.NumGoroutine")=false)(hm:h.length<=m)
 (hw:GW P none h.length (tW P fn m R H) (yd fn args h)):cx P f args h λr1 h1=>r1=R/\h1=H:=by
 obtain⟨c,hc⟩:=Option.isSome_iff_exists.1 hb;refine BJ m hf hc hn hm ?_;have:fn.body.getD .skip=c:=by rw[hc];rfl
 rw[<-this];exact hw.run
section nX
variable {P:apK}
def oL{α:Type}{f:apH α->apH (apH D)}(l:apH α)(h:(f l).length=l.length):Ob P:=⟨_,_, .len h⟩
def oE{xs:apH (apH D)}{k:Nat}{c:apH D}(h:xs[k]?=some c):Ob P:=⟨_,_, .el (xs:=xs) (i:=(k:Int)) (Int.natCast_nonneg _) h⟩
def oq{a b:AV}(h:a=b):Ob P:=⟨_,_, .eq h⟩
def os(ks:apH Nat)(o:Ob P)(l:apH (Nat×Ob P)):apH (Nat×Ob P):=ks.foldr (λk t=>(k,o)::t) l
noncomputable def soI(x:Nat×Ob P)(l:apH (Nat×Ob P)):apH (Nat×Ob P):=List.rec [x] (λy t r=>bif Nat.ble x.1 y.1 then x::y::t else y::r) l
noncomputable def so(l:apH (Nat×Ob P)):apH (Nat×Ob P):=l.foldr soI []
theorem Ls{xs:apH (apH D)}{n:Nat}(e:xs.length=n)(h:u5 (.sl xs)):n<=maxLen:=e▸Hh h
end nX
section
variable {P:apK} {r:apJ Nat} {n N0:Nat} {G:Gh} {w:apM} {a:Act} {s:St} {Q:Exit->St->Prop} {c:Code}
theorem Inv.p7{h:apH an}{k:Nat}{B B':an}(hi:Inv G w h)(hk:h[k]?=some B)(ho:B'.dC G k=B.dC G k)(hB:dB G w k B->dB G w k B'):Inv G w (h.set k B'):=by
 have aH:=(aoS.1 hk).1;have WC:(h.set k B')[k]?=some B':=apl aH;have ej:∀m,m≠k->(h.set k B')[m]?=h[m]?:=λm hm=>by rw[apr (Ne.symm hm)]
 have dQ:∀m,bB (h.set k B') G m=bB h G m:=λm=>by
  by_cases e:m=k
  ·subst e;rw[cZ WC,cZ hk,ho]
  ·unfold bB;rw[ej m e]
 refine⟨by rw[List.length_set];exact hi.len,hi.z,hi.S,λm C hC=> ?_,λm m' b h1 h2=>hi.inj m m' b (by rw[<-dQ];exact h1) (by rw[<-dQ];exact h2),hi.gl⟩;by_cases e:m=k
 ·subst e;rw[WC]at hC;cases hC
  exact hB (hi.cu m B hk)
 ·rw[ej m e]at hC;exact hi.cu m C hC
theorem cA.p7{k:Nat}{B B':an}(hs:cA G w a s)(hk:s.h[k]?=some B)(ho:B'.dC G k=B.dC G k)(hB:dB G w k B->dB G w k B'):cA G w a ⟨s.n,s.t,s.h.set k B'⟩:=
 ⟨hs.size,hs.tmp,hs.inv.p7 hk ho hB,hs.df⟩
theorem Ft:∀{l:apH (apI×D)}{x:apI}{d:D},eF l x=some d->(x,d)∈l
 |(k,e)::l,x,d,h=>by
  rw[tq]at h;split at h
  ·next hk=>cases h;subst hk;exact aoY
  ·exact ao1 _ (Ft h)
theorem J8:∀{l:apH (apI×D)}{x:apI}{d:D},(l.map (·.1)).Nodup->(x,d)∈l->eF l x=some d
 |(k,e)::l,x,d,hn,h=>by
  rw[aph,List.nodup_cons]at hn;rw[tq];rcases apm.1 h with h|h
  ·cases h;rw[if_pos rfl]
  ·rw[if_neg,J8 hn.2 h];intro hk;exact hn.1 (by rw[hk];exact List.mem_map.2 ⟨_,h,rfl⟩)
theorem o8.p7{S:Nat->Nat->Prop}{es:Array MapEntry}{clock:Nat}{kv CB:apH (apI×D)}(h:o8 S w es clock kv)(e:∀x,eF CB x=eF kv x)(hl:es.size<=CB.length):o8 S w es clock CB:=
 ⟨h.size,h.stamped,λx hx=>let ⟨s,d,h1,h2,h3⟩:=h.dY x hx;⟨s,d,h1,(e s).trans h2,h3⟩,λs d hs=>h.all s d ((e s)▸hs),hl,h.born,h.A5⟩
theorem amW{S:Nat->Nat->Prop}{es:Array MapEntry}{clock:Nat}{kv:apH (apI×D)}(h:o8 S w es clock kv):∃dY,vl S w es clock dY/\(∀x,eF dY x=eF kv x)/\(dY.map (·.1)).Nodup:=by
 have fW:(es.toList.map (·.key)).Nodup:=h.stamped.2.2;have key:∀l:apH MapEntry,(∀e∈l,∃s d,e.key= .string s/\eF kv s=some d/\dd S w e.val d)->∃dY:apH (apI×D),dY.length=l.length/\∀(i:Nat)(e:MapEntry),l[i]?=some e->∃p,dY[i]?=some p/\e.key= .string p.1/\eF kv p.1=some p.2/\dd S w e.val p.2:=by
  intro l
  induction l with
  |nil=>exact λ_=>⟨[],rfl,λi e he=>by simp at he⟩
  |cons x l ih=>
   intro hl;obtain⟨dY,e1,e2⟩:=ih λe he=>hl e (ao1 _ he);obtain⟨s,d,h1,h2,h3⟩:=hl x aoY;refine⟨(s,d)::dY,by simp [e1],λi e he=> ?_⟩;cases i with
   |zero=>cases he;exact⟨_,rfl,h1,h2,h3⟩
   |succ i=>exact e2 i e he
 obtain⟨dY,e1,e2⟩:=key es.toList h.dY;have hlen:dY.length=es.size:=by rw[e1];simp
 have SB:∀(i:Nat)(p:apI×D),dY[i]?=some p->∃e,es.toList[i]?=some e/\e.key= .string p.1/\eF kv p.1=some p.2:=by
  intro i p hp;have hi:i<es.toList.length:=by rw[<-e1];exact(aoS.1 hp).1
  obtain⟨q,q1,q2,q3,_⟩:=e2 i _ (aoW hi);rw[hp]at q1;cases q1
  exact⟨_,aoW hi,q2,q3⟩
 have yu:es.toList.map (·.key)=(dY.map (·.1)).map Value.string:=by
  apply List.ext_getElem?;intro i;rw[aoZ,aoZ,aoZ];cases hp:dY[i]? with
  |none=>
   rw[apo (by rw[<-e1];exact List.getElem?_eq_none_iff.1 hp)];rfl
  |some p=>
   obtain⟨e,h1,h2,_⟩:=SB i p hp;rw[h1];simp [h2]
 have hn:(dY.map (·.1)).Nodup:=by
  rw[yu]at fW;exact(List.pairwise_map.1 fW).imp λh e=>h (congrArg _ e)
 have ej:∀x,eF dY x=eF kv x:=by
  intro x;cases hx:eF dY x with
  |some d=>
   obtain⟨i,hi,ei⟩:=List.getElem_of_mem (Ft hx);obtain⟨_,_,_,h3⟩:=SB i (x,d) (by rw[aoW hi,ei]);exact h3.symm
  |none=>
   cases hy:eF kv x with
   |none=>rfl
   |some d=>
    exfalso;obtain⟨e,he,hk⟩:=h.all x d hy;obtain⟨i,hi,ei⟩:=List.getElem_of_mem he;obtain⟨p,p1,p2,p3,_⟩:=e2 i e (by rw[aoW hi,ei]);rw[hk]at p2;injection p2 with p2;have:=J8 hn (ao5 p1);rw[<-p2,hx]at this;cases this
 refine⟨dY,⟨h.p7 ej (by omega),λi e he=> ?_,hlen⟩,ej,hn⟩;obtain⟨p,p1,p2,_,p4⟩:=e2 i e (by rw[apf];exact he);exact⟨p,p1,p2,p4⟩
theorem akp(mb:Nat)(kv:apH (apI×D))(hb:s.h[mb]?=some (.map kv))(k:∀dY:apH (apI×D),(∀x,eF dY x=eF kv x)->(dY.map (·.1)).Nodup->dY.length<=kv.length->dY.length<=maxLen->bj P r N0 c Q ⟨s.n,s.t,s.h.set mb (.fR dY)⟩):bj P r N0 c Q s:=by
 constructor
 intro G w a n hs hN;obtain⟨h1,h2,es,clock,h3,h4⟩:=hs.inv.cu mb _ hb;obtain⟨dY,e1,e2,e3⟩:=amW h4;exact(k dY e2 e3 (by rw[e1.all];exact h4.len) (by rw[e1.all];exact h4.size)).run G w a n (hs.p7 (B':= .fR dY) hb rfl λ_=>⟨h1,h2,es,clock,h3,e1⟩) hN
theorem ad5(mb:Nat)(kv dY:apH (apI×D))(hb:s.h[mb]?=some (.fR dY))(e:∀x,eF kv x=eF dY x)(hl:dY.length<=kv.length)(k:bj P r N0 c Q ⟨s.n,s.t,s.h.set mb (.map kv)⟩):bj P r N0 c Q s:=by
 constructor
 intro G w a n hs hN;refine k.run G w a n (hs.p7 (B':= .map kv) hb rfl λh=> ?_) hN;obtain⟨h1,h2,es,clock,h3,h4⟩:=h;exact⟨h1,h2,es,clock,h3,h4.ok.p7 e (by rw[<-h4.all];exact hl)⟩
theorem ae1(mb:Nat)(kv OE:apH (apI×D))(hb:s.h[mb]?=some (.map OE))(e:∀x,eF kv x=eF OE x)(hl:OE.length<=kv.length)(k:bj P r N0 c Q ⟨s.n,s.t,s.h.set mb (.map kv)⟩):bj P r N0 c Q s:=by
 constructor
 intro G w a n hs hN;refine k.run G w a n (hs.p7 (B':= .map kv) hb rfl λh=> ?_) hN;obtain⟨h1,h2,es,clock,h3,h4⟩:=h;exact⟨h1,h2,es,clock,h3,h4.p7 e (apa h4.len hl)⟩
theorem Rx{ops:Array Oper}{o:Oper}{l:apH Oper}{K:St->Prop}(hg:o.guard=none)(h:ru P o (iU P ops l K) s):iU P ops (o::l) K s:=by
 unfold iU aGuard;rw[hg];exact .inr (.inr (.inr (.inr (.inr h))))
theorem E7{ops:Array Oper}{s1:St}{K:St->Prop}(l:apH Oper)(j:Nat)(as:apH (Nat×bQ)){ps:apH (In×bQ)}(h:iY P ops false l j as s=some (s1,ps))(ho:gw P ps)(k:K s1):iU P ops l K s:=
 xU (dr:=false) l j s ps h ho k
theorem agc{ops:Array Oper}{o:Oper}{s1:St}{K:St->Prop}(l:apH Oper)(h:iY P ops false l 0 [] s=some (s1,[]))(hg:o.guard=none)(k:ru P o K s1):iU P ops (l++[o]) K s:=
 Wm l 0 s [] K h (λ_ hp=>by cases hp) o (by unfold aGuard;rw[hg];exact .inr (.inr (.inr (.inr (.inr k)))))
end
def gS(b:apI):apH (apH AV):=(byteCells b).map λu=>[AV.d (.v u)]
theorem jX(b:apI):(gS b).length=b.size:=by unfold gS;rw[aoX,byteCells_length]
theorem V4(a b:apI):gS (a++b)=gS a++gS b:=by
 unfold gS byteCells;rw[ByteArray.data_append,Array.toList_append,List.map_append,List.map_append]
theorem al3{b:apI}{i:Nat}{u:UInt8}(h:(bL b)[i]?=some u):(gS b)[i]?=some [AV.d (.v (.int .u8 u.toNat))]:=by
 unfold gS byteCells;rw[aoZ,aoZ];show((bL b)[i]?.map _).map _=_;rw[h];rfl
theorem X1{b:apI}{i:Nat}{c:apH AV}(h:(gS b)[i]?=some c):∃u:UInt8,(bL b)[i]?=some u/\c=[AV.d (.v (.int .u8 u.toNat))]:=by
 unfold gS byteCells at h;rw[aoZ,aoZ]at h;have h:((bL b)[i]?.map _).map _=_:=h;cases hu:(bL b)[i]? with
 |none=>rw[hu]at h;cases h
 |some u=>rw[hu]at h;cases h;exact⟨u,rfl,rfl⟩
theorem aaz(b:apI):b.size=(bL b).length:=by unfold bL;rw[apq];rfl
section
variable {P:apK} {r:apJ Nat} {n N0:Nat} {G:Gh} {w w':apM} {a:Act} {s:St} {Q:Exit->St->Prop} {c:Code} {h:apH an}
theorem abQ(w:apM)(b o:Nat)(v:apL):w.grownBy (w.setCell ⟨b,o,none⟩ v) (some b):=
 ⟨rfl,rfl,rfl,by simp [World.setCell],λk _ hk=>Below.heap_setCell _ _ _ _ (λe=>hk (by simp [e]))⟩
theorem Qz{n:Nat}{T:TypeId}{cs bJ:apH AV}{p':apL}{dZ:Array apL}(hi:Inv G w h)(hn:h[n]?=some (.aT T cs))(hg:w.grownBy w' (some (G.aI n)))(fj:w'.heap[G.aI n]?=some (.cells (#[p']++dZ) T (0,0)))
 (M6:p'= .pointer none\/p'= .pointer (some ⟨G.aI n,0,none⟩)) (hl:dZ.size=bJ.length) (pQ:∀v∈dZ.toList,Ic v) (hr:∀(i:Nat)(u:apL)(c:AV),dZ[i]?=some u->bJ[i]?=some c->aD G w u c):
 bx G.N G w G w'/\Inv G w' (h.set n (.aT T bJ)):=by
 obtain⟨hz,hS,_,vs,p,hh,⟨xa,hp,aan⟩,E6⟩:=hi.cu n _ hn;have gz:∀b o,G.S b o->w'.cell? ⟨b,o,none⟩=w.cell? ⟨b,o,none⟩:=λb o hs=>by
  unfold World.cell?;rw[hg.block b (hi.S b o hs) (λe=>by cases e;exact hS o hs)]
 have hE:bx G.N G w G w':=⟨hg.size,λ_ _ h=>h,gz,λ_ _=>rfl,λ_ _=> .inl ⟨rfl,rfl⟩,fY rfl,λb hb=>hg.block b (hi.z b hb) (λe=>by cases e;exact hz hb),hg.os,hg.tape,hg.output,λ_ _ hs=> .inl hs⟩;have ej:∀m,m≠n->(h.set n (.aT T bJ))[m]?=h[m]?:=λm hm=>by rw[apr (Ne.symm hm)]
 have kN:(h.set n (.aT T bJ))[n]?=some (.aT T bJ):=by rw[apl (aoS.1 hn).1]
 have dQ:∀m,bB (h.set n (.aT T bJ)) G m=bB h G m:=λm=>by
  by_cases e:m=n
  ·subst e;rw[cZ kN,cZ hn];rfl
  ·unfold bB;rw[ej m e]
 have kM:bB h G n=some (G.aI n):=cZ hn;refine⟨hE,by rw[List.length_set];exact hi.len,λb hb=>apg (hi.z b hb) hE.size,λb o hs=>apg (hi.S b o hs) hE.size,λm B hB=> ?_,λm m' b h1 h2=>hi.inj m m' b (by rw[<-dQ];exact h1) (by rw[<-dQ];exact h2),hi.gl.aS hE⟩;by_cases e:m=n
 ·subst e;rw[kN]at hB;cases hB
  exact⟨hz,hS,(),dZ,p',fj,⟨hl,M6,pQ⟩,λi u c hu hc=>(hr i u c hu hc).aS hE (ao3 _)⟩
 ·rw[ej m e]at hB;refine dB.aS (hi.lt hB) hE (ao3 _) ⟨rfl,rfl,rfl⟩ (λb hb=>⟨?_,λo h=>h⟩) (hi.cu m B hB);have kC:bB h G m=some b:=(cZ hB).trans hb;exact hg.block b (hi.gx kC) (λeb=>by cases eb;exact e (hi.inj m n _ kC kM))
theorem aem{b:Nat}{T:TypeId}{cs bJ:apH AV}(hi:Inv G w h)(hb:h[b]?=some (.aT T cs))(hl:bJ.length=cs.length)
 (hc:∀(vs:Array apL)(p:apL),w.heap[G.aI b]?=some (.cells (#[p]++vs) T (0,0))->∀(i:Nat)(u:apL)(c:AV),vs[i]?=some u->bJ[i]?=some c->aD G w u c):Inv G w (h.set b (an.aT T bJ)):=by
 obtain⟨hz,hS,_,vs,p,hh,⟨xa,hp,aan⟩,E6⟩:=hi.cu b _ hb;exact(Qz (bJ:=bJ) hi hb (w':=w) ⟨rfl,rfl,rfl,ao3 _,λ_ _ _=>rfl⟩ hh hp (xa.trans hl.symm) aan (hc vs p hh)).2
theorem Q6{k:Nat}{e:TypeId}{b:apI}(hi:Inv G w h)(hn:h[k]?=some (.bg e b)):Inv G w (h.set k (.vec e 1 (gS b))):=by
 refine hi.p7 hn rfl λhB=> ?_;obtain⟨h1,h2,h3⟩:=hB;refine⟨by rw[jX];exact h1,by rw[jX];exact h2,λc hc=> ?_,?_⟩
 ·obtain⟨i,hi⟩:=List.mem_iff_getElem?.1 hc;obtain⟨u,_,rfl⟩:=X1 hi;rfl
 ·rcases h3 with⟨a1,a2,a3⟩|⟨g,cap,cur,a1,a2,a3,a4,a5,a6,a7,a8,a9⟩
  ·exact .inl ⟨a1,List.eq_nil_of_length_eq_zero (by rw[jX,a2]),a3⟩
  ·refine .inr ⟨g,cap,cur,a1,by rw[jX];exact a2,a3,a4,by rw[jX];exact a5,a6,by rw[a7,Nat.mul_one],a8,λi j c x v hc hx hv=> ?_⟩;obtain⟨u,hu,rfl⟩:=X1 hc
   match j,hx with
   |0,hx=>
    cases hx
    rw[Nat.mul_one,Nat.add_zero,a9 i u hu]at hv;cases hv
    exact .d (.v _)
theorem NZ{k:Nat}{e:TypeId}{b:apI}(hi:Inv G w h)(hn:h[k]?=some (.vec e 1 (gS b))):Inv G w (h.set k (.bg e b)):=by
 refine hi.p7 hn rfl λhB=> ?_;obtain⟨h1,h2,_,h3⟩:=hB;rw[jX]at h1 h2;refine⟨h1,h2,?_⟩;rcases h3 with⟨a1,a2,a3⟩|⟨g,cap,cur,a1,a2,a3,a4,a5,a6,a7,a8,a9⟩
 ·exact .inl ⟨a1,by rw[<-jX b,a2];rfl,a3⟩
 ·rw[jX]at a2 a5;rw[Nat.mul_one]at a7;refine .inr ⟨g,cap,cur,a1,a2,a3,a4,a5,a6,a7,a8,λi u hu=> ?_⟩;have aH:i<cur.size:=by
    have:=(aoS.1 hu).1;rw[<-aaz]at this;omega
  have hc:cur[i]?=some cur[i]:=ape aH;have:=(a9 i 0 _ _ cur[i] (al3 hu) rfl (by rw[Nat.mul_one,Nat.add_zero];exact hc)).val;rw[hc,this]
theorem am7{G:Gh}{w:apM}{h:apH an}(hi:Inv G w h)(e:Nat):bx G.N G w (G.dW (.slice none 0 0) 0 none) w/\G.N<=(G.dW (.slice none 0 0) 0 none).N/\Inv (G.dW (.slice none 0 0) 0 none) w (h++[.bg e (bs [])])/\aD (G.dW (.slice none 0 0) 0 none) w (.slice none 0 0) (.vec h.length 0 0 0 1):=by
 obtain⟨a1,a2,a3,a4⟩:=YH hi e 1;refine⟨a1,a2,?_,a4⟩;have hg:(h++[an.vec e 1 []])[h.length]?=some (.vec e 1 (gS (bs []))):=by simp;rfl
 have:=NZ a3 hg;rw[List.set_append_right _ _ (ao3 _),Nat.sub_self]at this;exact this
theorem amx(b e:Nat){T:TypeId}(hb:s.h[b]?=some (.aT T [.d (.v (.slice none 0 0))]))
 (hk:bj P r N0 c Q ⟨s.n,s.t,(s.h++[an.bg e (bs [])]).set b (an.aT T [AV.vec s.h.length 0 0 0 1])⟩):bj P r N0 c Q s:=by
 constructor
 intro G w a n hs hN;obtain⟨h1,h2,_,vs,p,h3,⟨h4,hp,pQ⟩,h5⟩:=hs.inv.cu _ _ hb;have wv:0<vs.size:=by rw[h4];decide
 have hv:vs[0]?=some vs[0]:=ape wv;have lI:=(h5 0 _ _ hv rfl).val;obtain⟨a1,a2,a3,a4⟩:=am7 hs.inv e;have aH:=(aoS.1 hb).1;have b8:cA (G.dW (.slice none 0 0) 0 none) w a ⟨s.n,s.t,(s.h++[an.bg e (bs [])]).set b (an.aT T [AV.vec s.h.length 0 0 0 1])⟩:=by
  refine⟨hs.size,λj=>(hs.tmp j).aS a1 a2,aem (cs:=[.d (.v (.slice none 0 0))]) a3 (by rw[ao2 aH];exact hb) rfl λdZ p' qu j u c hu hc=> ?_,hs.df.aS a1⟩;have e1:(G.dW (.slice none 0 0) 0 none).aI b=G.aI b:=rfl;rw[e1,h3]at qu;have e2: #[p]++vs= #[p']++dZ:=by
   injection qu with h6;injection h6
  have e3:vs=dZ:=by
   have:=congrArg Array.toList e2;simp only[Array.toList_append,List.cons_append,List.nil_append,List.cons.injEq]at this;exact Array.toList_inj.1 this.2
  subst e3
  match j with
  |0=>
   rw[hv]at hu;cases hu
   cases hc
   rw[lI];exact a4
  |j+1=>simp at hc
 exact wpIn_mono (hk.run _ w a n b8 (apa hN a2)) λ_ _ _ hn=>hn.trans (a1.less hN)
end
def Ou(P:apK)(T:TypeId)(o:Oper)(ρ:Operand->AV):Bool:=
 match o.guard with
 |none=>match o.op with
  | .alloc e=>e==T&&(match iw P e with
    |some z=>match z.cells.toList with
     |[.pointer none, .slice none 0 0]=>true
     |_=>false
    |none=>false)
  | .box e x=>e==T&&(match ρ x with
    | .agg [.d (.v (.pointer none)), .d (.v (.slice none 0 0))]=>true
    |_=>false)
  |_=>false
 |some _=>false
def OL(P:apK)(T k:Nat)(ops:Array Oper)(s:St):apJ St:=
 match iY P ops false (ops.toList.take k) 0 [] s with
 |some (s1,[])=>match ops.toList.drop k with
  |o::rest=>bif Ou P T o (ev s1)then
    match iY P ops false rest 0 [] ((s1.wh (s1.h++[.aT T [.d (.v (.slice none 0 0))]])).put o.dst (.ptr s1.h.length 0))with
    |some (s3,[])=>some s3
    |_=>none
   else none
  |[]=>none
 |_=>none
theorem ab2{P:apK}{ops:Array Oper}{s1:St}{l2:apH Oper}{K:St->Prop}{as:apH (Nat×bQ)}:∀(ol:apH Oper)(j:Nat)(s:St)(l:apH (In×bQ)),iY P ops false ol j as s=some (s1,l)->gw P l->iU P ops l2 K s1->iU P ops (ol++l2) K s
 |[],_,s,l,h,_,hK=>by cases h;exact hK
 |q::rest,j,s,l,h,bO,hK=>by
  unfold iY at h;split at h
  ·next s2 m hg=>
   obtain⟨n,e,h2,h3⟩:=vS h bO;exact D5 (dr:=false) (K:=iU P ops (rest++l2) K) hg h3 (ab2 rest (j+1) s2 n e h2 hK)
  ·cases h
theorem ajm{P:apK}{T k:Nat}{ops:Array Oper}{s s3:St}{K:St->Prop}(h:OL P T k ops s=some s3)(hK:K s3):iU P ops ops.toList K s:=by
 unfold OL at h;split at h
 ·next s1 e1=>
  split at h
  ·next o rest e2=>
   obtain⟨hb,h⟩:=mP h;split at h
   ·next s4 e3=>
    cases h
    have hl:ops.toList=ops.toList.take k++o::rest:=by rw[<-e2,apw]
    have hg:o.guard=none:=by
     unfold Ou at hb;split at hb
     ·next e=>exact e
     ·cases hb
    have h2:iU P ops rest K ((s1.wh (s1.h++[.aT T [.d (.v (.slice none 0 0))]])).put o.dst (.ptr s1.h.length 0)):=E7 rest 0 [] e3 (λ_ h=>by cases h) hK;have h3:ru P o (iU P ops rest K) s1:=by
     unfold Ou at hb;rw[hg]at hb;simp only at hb;unfold ru;split at hb
     ·next e ho=>
      rw[aoU,beq_iff_eq]at hb;obtain⟨rfl,hb⟩:=hb;rw[ho];simp only;split at hb
      ·next z hz=>
       rw[hz];simp only;refine⟨?_,h2⟩;split at hb
       ·next hc=>exact Array.toList_inj.1 hc
       ·cases hb
      ·cases hb
     ·next e x ho=>
      rw[aoU,beq_iff_eq]at hb;obtain⟨rfl,hb⟩:=hb;rw[ho];simp only;split at hb
      ·next hx=>exact⟨hx,h2⟩
      ·cases hb
     ·cases hb
    have h4:iU P ops (o::rest) K s1:=Rx hg h3;rw[hl];exact ab2 (ops.toList.take k) 0 s [] e1 (λ_ h=>by cases h) h4
   ·cases h
  ·cases h
 ·cases h
def N1(T e:Nat)(s:St):St:=match s.h[s.h.length-1]? with
 |some (.aT T' [.d (.v (.slice none 0 0))])=>bif T'==T then⟨s.n,s.t,(s.h++[an.bg e (bs [])]).set (s.h.length-1) (an.aT T [AV.vec s.h.length 0 0 0 1])⟩else s
 |_=>s
theorem ai4{P:apK}{r:apJ Nat}{N0:Nat}{s:St}{Q:Exit->St->Prop}{c:Code}(T e:Nat)(h:bj P r N0 c Q (N1 T e s)):bj P r N0 c Q s:=by
 unfold N1 at h;split at h
 ·next T' hb=>
  cases ht:T'==T with
  |true=>
   rw[ht]at h;rw[beq_iff_eq]at ht;subst ht;exact amx _ e hb h
  |false=>rw[ht]at h;exact h
 ·exact h
def S9(P:apK)(T k:Nat):WO->apJ St
 |some (.at (.region _ ops false) K s,_)=>bif (wq K).isSome then OL P T k ops s else none
 |_=>none
def T6(s':St):WO->WO
 |some (.at _ K _,_)=>match wq K with
  |some (y,K')=>some (.at y K' s',[])
  |none=>none
 |_=>none
theorem yS{P:apK}{r:apJ Nat}{N0:Nat}{Q:Exit->St->Prop}{w0:WO}(T k e:Nat)(h:(S9 P T k w0).isSome=true)(kk:GW P r N0 Q (T6 (N1 T e ((S9 P T k w0).getD ⟨0,[],[]⟩)) w0)):GW P r N0 Q w0:=by
 obtain⟨s3,e1⟩:=Option.isSome_iff_exists.1 h;rw[e1]at kk;unfold S9 at e1;split at e1
 ·next id ops K s l=>
  obtain⟨hb,e1⟩:=mP e1;obtain⟨⟨y,K2⟩,hp⟩:=Option.isSome_iff_exists.1 hb;constructor
  have k:=kk.run;simp only[T6,hp,Option.getD_some]at k;show bj P r N0 (.region id ops false) (gC P r N0 Q K) s;exact fy (ajm e1 (FB hp (ai4 T e k)))
 ·cases e1
inductive dX(P:Program):TypeId->List D->Prop
 |bool {t:TypeId} (b:Bool) (h:P.underlying t=some .bool):dX P t [.v (.bool b)]
 |int {t:TypeId} {k:IntKind} (n:Int) (h:P.underlying t=some (.int k)) (w:(Lit.int k n).wf=true):dX P t [.v (.int k n)]
 |str {t:TypeId} (s:ByteArray) (h:P.underlying t=some .string) (w:s.size<=maxLen):dX P t [.v (.string s)]
 |sl {t e:TypeId} (xs:List (List D)) (h:P.underlying t=some (.slice e)) (w:xs.length<=140737488355328) (hx:∀x∈xs,dX P e x):dX P t [.sl xs]
 |struct {t:TypeId} {fs:Array Field} (parts:List (List D)) (h:P.underlying t=some (.struct fs)) (hl:parts.length=fs.size) (hx:∀(i:Nat)(f:Field)(x:List D),fs[i]?=some f->parts[i]?=some x->dX P f.type x):dX P t parts.flatten
section
variable {P:apK} {t:TypeId} {xs:apH D}
theorem dX.afW(h:dX P t xs)(ht:P.underlying t=some .bool):∃b,xs=[.v (.bool b)]:=by
 cases h with
 |bool b h=>exact⟨b,rfl⟩
 |int n h=>rw[ht]at h;cases h
 |str s h=>rw[ht]at h;cases h
 |sl l h=>rw[ht]at h;cases h
 |struct p h=>rw[ht]at h;cases h
theorem dX.oX{k:IntKind}(h:dX P t xs)(ht:P.underlying t=some (.int k)):∃n,xs=[.v (.int k n)]/\k.min<=n/\n<=k.max:=by
 cases h with
 |bool b h=>rw[ht]at h;cases h
 |int n h w=>
  rw[ht]at h;cases h;unfold Lit.wf at w;simp only[aoU,decide_eq_true_eq]at w;exact⟨n,rfl,w⟩
 |str s h=>rw[ht]at h;cases h
 |sl l h=>rw[ht]at h;cases h
 |struct p h=>rw[ht]at h;cases h
theorem dX.vC(h:dX P t xs)(ht:P.underlying t=some .string):∃s,xs=[.v (.string s)]/\s.size<=maxLen:=by
 cases h with
 |bool b h=>rw[ht]at h;cases h
 |int n h=>rw[ht]at h;cases h
 |str s h w=>exact⟨s,rfl,w⟩
 |sl l h=>rw[ht]at h;cases h
 |struct p h=>rw[ht]at h;cases h
theorem dX.rb{e:TypeId}(h:dX P t xs)(ht:P.underlying t=some (.slice e)):∃l,xs=[.sl l]/\l.length<=140737488355328/\∀x∈l,dX P e x:=by
 cases h with
 |bool b h=>rw[ht]at h;cases h
 |int n h=>rw[ht]at h;cases h
 |str s h=>rw[ht]at h;cases h
 |sl l h w hx=>rw[ht]at h;cases h;exact⟨l,rfl,w,hx⟩
 |struct p h=>rw[ht]at h;cases h
theorem dX.oW{fs:Array Field}(h:dX P t xs)(ht:P.underlying t=some (.struct fs)):∃parts:apH (apH D),xs=parts.flatten/\parts.length=fs.size/\∀(i:Nat)(f:Field)(x:apH D),fs[i]?=some f->parts[i]?=some x->dX P f.type x:=by
 cases h with
 |bool b h=>rw[ht]at h;cases h
 |int n h=>rw[ht]at h;cases h
 |str s h=>rw[ht]at h;cases h
 |sl l h=>rw[ht]at h;cases h
 |struct p h hl hx=>rw[ht]at h;cases h;exact⟨p,rfl,hl,hx⟩
theorem qy{α:Type}{f:α->apH D}{Q:α->Prop}:∀l:apH (apH D),(∀x∈l,∃a,x=f a/\Q a)->∃r:apH α,l=r.map f/\∀a∈r,Q a
 |[],_=>⟨[],rfl,λ_ h=>by cases h⟩
 |x::l,h=>by
  obtain⟨a,rfl,ha⟩:=h x aoY;obtain⟨r,rfl,hr⟩:=qy l λy hy=>h y (ao1 _ hy);refine⟨a::r,rfl,λb hb=> ?_⟩;rcases apm.1 hb with rfl|hb
  ·exact ha
  ·exact hr b hb
end
def Qh(P:apK)(S:apH TypeId):Bool:=S.all λt=>match P.underlying t with
 |some .bool|some (.int _)|some .string=>true
 |some (.slice e)=>S.contains e&&(decide (0<P.cellsOf e)&&decide (0<P.bytesOf e))
 |some (.struct fs)=>P.consecB fs.toList 0 (P.cellsOf t)&&fs.toList.all λf=>S.contains f.type
 |_=>false
def jC(S:Nat->Nat->Prop)(w:apM)(cs:apH apL)(xs:apH D):Prop:=xs.length=cs.length/\∀(i:Nat)(u:apL)(x:D),cs[i]?=some u->xs[i]?=some x->dd S w u x/\u.oneCell'=true
theorem jC.nil{S:Nat->Nat->Prop}{w:apM}:jC S w [] []:=⟨rfl,λi u x h=>by simp at h⟩
theorem jC.one{S:Nat->Nat->Prop}{w:apM}{u:apL}{x:D}(h:dd S w u x)(h1:u.oneCell'=true):jC S w [u] [x]:=⟨rfl,λi v y hv hy=>by
 cases i with
 |zero=>cases hv;cases hy;exact⟨h,h1⟩
 |succ i=>simp at hv⟩
theorem jC.app{S:Nat->Nat->Prop}{w:apM}{a b:apH apL}{x y:apH D}(h:jC S w a x)(k:jC S w b y):jC S w (a++b) (x++y):=by
 refine⟨by simp [h.1,k.1],λi u z hu hz=> ?_⟩;by_cases hi:i<a.length
 ·rw[ao2 hi]at hu;rw[ao2 (by rw[h.1];exact hi)]at hz;exact h.2 i u z hu hz
 ·rw[ao8 (by omega)]at hu;rw[ao8 (by rw[h.1];omega),h.1]at hz;exact k.2 _ u z hu hz
theorem aaI{α:Type}{Q:Nat->α->Prop}:∀n:Nat,(∀i,i<n->∃x,Q i x)->∃l:apH α,l.length=n/\∀i x,l[i]?=some x->Q i x
 |0,_=>⟨[],rfl,λi x h=>by simp at h⟩
 |n+1,h=>by
  obtain⟨l,h1,h2⟩:=aaI n λi hi=>h i (by omega);obtain⟨x,hx⟩:=h n (by omega);refine⟨l++[x],by simp [h1],λi y hy=> ?_⟩;by_cases hi:i<l.length
  ·rw[ao2 hi]at hy;exact h2 i y hy
  ·rw[ao8 (by omega)]at hy;have:i-l.length=0:=by
     by_cases e:i-l.length=0
     ·exact e
     ·rw[apo (by simp;omega)]at hy;cases hy
   rw[this]at hy;cases hy;have:i=n:=by omega
   rw[this];exact hx
theorem acF{a:Addr}(h:a.spot=none)(n:Nat):a.add n=⟨a.block,a.off+n,none⟩:=by
 unfold Addr.add;split
 ·next e=>subst e;cases a;simp only at h;subst h;rfl
 ·rfl
section
variable {H:Type} {enc:TypeId×apL->H} {P:apK} {W:apM} {Ts:apH TypeId}
abbrev rX(W:apM):Nat->Nat->Prop:=λb _=>b<W.heap.size
theorem aon{S:Nat->Nat->Prop}{w:apM}:dd S w (.slice none 0 0) (.sl []):=
 .sl none 0 0 0 0 [] (λ_ _=>undef) (λh=>absurd rfl h) (ao3 _) (by simp) (λ_ h=>by cases h) (λi j hi=>by simp at hi) (λi j x d hx=>by simp at hx)
theorem Zt{e:TypeId}:∀{l:apH (DataW H)}{d:DataW H},d∈l->∀n∈d.weights P e,n∈DataW.weightsAll P e l
 |[],_,h,_,_=>by cases h
 |x::l,d,h,n,hn=>by
  simp only[DataW.weightsAll,apv];rcases apm.1 h with rfl|h
  ·exact .inl hn
  ·exact .inr (Zt h n hn)
theorem Zk{fuel:Nat}(IH:∀(t:TypeId)(cs:apH apL)(d:DataW H)(ps:apH MemPlace),t∈Ts->(∀n∈d.weights P t,n<=reachBytes)->DataW.trod enc P W 0 (λ_=>true) true fuel t cs=some (d,ps)->∃xs,dX P t xs/\jC (rX W) W cs xs)(cs:apH apL):
 ∀(fs:apH Field)(off:Nat)(ys:apH (DataW H×apH MemPlace)),P.consecB fs off cs.length=true->(∀f∈fs,f.type∈Ts)->(∀n∈DataW.weightsEach P (fs.map (·.type)) (ys.map (·.1)),n<=reachBytes)->
  fs.mapM (λf=>DataW.trod enc P W 0 (λ_=>true) true fuel f.type ((cs.drop f.offset).take (P.cellsOf f.type)))=some ys->
  ∃parts:apH (apH D),parts.length=fs.length/\(∀(i:Nat)(f:Field)(x:apH D),fs[i]?=some f->parts[i]?=some x->dX P f.type x)/\jC (rX W) W (cs.drop off) parts.flatten
 |[],off,ys,hc,_,_,_=>by
  simp only[Program.consecB,beq_iff_eq]at hc;refine⟨[],rfl,λi f x h=>by simp at h,?_⟩;rw[List.drop_eq_nil_iff.2 (by omega)];exact jC.nil
 |f::fs,off,ys,hc,hS,hw,hm=>by
  simp only[Program.consecB,aoU,beq_iff_eq]at hc;obtain⟨al6,hc⟩:=hc;rw[List.mapM_cons]at hm;cases hx:DataW.trod enc P W 0 (λ_=>true) true fuel f.type ((cs.drop f.offset).take (P.cellsOf f.type))with
  |none=>simp [hx]at hm
  |some p=>
   cases lJ:fs.mapM (λf=>DataW.trod enc P W 0 (λ_=>true) true fuel f.type ((cs.drop f.offset).take (P.cellsOf f.type)))with
   |none=>simp [hx,lJ]at hm
   |some ps=>
    obtain⟨d,q⟩:=p;obtain rfl:(d,q)::ps=ys:=by simpa [hx,lJ]using hm
    simp only[aph,DataW.weightsEach,apv]at hw;obtain⟨x,h1,h2⟩:=IH f.type _ d q (hS f aoY) (λn hn=>hw n (.inl hn)) hx;obtain⟨parts,k1,k2,k3⟩:=Zk IH cs fs (off+P.cellsOf f.type) ps hc (λg hg=>hS g (ao1 _ hg)) (λn hn=>hw n (.inr hn)) lJ;refine⟨x::parts,by simp [k1],λi g y hg hy=> ?_,?_⟩
    ·cases i with
     |zero=>cases hg;cases hy;exact h1
     |succ i=>exact k2 i g y (by simpa using hg) (by simpa using hy)
    ·rw[List.flatten_cons];rw[al6]at h2;have:=h2.app k3
     rwa [take_drop_step]at this
theorem Ur(hT:Qh P Ts=true):∀(fuel:Nat)(t:TypeId)(cs:apH apL)(d:DataW H)(ps:apH MemPlace),t∈Ts->(∀n∈d.weights P t,n<=reachBytes)->DataW.trod enc P W 0 (λ_=>true) true fuel t cs=some (d,ps)->∃xs,dX P t xs/\jC (rX W) W cs xs
 |0,t,cs,d,ps,_,_,h=>by simp [DataW.trod]at h
 |fuel+1,t,cs,d,ps,ht,wi,h=>by
  have IH:=Ur hT fuel;have ni:=api.1 hT t ht;unfold DataW.trod at h;split at h
  ·next b e=>exact⟨_, .bool b e,jC.one (.v _) rfl⟩
  ·next k k' n e=>
   split at h
   ·next hk=>obtain⟨rfl,hw⟩:=hk;exact⟨_, .int n e hw,jC.one (.v _) rfl⟩
   ·cases h
  ·next e=>rw[e]at ni;cases ni
  ·next s e=>
   split at h
   ·next hw=>exact⟨_, .str s e hw,jC.one (.v _) rfl⟩
   ·cases h
  ·next e=>rw[e]at ni;cases ni
  ·next e=>rw[e]at ni;cases ni
  ·next e e1=>exact⟨_, .sl [] e1 (Nat.zero_le _) (λx hx=>absurd hx apz),jC.one aon rfl⟩
  ·next e a len cap e1=>
   rw[e1]at ni;simp only[aoU,List.contains_iff_mem,decide_eq_true_eq]at ni;obtain⟨hme,Rj,ql⟩:=ni;simp only at h;split at h
   ·next hb=>
    obtain⟨_,kW,yb⟩:=hb;rw[Option.bind_eq_some_iff]at h;obtain⟨elems,F7,zG⟩:=h;rw[Option.map_eq_some_iff]at zG;obtain⟨rest,_,zG⟩:=zG;cases zG
    simp only[DataW.weights,e1,apm,apv,aoX]at wi;have hlen:elems.length=len:=by simpa using mapM_some_length F7
    have hQ:∀i,i<len->∃x:apH D,dX P e x/\∃bJ,W.cells? 0 (a.add (i*P.cellsOf e)) (P.cellsOf e)=some bJ/\jC (rX W) W bJ x:=λi hi=>by
     have h1:=mapM_some_get F7 i i (by simp [hi]);rw[aoW (by omega)]at h1;rw[Option.bind_eq_some_iff]at h1;obtain⟨bJ,h2,h3⟩:=h1;obtain⟨x,h4,h5⟩:=IH e bJ elems[i].1 elems[i].2 hme (λn hn=>wi n (.inr (.inl (Zt (List.mem_map.2 ⟨_,List.getElem_mem _,rfl⟩) n hn)))) h3;exact⟨x,h4,bJ,h2,h5⟩
    obtain⟨xs,yr,Xv⟩:=aaI len hQ;have ZA:xs≠ []->a.spot=none:=λcp=>by
     have h0:0<len:=by cases xs with|nil=>exact(cp rfl).elim|cons x l=>simp at yr;omega
     obtain⟨x,_,bJ,h2,_⟩:=hQ 0 h0;obtain⟨_,h3,h4⟩:=World.cells?_some h2;have h5:=h4 0 Rj;rw[Nat.zero_mul]at h5;have e0:(a.add 0).add 0=a:=by simp [Addr.add]
     rw[e0,aoW (by omega)]at h5;unfold World.cell? at h5;split at h5
     ·split at h5
      ·cases h5
      ·next hn=>simpa using hn
     ·cases h5
    have gz:∀i x,xs[i]?=some x->x.length=P.cellsOf e/\∀j,j<P.cellsOf e->∃u,W.cell? ⟨a.block,a.off+i*P.cellsOf e+j,none⟩=some u/\u.oneCell'=true/\∀d,x[j]?=some d->dd (rX W) W u d:=λi x hx=>by
     obtain⟨_,bJ,h2,h3⟩:=Xv i x hx;obtain⟨_,h4,h5⟩:=World.cells?_some h2;have hs:=ZA (λe=>by rw[e]at hx;simp at hx);refine⟨h3.1.trans h4,λj hj=> ?_⟩;have h6:=h5 j hj;rw[acF hs,acF rfl,aoW (by omega)]at h6;have hjx:j<x.length:=by rw[h3.1,h4];exact hj
     have hd:x[j]?=some x[j]:=aoW hjx;have h7:=h3.2 j _ _ (aoW (by omega)) hd;exact⟨_,h6,h7.2,λd gy=>by rw[hd]at gy;cases gy;exact h7.1⟩
    have aj8:xs.length<=140737488355328:=by
     have h1:=wi _ (.inl rfl);have h2:(elems.length+rest.length)*1<=(elems.length+rest.length)*P.bytesOf e:=Nat.mul_le_mul_left _ ql;have h3:reachBytes<=140737488355328:=by decide
     omega
    refine⟨[.sl xs], .sl xs e1 aj8 (λx hx=> ?_),jC.one ?_ rfl⟩
    ·obtain⟨i,hi,rfl⟩:=List.mem_iff_getElem.1 hx;exact(Xv i _ (aoW hi)).1
    ·rw[<-yr];refine .sl (some a) a.block a.off cap (P.cellsOf e) xs (λi j=>(W.cell? ⟨a.block,a.off+i*P.cellsOf e+j,none⟩).getD undef) (λcp=> ?_) (by omega) yb (λx hx=> ?_) (λi j hi hj=> ?_) λi j x d hx hd=> ?_
     ·have:=ZA cp;cases a;simp only at this;subst this;rfl
     ·obtain⟨i,hi,rfl⟩:=List.mem_iff_getElem.1 hx;exact(gz i _ (aoW hi)).1
     ·obtain⟨u,h1,h2,_⟩:=(gz i _ (aoW hi)).2 j hj;refine⟨World.block_lt_of_cell? W ⟨a.block,a.off+i*P.cellsOf e+j,none⟩ h1,?_,?_⟩
      ·rw[h1];rfl
      ·rw[h1];exact h2
     ·obtain⟨hl,hc⟩:=gz i x hx;obtain⟨u,h1,_,h3⟩:=hc j (by rw[<-hl];exact(aoS.1 hd).1);simp only[h1,Option.getD_some];exact h3 d hd
   ·cases h
  ·next bJ fs e1=>
   rw[e1]at ni;simp only[aoU,api,List.contains_iff_mem]at ni;split at h
   ·next hl=>
    rw[Option.map_eq_some_iff]at h;obtain⟨ys,hm,zG⟩:=h;cases zG
    simp only[DataW.weights,e1]at wi;obtain⟨parts,k1,k2,k3⟩:=Zk IH _ fs.toList 0 ys (by rw[hl];exact ni.1) ni.2 wi hm;exact⟨_, .struct parts e1 (by simpa using k1) (λi f x hf=>k2 i f x (by simpa using hf)),by simpa using k3⟩
   ·cases h
  all_goals first|(cases h;done)|(exfalso;revert ni;(next e=>rw[e];intro h0;cases h0))
theorem Tv{t:TypeId}{v:apL}{d:DataW H}{ps:apH MemPlace}(hT:Qh P Ts=true)(hm:t∈Ts)(hw:∀n∈d.weights P t,n<=reachBytes)(h:DataW.Trod enc P W 0 (λ_=>true) true t v d ps):∃xs,dX P t xs/\jC (rX W) W v.cells.toList xs:=
 let ⟨fuel,h⟩:=h
 Ur hT fuel t _ d ps hm hw h
theorem aoy{t:TypeId}{fs:Array Field}{v:apL}{r:Reach}{base:Nat}(ht:P.underlying t=some (.struct fs))(h:Value.okWide P W r base t v):∃cs,v= .agg cs:=by
 unfold Value.okWide at h;rw[ht]at h;obtain⟨cs,rfl,_⟩:=h;exact⟨cs,rfl⟩
theorem aik{G:Gh}(hS:G.S=rX W){cs:Array apL}{xs:apH D}(h:jC (rX W) W cs.toList xs):aD G W (.agg cs) (.agg (xs.map .d)):=by
 refine .agg cs _ (by rw[aoX,h.1,apq]) λi u c hu hc=> ?_;rw[aoZ]at hc;cases hx:xs[i]? with
 |none=>rw[hx]at hc;cases hc
 |some x=>
  rw[hx]at hc;cases hc
  exact .d (hS▸(h.2 i u x (by rw[apf];exact hu) hx).1)
theorem ai6{G:Gh}(hS:G.S=rX W){v:apL}{x:D}(h:jC (rX W) W #[v].toList [x]):aD G W v (.d x):= .d (hS▸(h.2 0 v x rfl rfl).1)
end
end Go.Proofs.YtmkmibahjanejaaGreatDoor
