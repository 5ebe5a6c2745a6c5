/-
  Part 4 of the proof: AbsWk, OpenD.
-/
import Derived.Test.YtnnapanbbbcalaaGreatDoorPp3
import Derived.ProofKit
import Derived.DataOpen
import Derived.SizedLaws
namespace Go.Proofs.YtnnapanbbbcalaaGreatDoor
open Go.RowKit
set_option linter.unusedSimpArgs false
set_option linter.unusedVariables false
def Im{α:Type}(x:AV)(k:AV->α):α:=
 match x with
 | .d y=>k (.d y)
 | .agg cs=>k (.agg cs)
 | .aY cs=>k (.aY cs)
 | .ptr n o=>fN n λn=>fN o λo=>k (.ptr n o)
 | .own n xs=>fN n λn=>k (.own n xs)
 | .fn f cs=>k (.fn f cs)
 | .mp n=>fN n λn=>k (.mp n)
 |x=>k x
theorem VS{α:Type}(x:AV)(k:AV->α):Im x k=k x:=by cases x<;>simp [Im,yT]
def fT{α:Type}:amT (Nat×AV)->(amT (Nat×AV)->α)->α
 |[],k=>k []
 |(d,x)::l,k=>fN d λd=>Im x λx=>fT l λl=>k ((d,x)::l)
theorem T9{α:Type}:∀(l:amT (Nat×AV))(k:amT (Nat×AV)->α),fT l k=k l
 |[],k=>rfl
 |(d,x)::l,k=>by rw[fT,yT,VS,T9 l]
def fC{α:Type}:amT AV->(amT AV->α)->α
 |[],k=>k []
 |x::l,k=>Im x λx=>fC l λl=>k (x::l)
theorem UF{α:Type}:∀(l:amT AV)(k:amT AV->α),fC l k=k l
 |[],k=>rfl
 |x::l,k=>by rw[fC,VS,UF l]
def fH{α:Type}:amT aq->(amT aq->α)->α
 |[],k=>k []
 | .cells cs::l,k=>fC cs λcs=>fH l λl=>k (.cells cs::l)
 | .front e z n::l,k=>fH l λl=>k (.front e z n::l)
 | .map kv::l,k=>fH l λl=>k (.map kv::l)
 | .gone::l,k=>fH l λl=>k (.gone::l)
 |B::l,k=>fH l λl=>k (B::l)
theorem pn{α:Type}:∀(l:amT aq)(k:amT aq->α),fH l k=k l
 |[],k=>rfl
 | .cells cs::l,k=>by rw[fH,UF,pn l]
 | .front e z n::l,k=>by rw[fH,pn l]
 | .map kv::l,k=>by rw[fH,pn l]
 | .gone::l,k=>by rw[fH,pn l]
 | .iC .. ::l,k=>by rw[fH,pn l]<;>simp
 | .vec .. ::l,k=>by rw[fH,pn l]<;>simp
 | .lp .. ::l,k=>by rw[fH,pn l]<;>simp
 | .it .. ::l,k=>by rw[fH,pn l]<;>simp
 | .eR .. ::l,k=>by rw[fH,pn l]<;>simp
 | .iy .. ::l,k=>by rw[fH,pn l]<;>simp
def O1{α:Type}(s:St)(k:St->α):α:=fN s.n λn=>fT s.t λt=>fH s.h λh=>k ⟨n,t,h⟩
theorem abz{α:Type}(s:St)(k:St->α):O1 s k=k s:=by unfold O1;rw[yT,T9,pn]
inductive Fr
 |S (y:Code)
 |B (id:Nat)
 |F (k:Nat) (f:St->Prop)
def den(P:amW)(r:amV Nat)(N0:Nat)(Q:Exit->St->Prop):amT Fr->Exit->St->Prop
 |[]=>Q
 | .S y::K=>ig (λs=>bB P r N0 y (den P r N0 Q K) s) (den P r N0 Q K)
 | .B id::K=>qc id (den P r N0 Q K)
 | .F _ f::K=>ig f (den P r N0 Q K)
inductive Md
 |c (c:Code)
 |n
 |x (id:Nat)
inductive WR
 |at (c:Code) (K:List Fr) (s:St)
 |ret (s:St)
 |nrm (s:St)
 |fin (k:Nat) (s:St)
abbrev WO:=amV (WR×amT (In×bX))
def Kb(l:amT (In×bX)):WO->WO
 |some (w,m)=>some (w,l++m)
 |none=>none
def mG(P:amW):Nat->Md->amT Fr->amT (amT (Nat×bX))->St->WO
 |0,_,_,_,_=>none
 |F+1,m,K,A,s=>match m with
  | .n=>match K with
    |[]=>some (.nrm s,[])
    | .S y::K=>mG P F (.c y) K A s
    | .B _::K=>mG P F .n K A s
    | .F k _::_=>some (.fin k s,[])
  | .x id=>match K with
    |[]=>none
    | .S _::K=>mG P F (.x id) K A s
    | .B qi::K=>mG P F (bif id==qi then .n else .x id) K A s
    | .F _ _::K=>mG P F (.x id) K A s
  | .c c=>match c with
    | .seq a b=>mG P F (.c a) (.S b::K) A s
    | .block id b=>mG P F (.c b) (.B id::K) A s
    | .skip=>mG P F .n K A s
    | .ret=>some (.ret s,[])
    | .exit id=>mG P F (.x id) K A s
    | .region id ops dr=>match A with
      |[]=>some (.at (.region id ops dr) K s,[])
      |as::A=>bif !dr||qO ops then match oC P ops dr ops.toList 0 as s with
         |some (s1,l)=>O1 s1 λs1=>Kb l (mG P F .n K A s1)
         |none=>none
       else none
    | .cond o x y=>match A with
      |[]=>some (.at (.cond o x y) K s,[])
      |as::A=>match iL as 0 with
       | .bit b=>Kb [(.bit (ev s o), .bit b)] (mG P F (.c (bif b then x else y)) K A s)
       |_=>none
    |c=>match A with
     |[]=>some (.at c K s,[])
     |_=>none
section
variable {P:amW} {r:amV Nat} {N0:Nat} {Q:Exit->St->Prop}
theorem Hp:∀(K:amT Fr)(s:St),Q .ret s->den P r N0 Q K .ret s
 |[],_,h=>h
 | .S _::K,s,h=>Hp K s h
 | .B _::K,s,h=>Hp K s h
 | .F _ _::K,s,h=>Hp K s h
def afO(P:amW)(r:amV Nat)(N0:Nat)(Q:Exit->St->Prop)(m:Md)(K:amT Fr)(s:St):Prop:=
 match m with
 | .c c=>bB P r N0 c (den P r N0 Q K) s
 | .n=>den P r N0 Q K .normal s
 | .x id=>den P r N0 Q K (.exit id) s
def DW(P:amW)(r:amV Nat)(N0:Nat)(Q:Exit->St->Prop)(K0:amT Fr):WR->Prop
 | .at c K s=>bB P r N0 c (den P r N0 Q K) s
 | .ret s=>Q .ret s
 | .nrm s=>Q .normal s
 | .fin k s=>∀f,Fr.F k f∈K0->f s
theorem DW.sub{K K':amT Fr}(h:∀k f,Fr.F k f∈K'->Fr.F k f∈K):∀{w:WR},DW P r N0 Q K w->DW P r N0 Q K' w
 | .at _ _ _,hp=>hp
 | .ret _,hp=>hp
 | .nrm _,hp=>hp
 | .fin k _,hp=>λf hf=>hp f (h k f hf)
theorem XZ{l m:amT (In×bX)}{x:WO}{w:WR}(h:Kb l x=some (w,m))(bW:gi P m):∃n,x=some (w,n)/\gi P n/\gi P l:=by
 unfold Kb at h;split at h
 ·next w' n=>
  cases h
  exact⟨n,rfl,λp hp=>bW p (List.mem_append_right _ hp),λp hp=>bW p (List.mem_append_left _ hp)⟩
 ·cases h
theorem Uw(hm:P.follows .mixedOrders=true):∀(F:Nat)(m:Md)(K:amT Fr)(A:amT (amT (Nat×bX)))(s:St)(w:WR)(l:amT (In×bX)),mG P F m K A s=some (w,l)->gi P l->DW P r N0 Q K w->afO P r N0 Q m K s
 |0,_,_,_,_,_,_,h,_,_=>by simp [mG]at h
 |F+1,m,K,A,s,w,l,h,bW,hp=>by
  have ih:=Uw hm F;have tl:∀{x:Fr}{K:amT Fr},∀k f,Fr.F k f∈K->Fr.F k f∈x::K:=λ_ _ h=>ame _ h;have pS:∀{y:Code}{K:amT Fr},∀k f,Fr.F k f∈Fr.S y::K->Fr.F k f∈K:=λk f h=>by
   rcases amz.1 h with h|h
   ·cases h
   ·exact h
  have pB:∀{y:Nat}{K:amT Fr},∀k f,Fr.F k f∈Fr.B y::K->Fr.F k f∈K:=λk f h=>by
   rcases amz.1 h with h|h
   ·cases h
   ·exact h
  unfold mG at h;cases m with
  |n=>
   cases K with
   |nil=>cases h;exact hp
   |cons x K=>
    cases x with
    |S y=>exact ih (.c y) K _ _ _ _ h bW (hp.sub tl)
    |B id=>exact ih .n K _ _ _ _ h bW (hp.sub tl)
    |F k f=>cases h;exact hp _ amb
  |x id=>
   cases K with
   |nil=>cases h
   |cons x K=>
    cases x with
    |S y=>exact ih (.x id) K _ _ _ _ h bW (hp.sub tl)
    |B qi=>
     show(bif id==qi then den P r N0 Q K .normal s else den P r N0 Q K (.exit id) s);simp only at h;cases e:id==qi with
     |true=>rw[e]at h;exact ih .n K _ _ _ _ h bW (hp.sub tl)
     |false=>rw[e]at h;exact ih (.x id) K _ _ _ _ h bW (hp.sub tl)
    |F k f=>exact ih (.x id) K _ _ _ _ h bW (hp.sub tl)
  |c c=>
   simp only at h;split at h
   ·exact au (ih (.c _) (.S _::K) _ _ _ _ h bW (hp.sub pS))
   ·exact dn (ih (.c _) (.B _::K) _ _ _ _ h bW (hp.sub pB))
   ·exact ct (ih .n _ _ _ _ _ h bW hp)
   ·cases h;exact cU (Hp K s hp)
   ·exact kW (ih (.x _) _ _ _ _ _ h bW hp)
   ·next id ops dr=>
    split at h
    ·cases h;exact hp
    ·next as A=>
     obtain⟨hb,h⟩:=kR h;split at h
     ·next s1 l1 e=>
      rw[abz]at h;obtain⟨n,e2,h2,h3⟩:=XZ h bW;have hk:=ih .n _ _ _ _ _ e2 h2 hp;have dK:=vh (P:=P) (ops:=ops) (dr:=dr) (K:=den P r N0 Q K .normal) ops.toList 0 s l1 e h3 hk;cases dr with
      |false=>exact e9 dK
      |true=>
       have hl:qO ops.toList.toArray=true:=by simpa using hb
       have:=GF (P:=P) (r:=r) (N0:=N0) (Q:=den P r N0 Q K) (s:=s) (id:=id) (l:=ops.toList) hm hl (by simpa using dK);show bB P r N0 (.region id ops true) (den P r N0 Q K) s
       simpa using this
     ·cases h
   ·next o x y=>
    split at h
    ·cases h;exact hp
    ·next as A=>
     split at h
     ·next b e=>
      obtain⟨n,e2,h2,h3⟩:=XZ h bW;have h4:=OK.GM (h3 (_,_) amb);have hk:=ih (.c _) _ _ _ _ _ e2 h2 hp;exact M6 h4 (λe=>by subst e;exact hk) (λe=>by subst e;exact hk)
     ·cases h
   ·split at h
    ·cases h;exact hp
    ·cases h
end
def wK:WO->amT Fr
 |some (.at _ K _,_)=>K
 |_=>[]
def wS:WO->St
 |some (.at _ _ s,_)=>s
 |_=>⟨0,[],[]⟩
def ko(k:Nat):amT Fr->amT (St->Prop)
 |[]=>[]
 | .F k' f::K=>bif k'==k then f::ko k K else ko k K
 |_::K=>ko k K
theorem Ck{k:Nat}{f:St->Prop}:∀{K:amT Fr},Fr.F k f∈K->f∈ko k K
 |[],h=>by cases h
 | .S _::K,h=>by
   rcases amz.1 h with h|h
   ·cases h
   ·exact Ck (K:=K) h
 | .B _::K,h=>by
   rcases amz.1 h with h|h
   ·cases h
   ·exact Ck (K:=K) h
 | .F k' g::K,h=>by
   rcases amz.1 h with h|h
   ·cases h;simp [ko]
   ·unfold ko;cases k'==k with
    |true=>exact ame _ (Ck h)
    |false=>exact Ck h
def sD:WO->amV (amT (In×bX))
 |some (.at _ _ _,l)=>some l
 |_=>none
def lU(live:amT Nat)(m:Nat):WO->amV (St×amT (In×bX))
 |some (.at (.loop _) _ s,l)=>(jU s live m).map (·,l)
 |_=>none
def Ct(live:amT Nat)(m:Nat)(ks:amT Nat)(kn:amT (Nat×Nat)):WO->amV (St×amT (In×bX))
 |some (.at (.loop _) _ s,l)=>(mw s live m ks kn).map (·,l)
 |_=>none
def vD:WO->amV (amT (In×bX))
 |some (.at _ (.S _::_) _,l)=>some l
 |_=>none
def pF(k:Nat)(live:amT Nat)(m:Nat):WO->amV (St×amT (In×bX))
 |some (.fin k' s,l)=>bif k'==k then(jU s live m).map (·,l)else none
 |_=>none
def Iq(k:Nat)(live:amT Nat)(m:Nat)(ks:amT Nat)(kn:amT (Nat×Nat)):WO->amV (St×amT (In×bX))
 |some (.fin k' s,l)=>bif k'==k then(mw s live m ks kn).map (·,l)else none
 |_=>none
def sM(P:amW)(rs:amT ResultVar):WO->amV (AV×amT (In×bX))
 |some (.ret s,l)=>(vx P rs s).map (·,l)
 |some (.nrm s,l)=>(vx P rs s).map (·,l)
 |_=>none
def JW(P:amW)(rs:amT ResultVar)(m:Nat):WO->amV ((AV×amT aq)×amT (In×bX))
 |some (.ret s,l)=>(w8 P rs m s).map (·,l)
 |some (.nrm s,l)=>(w8 P rs m s).map (·,l)
 |_=>none
def Aw:amT Fr->amV (Code×amT Fr)
 | .S y::K=>some (y,K)
 | .B _::K=>Aw K
 |_=>none
def Il(P:amW)(keep:amT Nat)(as:amT (Nat×bX)):WO->amV (amT (Nat×AV)×amT aq×amT (In×bX))
 |some (.at (.region _ ops dr) K s,_)=>bif (!dr||qO ops)&&(Aw K).isSome then qy P dr ops.toList as keep s else none
 |_=>none
def gL(k:Nat)(f:St->Prop)(s:St):WO->WO
 |some (.at (.loop b) K _,_)=>some (.at b (.F k f::K) s,[])
 |_=>none
def Ao(k:Nat)(f:St->Prop):WO->WO
 |some (.at c (.S _::K) s,_)=>some (.at c (.F k f::K) s,[])
 |_=>none
def zO(s:St):WO->WO
 |some (.at _ (.S y::K) _,_)=>some (.at y K s,[])
 |_=>none
def uR(Δ:amT (Nat×AV))(h':amT aq):WO->WO
 |some (.at _ K s,_)=>match Aw K with
  |some (y,K')=>some (.at y K' ⟨s.n,Δ++s.t,h'⟩,[])
  |none=>none
 |_=>none
def S4(f:St->St):WO->WO
 |some (.at c K s,l)=>some (.at c K (f s),l)
 |_=>none
def Zp:Nat:=4000
def wk(P:amW)(w:WO)(aA:amT (amT (Nat×Ob P))):WO:=
 match w with
 |some (.at c K s,_)=>mG P Zp (.c c) K (aA.map iV) s
 |_=>none
def dQ{P:amW}(aA:amT (amT (Nat×Ob P))):amT (In×bX):=aA.flatMap js
theorem afM{P:amW}(aA:amT (amT (Nat×Ob P))):gi P (dQ aA):=λp hp=>by
 obtain⟨l,_,h⟩:=List.mem_flatMap.1 hp;exact qb l p h
theorem ri{α β:Type}{x:amV α}{l:β}{y:α}{m:β}(h:x.map (·,l)=some (y,m)):x=some y/\l=m:=by
 cases x with
 |none=>cases h
 |some z=>cases h;exact⟨rfl,rfl⟩
def Es(P:amW)(r:amV Nat)(N0:Nat)(Q:Exit->St->Prop):WO->Prop
 |some (.at c K s,_)=>bB P r N0 c (den P r N0 Q K) s
 |_=>True
structure GW(P:Program)(r:Option Nat)(N0:Nat)(Q:Exit->St->Prop)(w:WO):Prop where
 run:Es P r N0 Q w
section
variable {P:amW} {r:amV Nat} {N0:Nat} {Q:Exit->St->Prop} {w0:WO}
theorem oI{aA:amT (amT (Nat×Ob P))}(hm:P.follows .mixedOrders=true){w:WR}(e:wk P w0 aA=some (w,dQ aA))(hp:∀K,(∀k f,Fr.F k f∈K->Fr.F k f∈wK w0)->DW P r N0 Q K w):GW P r N0 Q w0:=by
 constructor
 unfold wk at e;split at e
 ·next c K s l=>exact Uw hm Zp (.c c) K _ s w _ e (afM aA) (hp K λk f h=>h)
 ·cases e
theorem gK(hm:P.follows .mixedOrders=true)(aA:amT (amT (Nat×Ob P)))(k:GW P r N0 Q (wk P w0 aA))(e:sD (wk P w0 aA)=some (dQ aA):=by kernel_rfl):GW P r N0 Q w0:=by
 generalize hw:wk P w0 aA=w at e k;unfold sD at e;split at e
 ·cases e;exact oI hm hw λK _=>k.run
 ·cases e
theorem acG(hm:P.follows .mixedOrders=true){fn:Func}{R:AV}(aA:amT (amT (Nat×Ob P)))(e:sM P fn.results.toList (wk P w0 aA)=some (R,dQ aA)):GW P r N0 (kK P fn R) w0:=by
 generalize hw:wk P w0 aA=w at e;unfold sM at e;split at e
 ·obtain⟨e1,rfl⟩:=ri e;exact oI hm hw λK _=>e1
 ·obtain⟨e1,rfl⟩:=ri e;exact oI hm hw λK _=>e1
 ·cases e
theorem aaE(hm:P.follows .mixedOrders=true){fn:Func}{m:Nat}{R:AV}{H:amT aq}(aA:amT (amT (Nat×Ob P)))(e:JW P fn.results.toList m (wk P w0 aA)=some ((R,H),dQ aA)):GW P r N0 (s8 P fn m R H) w0:=by
 generalize hw:wk P w0 aA=w at e;unfold JW at e;split at e
 ·obtain⟨e1,rfl⟩:=ri e;exact oI hm hw λK _=>e1
 ·obtain⟨e1,rfl⟩:=ri e;exact oI hm hw λK _=>e1
 ·cases e
theorem wr(hm:P.follows .mixedOrders=true){fn:Func}{R:AV}(aA:amT (amT (Nat×Ob P)))(e:sM P fn.results.toList (wk P w0 aA)=some (R,dQ aA):=by kernel_rfl):GW P r N0 (kK P fn R) w0:=acG hm aA e
theorem mX(hm:P.follows .mixedOrders=true){fn:Func}{m:Nat}{R:AV}{H:amT aq}(aA:amT (amT (Nat×Ob P)))(e:JW P fn.results.toList m (wk P w0 aA)=some ((R,H),dQ aA):=by kernel_rfl):GW P r N0 (s8 P fn m R H) w0:=aaE hm aA e
structure HL{ι:Type}(k:Nat)(live:List Nat)(m:Nat)(st:ι->St)(I:ι->Prop)(μ:ι->Nat)(i0:ι)(f:St->Prop):Prop where
 h:∀s' i',jU s' live m=some (st i')->I i'->μ i'<μ i0->f s'
structure Hm{ι:Type}(k:Nat)(live:List Nat)(m:Nat)(ks:List Nat)(kn:List (Nat×Nat))(st:ι->St)(I:ι->Prop)(μ:ι->Nat)(i0:ι)(f:St->Prop):Prop where
 h:∀s' i',iS m (s'.h.take m)->mw s' live m ks kn=some (st i')->I i'->μ i'<μ i0->f s'
structure uX{ι:Type}(k:Nat)(live:List Nat)(m:Nat)(st:ι->St)(I:ι->Prop)(f:St->Prop):Prop where
 h:∀s' i',jU s' live m=some (st i')->I i'->f s'
theorem Ot(hm:P.follows .mixedOrders=true){k:Nat}{s1:St}{f:St->Prop}(aA:amT (amT (Nat×Ob P)))(e1:ko k (wK w0)=[f])(e:wk P w0 aA=some (.fin k s1,dQ aA))(hf:f s1):GW P r N0 Q w0:=
 oI hm e λK hK g hg=>by
  have:=Ck (hK k g hg);rw[e1,List.mem_singleton]at this;subst this;exact hf
theorem C0(hm:P.follows .mixedOrders=true){ι:Type}{live:amT Nat}{m k:Nat}{st:ι->St}{I:ι->Prop}{μ:ι->Nat}{i0:ι}{f:St->Prop}(hf:HL k live m st I μ i0 f)(i:ι)(aA:amT (amT (Nat×Ob P)))(hI:I i)(hμ:μ i<μ i0:=by exact amR _)(e1:ko k (wK w0)=[f]:=by kernel_rfl)(e:pF k live m (wk P w0 aA)=some (st i,dQ aA):=by kernel_rfl):GW P r N0 Q w0:=by
 generalize hw:wk P w0 aA=w at e;unfold pF at e;split at e
 ·next k' s' l=>
  obtain⟨hb,e⟩:=kR e;obtain⟨e2,rfl⟩:=ri e;rw[beq_iff_eq]at hb;subst hb;exact Ot hm aA e1 hw (hf.h _ i e2 hI hμ)
 ·cases e
def th:amT aq->amT (amT (amT AV))
 |[]=>[]
 | .vec _ _ cs::l=>cs::th l
 |_::l=>th l
structure VE(m:Nat) where
 x:List (List AV)
 ok:∀e k,(aq.vec e k x).yV m
def VE.IW{m:Nat}(xs:amT (amT D)):VE m:=⟨cg xs,λ_ _=>(lC (m:=m) (l:=[]) jD).1⟩
theorem Hw{m:Nat}:∀(l:amT aq)(hO:amT (VE m)),th l=hO.map VE.x->iS m l
 |[],_,_=>jD
 |B::l,hO,h=>by
  cases B with
  |vec e k cs=>
   cases hO with
   |nil=>cases h
   |cons v vs=>
    have h1:cs=v.x:=(List.cons.inj h).1;subst h1;exact⟨v.ok e k,Hw l vs (List.cons.inj h).2⟩
  |_=>exact⟨trivial,Hw l hO h⟩
def xd(m:Nat):WO->amT (amT (amT AV))
 |some (.fin _ s,_)=>th (s.h.take m)
 |some (.at _ _ s,_)=>th (s.h.take m)
 |_=>[]
theorem Ut(hm:P.follows .mixedOrders=true){ι:Type}{live:amT Nat}{m k:Nat}{ks:amT Nat}{kn:amT (Nat×Nat)}{st:ι->St}{I:ι->Prop}{μ:ι->Nat}{i0:ι}{f:St->Prop}(hf:Hm k live m ks kn st I μ i0 f)(i:ι)(aA:amT (amT (Nat×Ob P)))(hI:I i)(hμ:μ i<μ i0:=by exact amR _)(e1:ko k (wK w0)=[f]:=by kernel_rfl)(hO:amT (VE m):=[])(e0:xd m (wk P w0 aA)=hO.map VE.x:=by kernel_rfl)(e:Iq k live m ks kn (wk P w0 aA)=some (st i,dQ aA):=by kernel_rfl):GW P r N0 Q w0:=by
 generalize hw:wk P w0 aA=w at e e0;unfold Iq at e;split at e
 ·next k' s' l=>
  obtain⟨hb,e⟩:=kR e;obtain⟨e2,rfl⟩:=ri e;rw[beq_iff_eq]at hb;subst hb;exact Ot hm aA e1 hw (hf.h _ i (Hw _ hO e0) e2 hI hμ)
 ·cases e
theorem lg(hm:P.follows .mixedOrders=true){ι:Type}{live:amT Nat}{m k:Nat}{st:ι->St}{I:ι->Prop}{f:St->Prop}(hf:uX k live m st I f)(i:ι)(aA:amT (amT (Nat×Ob P)))(hI:I i)(e1:ko k (wK w0)=[f]:=by kernel_rfl)(e:pF k live m (wk P w0 aA)=some (st i,dQ aA):=by kernel_rfl):GW P r N0 Q w0:=by
 generalize hw:wk P w0 aA=w at e;unfold pF at e;split at e
 ·next k' s' l=>
  obtain⟨hb,e⟩:=kR e;obtain⟨e2,rfl⟩:=ri e;rw[beq_iff_eq]at hb;subst hb;exact Ot hm aA e1 hw (hf.h _ i e2 hI)
 ·cases e
theorem Js(hm:P.follows .mixedOrders=true){ι:Type}(k:Nat)(aA:amT (amT (Nat×Ob P)))(live:amT Nat)(m:Nat)(st:ι->St)(I:ι->Prop)(μ:ι->Nat)(i0:ι)(hI:I i0)
 (body:∀i,I i->∀f:St->Prop,HL k live m st I μ i f->GW P r N0 Q (gL k f (st i) (wk P w0 aA)))
 (hN:N0<=m:=by exact amd rfl) (e:lU live m (wk P w0 aA)=some (st i0,dQ aA):=by kernel_rfl):GW P r N0 Q w0:=by
 generalize hw:wk P w0 aA=w at e body;unfold lU at e;split at e
 ·next b K' s' l=>
  obtain⟨e2,rfl⟩:=ri e;refine oI hm hw λK _=> ?_;refine MH live m st I μ i0 hN e2 hI λi hi=> ?_;exact(body i hi _ ⟨λs' i' h1 h2 h3=>⟨i',h1,h2,h3⟩⟩).run
 ·cases e
theorem RR(hm:P.follows .mixedOrders=true){ι:Type}(k:Nat)(aA:amT (amT (Nat×Ob P)))(live:amT Nat)(m:Nat)(ks:amT Nat)(kn:amT (Nat×Nat))(st:ι->St)(I:ι->Prop)(μ:ι->Nat)(i0:ι)(hI:I i0)
 (body:∀i,I i->∀f:St->Prop,Hm k live m ks kn st I μ i f->GW P r N0 Q (gL k f (st i) (wk P w0 aA)))
 (hN:N0<=m:=by exact amd rfl) (hO:amT (VE m):=[]) (e0:xd m (wk P w0 aA)=hO.map VE.x:=by kernel_rfl) (e:Ct live m ks kn (wk P w0 aA)=some (st i0,dQ aA):=by kernel_rfl):GW P r N0 Q w0:=by
 generalize hw:wk P w0 aA=w at e e0 body;unfold Ct at e;split at e
 ·next b K' s' l=>
  obtain⟨e2,rfl⟩:=ri e;refine oI hm hw λK _=> ?_;refine KK live m ks kn st I μ i0 hN ⟨Hw _ hO e0,e2⟩ hI λi hi=> ?_;exact(body i hi _ ⟨λs' i' h0 h1 h2 h3=>⟨i',⟨h0,h1⟩,h2,h3⟩⟩).run
 ·cases e
theorem DK(hm:P.follows .mixedOrders=true){ι:Type}(k:Nat)(aA:amT (amT (Nat×Ob P)))(live:amT Nat)(m:Nat)(st:ι->St)(I:ι->Prop)
 (br:∀f:St->Prop,uX k live m st I f->GW P r N0 Q (Ao k f (wk P w0 aA)))
 (rest:∀i,I i->GW P r N0 Q (zO (st i) (wk P w0 aA))) (hN:N0<=m:=by exact amd rfl) (e:vD (wk P w0 aA)=some (dQ aA):=by kernel_rfl):GW P r N0 Q w0:=by
 generalize hw:wk P w0 aA=w at e br rest;unfold vD at e;split at e
 ·cases e
  refine oI hm hw λK _=> ?_;exact pe live m st I hN (br _ ⟨λs' i' h1 h2=>⟨i',h1,h2⟩⟩).run λi hi=>(rest i hi).run
 ·cases e
theorem Gb:∀{K:amT Fr}{y:Code}{K':amT Fr}{s:St},Aw K=some (y,K')->bB P r N0 y (den P r N0 Q K') s->den P r N0 Q K .normal s
 |[],_,_,_,h,_=>by cases h
 | .S y::K,_,_,_,h,k=>by cases h;exact k
 | .B _::K,_,_,s,h,k=>Gb (K:=K) (s:=s) h k
 | .F _ _::K,_,_,_,h,_=>by cases h
theorem aeh(hm:P.follows .mixedOrders=true)(Δ:amT (Nat×AV))(h':amT aq)(e:∃aA:amT (Nat×Ob P),Il P (Δ.map (·.1)) (iV aA) (wk P w0 [])=some (Δ,h',js aA))(k:GW P r N0 Q (uR Δ h' (wk P w0 [])))(e0:sD (wk P w0 [])=some []:=by kernel_rfl):GW P r N0 Q w0:=by
 generalize hw:wk P w0 []=w at e k e0;obtain⟨aA,e⟩:=e;unfold Il at e;split at e
 ·next id ops dr K' s' l=>
  obtain⟨hb,e⟩:=kR e;rw[al7]at hb;cases e0
  refine oI hm hw λK _=> ?_;obtain⟨s1,h1,h2,h3,h4⟩:=F3 e;obtain⟨p,hp⟩:=Option.isSome_iff_exists.1 hb.2;obtain⟨y,K2⟩:=p;have hk:den P r N0 Q K' .normal s1:=by
   refine Gb hp (Gn (s:=s1) (s':=⟨s'.n,Δ++s'.t,h'⟩) h2.symm h3.symm h4 ?_);have k:=k.run;simp only[uR,hp]at k;exact k
  show bB P r N0 (.region id ops dr) (den P r N0 Q K') s';have dK:=vh (P:=P) (ops:=ops.toList.toArray) (dr:=dr) (K:=den P r N0 Q K' .normal) ops.toList 0 s' _ h1 (qb aA) hk;cases dr with
  |false=>exact e9 (by simpa using dK)
  |true=>
   have hl:qO ops.toList.toArray=true:=by simpa using hb.1
   have:=GF (P:=P) (r:=r) (N0:=N0) (Q:=den P r N0 Q K') (s:=s') (id:=id) (l:=ops.toList) hm hl (by simpa using dK)
   simpa using this
 ·cases e
def Th(P:amW)(keep:amT Nat)(as:amT (Nat×bX)):WO->amV (amT (amT (Nat×AV)×amT aq×amT (In×bX)))
 |some (.at (.region _ ops true) K s,_)=>bif (Aw K).isSome then yY P ops.toList as keep s else none
 |_=>none
theorem Ub(m:Nat)(hm:P.follows .mixedOrders=true)(Δ:amT (Nat×AV))(h':amT aq)(e:∃aA:amT (Nat×Ob P),Th P (Δ.map (·.1)) (iV aA) (wk P w0 [])=some (List.replicate m (Δ,h',js aA)))(k:GW P r N0 Q (uR Δ h' (wk P w0 [])))(e0:sD (wk P w0 [])=some []:=by kernel_rfl):GW P r N0 Q w0:=by
 generalize hw:wk P w0 []=w at e k e0;obtain⟨aA,e⟩:=e;unfold Th at e;split at e
 ·next id ops K' s' l=>
  obtain⟨hb,e⟩:=kR e;cases e0
  refine oI hm hw λK _=> ?_;obtain⟨p,hp⟩:=Option.isSome_iff_exists.1 hb;obtain⟨y,K2⟩:=p;show bB P r N0 (.region id ops true) (den P r N0 Q K') s';have:=rte (r:=r) (N0:=N0) (Q:=den P r N0 Q K') (id:=id) (ol:=ops.toList) (n:=s'.n) (t:=s'.t) (h:=s'.h) m hm aA Δ h' e (Gb hp (by
   have k:=k.run;simp only[uR,hp]at k;exact k))
  simpa using this
 ·cases e
def U2(P:amW)(keep:amT Nat)(as:amT (Nat×bX)):WO->amV (amT (Nat×AV)×amT aq×amT (In×bX))
 |some (.at (.region _ ops true) K s,_)=>bif (Aw K).isSome&&Eu true ops (List.range ops.toList.length)&&Et as 0 ops.toList then qy P false ops.toList as keep s else none
 |_=>none
theorem Av(hm:P.follows .mixedOrders=true)(aA:amT (Nat×Ob P))(Δ:amT (Nat×AV))(h':amT aq)(k:GW P r N0 Q (uR Δ h' (wk P w0 [])))(e:U2 P (Δ.map (·.1)) (iV aA) (wk P w0 [])=some (Δ,h',js aA):=by kernel_rfl)(e0:sD (wk P w0 [])=some []:=by kernel_rfl):GW P r N0 Q w0:=by
 generalize hw:wk P w0 []=w at e k e0;unfold U2 at e;split at e
 ·next id ops K' s' l=>
  obtain⟨hb,e⟩:=kR e;rw[al7,al7]at hb;cases e0
  refine oI hm hw λK _=> ?_;obtain⟨p,hp⟩:=Option.isSome_iff_exists.1 hb.1.1;obtain⟨y,K2⟩:=p;show bB P r N0 (.region id ops true) (den P r N0 Q K') s';have hk:bB P r N0 y (den P r N0 Q K2) ⟨s'.n,Δ++s'.t,h'⟩:=by
   have k:=k.run;simp only[uR,hp]at k;exact k
  obtain⟨s1,h1,h2,h3,h4⟩:=F3 e;have w9:den P r N0 Q K' .normal s1:=Gb hp (Gn (s:=s1) (s':=⟨s'.n,Δ++s'.t,h'⟩) h2.symm h3.symm h4 hk);have hl:Eu true ops.toList.toArray (List.range ops.toList.length)=true:=by simpa using hb.1.2
  have:bB P r N0 (.region id ops.toList.toArray true) (den P r N0 Q K') s':=by
   refine Uk (m:=true) (List.range ops.toList.length) hm (by simp) hl ?_;rw[Ty];exact NN ops.toList 0 _ _ h1 (qb aA) hb.2 w9
  simpa using this
 ·cases e
def Qa(b:Nat):aq->amT (Nat×Nat×Nat×Nat)
 | .cells cs=>AV.tu b cs
 | .lp .. =>[(1,0,0,0)]
 | .it .. =>[(1,0,0,0)]
 | .eR _ cs=>AV.tu b cs
 |_=>[]
structure VM(b L kk:Nat)(ys:List (List D)) where
 x:List (List AV)
 y:List (List AV)
 ok:ys.length=L->y=x.map (·.map (AV.dz b kk ys))
def VM.IW{b L kk:Nat}{ys:amT (amT D)}(zs:amT (amT D)):VM b L kk ys:=⟨cg zs,cg zs,λ_=>(ZA (λd=>by simp [AV.dz]) zs).symm⟩
def pZ(b:Nat)(ys:amT (amT D)):amT aq->amT (amT (amT AV))->amT aq
 |[],_=>[]
 |B::l,vs=>match B with
  | .vec e k cs=>match vs with
    |v::vs=> .vec e k v::pZ b ys l vs
    |[]=> .vec e k cs::pZ b ys l []
  | .cells cs=> .cells (AV.nE b ys cs)::pZ b ys l vs
  | .eR T cs=> .eR T (AV.nE b ys cs)::pZ b ys l vs
  |B=>B::pZ b ys l vs
theorem VH{b L kk:Nat}{ys:amT (amT D)}(hL:ys.length=L):∀(h:amT aq)(vs:amT (VM b L kk ys)),th h=vs.map VM.x->(∀q∈h.flatMap (Qa b),q=(0,ys.length,ys.length,kk))->pZ b ys h (vs.map VM.y)=h.map (aq.lE (AV.dz b kk ys))
 |[],_,_,_=>rfl
 |B::l,vs,hv,ho=>by
  have hl:∀vs:amT (VM b L kk ys),th l=vs.map VM.x->pZ b ys l (vs.map VM.y)=l.map (aq.lE (AV.dz b kk ys)):=λvs hv=>VH hL l vs hv λq hq=>ho q (by rw[List.flatMap_cons];exact List.mem_append_right _ hq);have hb:∀q∈Qa b B,q=(0,ys.length,ys.length,kk):=λq hq=>ho q (by rw[List.flatMap_cons];exact List.mem_append_left _ hq);cases B with
  |vec e k cs=>
   cases vs with
   |nil=>cases hv
   |cons v vs=>
    have hv1:cs=v.x:=(List.cons.inj hv).1;have e1:(aq.vec e k cs).lE (AV.dz b kk ys)= .vec e k v.y:=by rw[v.ok hL,hv1];rfl
    show aq.vec e k v.y::pZ b ys l (vs.map VM.y)=aq.lE (AV.dz b kk ys) (.vec e k cs)::l.map _;rw[hl vs (List.cons.inj hv).2,e1]
  |cells cs=>
   have e1:(aq.cells cs).lE (AV.dz b kk ys)= .cells (AV.nE b ys cs):=by
    rw[<-yq cs hb,vg];rfl
   show aq.cells (AV.nE b ys cs)::pZ b ys l (vs.map VM.y)=aq.lE (AV.dz b kk ys) (.cells cs)::l.map _;rw[hl vs hv,e1]
  |front e k n=>exact congrArg (aq.front e k n::·) (hl vs hv)
  |iy e q=>exact congrArg (aq.iy e q::·) (hl vs hv)
  |map kv=>exact congrArg (aq.map kv::·) (hl vs hv)
  |iC kv=>exact congrArg (aq.iC kv::·) (hl vs hv)
  |gone=>exact congrArg (aq.gone::·) (hl vs hv)
  |lp ls p as bd cs=>have:=congrArg Prod.fst (hb (1,0,0,0) amb);cases this
  |it sn cs=>have:=congrArg Prod.fst (hb (1,0,0,0) amb);cases this
  |eR T0 cs=>
   have e1:(aq.eR T0 cs).lE (AV.dz b kk ys)= .eR T0 (AV.nE b ys cs):=by
    rw[<-yq cs hb,vg];rfl
   show aq.eR T0 (AV.nE b ys cs)::pZ b ys l (vs.map VM.y)=aq.lE (AV.dz b kk ys) (.eR T0 cs)::l.map _;rw[hl vs hv,e1]
theorem Z3{c:Code}{s:St}(live:amT Nat)(b:Nat)(xs:amT (amT D)){e k L:Nat}(h':amT aq)(hb:s.h[b]?=some (.vec e k (cg xs)))(jn:∀c∈xs,c.all D.Ay=true)(hL:xs.length=L)
 (ho:∀q∈live.flatMap λi=>(bq s.t i).ua b,q=(0,xs.length,xs.length,k)) (hh:h'=s.h.map (aq.lE (AV.dz b k xs))) (K:bB P r N0 c Q ⟨s.n,live.map (λi=>(i,(bq s.t i).mlt b xs)),h'.set b .gone⟩):bB P r N0 c Q s:=by
 constructor
 intro G w a n hs hN;obtain⟨G',hE,e1,cM⟩:=hs.Zk xs hb jn;refine wpIn_mono (K.run G' w a n (cM.less rfl (by rw[hh]) λi=> ?_) (by rw[e1];exact hN)) λ_ _ _ hn=>hn.trans (hE.less hN);show bq (live.map (λi=>(i,(bq s.t i).mlt b xs))) i=bq (s.t.map λp=>(p.1,p.2.dz b k xs)) i\/_;rw[rp (λk=>(bq s.t k).mlt b xs),JT (AV.dz b k xs) (by simp [AV.dz])];split
 ·next hi=>
  left
  refine(Ya _ λq hq=>ho q ?_).symm;exact List.mem_flatMap.2 ⟨i,hi,hq⟩
 ·exact .inr rfl
def aas(live:amT Nat)(b:Nat)(s:St):amT (Nat×Nat×Nat×Nat):=(live.flatMap λi=>(bq s.t i).ua b)++s.h.flatMap (Qa b)
def adB(live:amT Nat)(b:Nat)(ys:amT (amT D))(vs:amT (amT (amT AV)))(s:St):St:=⟨s.n,live.map (λi=>(i,(bq s.t i).mlt b ys)),(pZ b ys s.h vs).set b .gone⟩
theorem ahw(live:amT Nat)(b:Nat){xs:amT (amT D)}(ys:amT (amT D))(L c e k:Nat)(vs:amT (VM b L k ys))(hL:xs.length=L)(hy:ys=xs)(jn:∀c∈xs,c.all D.Ay=true)(K:GW P r N0 Q (S4 (adB live b ys (vs.map VM.y)) w0))(hb:(wS w0).h[b]?=some (.vec e k (cg xs)):=by kernel_rfl)(ho:aas live b (wS w0)=List.replicate c (0,L,L,k):=by kernel_rfl)(hv:th (wS w0).h=vs.map VM.x:=by kernel_rfl):GW P r N0 Q w0:=by
 subst hy;constructor
 unfold Es;split
 ·next c K' s l=>
  have l9:=aeP hL ho;exact Z3 live b ys _ hb jn hL (λq hq=>l9 q (List.mem_append_left _ hq)) (VH hL s.h vs hv λq hq=>l9 q (List.mem_append_right _ hq)) K.run
 ·trivial
theorem Rt{m:Nat}:([]:amT aq).all (aq.aG m)=true:=rfl
theorem zB{B:aq}{l:amT aq}{m:Nat}(h:B.aG m=true)(k:l.all (aq.aG m)=true):(B::l).all (aq.aG m)=true:=by rw[amP,h,k];rfl
theorem QY{e k m:Nat}{xs:amT (amT D)}:(aq.vec e k (cg xs)).aG m=true:=TL xs
theorem agE{m n:Nat}{T:amT (Nat×AV)}{LP:aq}{next:amT aq->Prop}{Q:Exit->St->Prop}{s:St}(hs:amT aq)(hl:hs.length=m)(hb:hs.all (aq.aG (m+1))=true)(hc:iS (m+1) (s.h.take (m+1))/\mw s [] (m+1) [] []=some ⟨s.n,[],hs++[LP]⟩)(hn:next hs):CI m n T LP next Q .normal s:=⟨hs,hl,hb,⟨λh=>h.mw hc.1 hc.2⟩,hn⟩
theorem akN(k:Nat)(xs:amT (amT D))(hx:(bq (wS w0).t k).fE=some xs)(h:uC (.sl xs)->GW P r N0 Q w0):GW P r N0 Q w0:=by
 constructor
 unfold Es;split
 ·next c K s l=>exact wI k xs hx λhl=>(h hl).run
 ·trivial
theorem P9(b i:Nat)(xs:amT (amT D))(hx:(((wS w0).h[b]?).bind λB=>match B with| .cells cs=>(cs[i]?).bind AV.fE|_=>none)=some xs)(h:uC (.sl xs)->GW P r N0 Q w0):GW P r N0 Q w0:=by
 constructor
 unfold Es;split
 ·next c K s l=>exact acw b i xs hx λhl=>(h hl).run
 ·trivial
def adS(k e sz:Nat)(xs:amT (amT D))(s:St):St:=⟨s.n,(k, .own s.h.length xs)::s.t,s.h++[.front e sz xs.length]⟩
def QB(xs:amT (amT D)):AV->Bool
 | .d (.v (.slice none 0 0))=>xs.isEmpty
 |_=>false
theorem aa4{xs:amT (amT D)}{x:AV}(h:QB xs x=true):x= .d (.v (.slice none 0 0))/\xs=[]:=by
 unfold QB at h;split at h
 ·exact⟨rfl,List.isEmpty_iff.1 h⟩
 ·cases h
theorem uM(k e sz:Nat)(xs:amT (amT D))(hx:bq (wS w0).t k= .full xs\/QB xs (bq (wS w0).t k)=true)(h:GW P r N0 Q (S4 (adS k e sz xs) w0)):GW P r N0 Q w0:=by
 constructor
 unfold Es;split
 ·next c K s l=>exact JY k e sz xs (hx.imp id aa4) h.run
 ·trivial
end
theorem bc{α:Type}{c:Bool}{a b x:α}{G:Prop}(h:(bif c then a else b)=x)(t:c=true->a=x->G)(f:c=false->b=x->G):G:=by
 cases c with
 |true=>exact t rfl h
 |false=>exact f rfl h
theorem sj{α:Type}{a b:α}(h:some a=some b):a=b:=amo h
theorem Zw{α:Type}{c:Bool}{x:amV α}{r:α}(h:(bif c then x else none)=some r):c=true/\x=some r:=by
 cases c with
 |true=>exact⟨rfl,h⟩
 |false=>cases h
def zj(fn:Func)(args:amT AV)(h:amT aq):WO:=some (.at (fn.body.getD .skip) [] {n:=args.length+(fn.ntmps-args.length),t:=lK 0 args,h:=h},[])
theorem ajB{P:amW}{f:FuncId}{fn:Func}{args:amT AV}{R:AV}(hf:P.funcs[f]?=some fn)(hb:fn.body.isSome=true)(hn:(fn.name== "runtime.NumGoroutine")=false)
 (hw:GW P none 0 (kK P fn R) (zj fn args [])):ga P f args (·=R):=by
 obtain⟨c,hc⟩:=Option.isSome_iff_exists.1 hb;refine lO hf hc hn ?_;have:fn.body.getD .skip=c:=by rw[hc];rfl
 rw[<-this];exact hw.run
theorem aib{P:amW}{f:FuncId}{fn:Func}{args:amT AV}{h H:amT aq}{R:AV}(m:Nat)(hf:P.funcs[f]?=some fn)(hb:fn.body.isSome=true)(hn:(fn.name== "runtime.NumGoroutine")=false)(hm:h.length<=m)
 (hw:GW P none h.length (s8 P fn m R H) (zj fn args h)):cZ P f args h λr1 h1=>r1=R/\h1=H:=by
 obtain⟨c,hc⟩:=Option.isSome_iff_exists.1 hb;refine qn m hf hc hn hm ?_;have:fn.body.getD .skip=c:=by rw[hc];rfl
 rw[<-this];exact hw.run
section ac4
variable {P:amW}
def oL{α:Type}{f:amT α->amT (amT D)}(l:amT α)(h:(f l).length=l.length):Ob P:=⟨_,_, .len h⟩
def oE{xs:amT (amT D)}{k:Nat}{c:amT D}(h:xs[k]?=some c):Ob P:=⟨_,_, .el (xs:=xs) (i:=(k:Int)) (Int.natCast_nonneg _) h⟩
def oq{a b:AV}(h:a=b):Ob P:=⟨_,_, .eq h⟩
def os(ks:amT Nat)(o:Ob P)(l:amT (Nat×Ob P)):amT (Nat×Ob P):=ks.foldr (λk t=>(k,o)::t) l
noncomputable def soI(x:Nat×Ob P)(l:amT (Nat×Ob P)):amT (Nat×Ob P):=List.rec [x] (λy t r=>bif Nat.ble x.1 y.1 then x::y::t else y::r) l
noncomputable def so(l:amT (Nat×Ob P)):amT (Nat×Ob P):=l.foldr soI []
theorem wu{xs:amT (amT D)}{n:Nat}(e:xs.length=n)(h:uC (.sl xs)):n<=maxLen:=e▸HR h
end ac4
inductive fi(P:Program):TypeId->List D->Prop
 |bool {t:TypeId} (b:Bool) (h:P.underlying t=some .bool):fi P t [.v (.bool b)]
 |int {t:TypeId} {k:IntKind} (n:Int) (h:P.underlying t=some (.int k)) (w:(Lit.int k n).wf=true):fi P t [.v (.int k n)]
 |str {t:TypeId} (s:ByteArray) (h:P.underlying t=some .string) (w:s.size<=maxLen):fi P t [.v (.string s)]
 |sl {t e:TypeId} (xs:List (List D)) (h:P.underlying t=some (.slice e)) (w:xs.length<=140737488355328) (hx:∀x∈xs,fi P e x):fi P t [.sl xs]
 |struct {t:TypeId} {fs:Array Field} (parts:List (List D)) (h:P.underlying t=some (.struct fs)) (hl:parts.length=fs.size) (hx:∀(i:Nat)(f:Field)(x:List D),fs[i]?=some f->parts[i]?=some x->fi P f.type x):fi P t parts.flatten
section
variable {P:amW} {t:TypeId} {xs:amT D}
theorem fi.ov{k:IntKind}(h:fi P t xs)(ht:P.underlying t=some (.int k)):∃n,xs=[.v (.int k n)]/\k.min<=n/\n<=k.max:=by
 cases h with
 |bool b h=>rw[ht]at h;cases h
 |int n h w=>
  rw[ht]at h;cases h;unfold Lit.wf at w;simp only[al7,decide_eq_true_eq]at w;exact⟨n,rfl,w⟩
 |str s h=>rw[ht]at h;cases h
 |sl l h=>rw[ht]at h;cases h
 |struct p h=>rw[ht]at h;cases h
theorem fi.D9(h:fi P t xs)(ht:P.underlying t=some .string):∃s,xs=[.v (.string s)]/\s.size<=maxLen:=by
 cases h with
 |bool b h=>rw[ht]at h;cases h
 |int n h=>rw[ht]at h;cases h
 |str s h w=>exact⟨s,rfl,w⟩
 |sl l h=>rw[ht]at h;cases h
 |struct p h=>rw[ht]at h;cases h
theorem fi.tb{e:TypeId}(h:fi P t xs)(ht:P.underlying t=some (.slice e)):∃l,xs=[.sl l]/\l.length<=140737488355328/\∀x∈l,fi P e x:=by
 cases h with
 |bool b h=>rw[ht]at h;cases h
 |int n h=>rw[ht]at h;cases h
 |str s h=>rw[ht]at h;cases h
 |sl l h w hx=>rw[ht]at h;cases h;exact⟨l,rfl,w,hx⟩
 |struct p h=>rw[ht]at h;cases h
theorem fi.sw{fs:Array Field}(h:fi P t xs)(ht:P.underlying t=some (.struct fs)):∃parts:amT (amT D),xs=parts.flatten/\parts.length=fs.size/\∀(i:Nat)(f:Field)(x:amT D),fs[i]?=some f->parts[i]?=some x->fi P f.type x:=by
 cases h with
 |bool b h=>rw[ht]at h;cases h
 |int n h=>rw[ht]at h;cases h
 |str s h=>rw[ht]at h;cases h
 |sl l h=>rw[ht]at h;cases h
 |struct p h hl hx=>rw[ht]at h;cases h;exact⟨p,rfl,hl,hx⟩
theorem sW{α:Type}{f:α->amT D}{Q:α->Prop}:∀l:amT (amT D),(∀x∈l,∃a,x=f a/\Q a)->∃r:amT α,l=r.map f/\∀a∈r,Q a
 |[],_=>⟨[],rfl,λ_ h=>by cases h⟩
 |x::l,h=>by
  obtain⟨a,rfl,ha⟩:=h x amb;obtain⟨r,rfl,hr⟩:=sW l λy hy=>h y (ame _ hy);refine⟨a::r,rfl,λb hb=> ?_⟩;rcases amz.1 hb with rfl|hb
  ·exact ha
  ·exact hr b hb
end
def Nv(P:amW)(S:amT TypeId):Bool:=S.all λt=>match P.underlying t with
 |some .bool|some (.int _)|some .string=>true
 |some (.slice e)=>S.contains e&&(decide (0<P.cellsOf e)&&decide (0<P.bytesOf e))
 |some (.struct fs)=>P.consecB fs.toList 0 (P.cellsOf t)&&fs.toList.all λf=>S.contains f.type
 |_=>false
def jC(S:Nat->Nat->Prop)(w:amY)(cs:amT amX)(xs:amT D):Prop:=xs.length=cs.length/\∀(i:Nat)(u:amX)(x:D),cs[i]?=some u->xs[i]?=some x->dy S w u x/\u.oneCell'=true
theorem jC.nil{S:Nat->Nat->Prop}{w:amY}:jC S w [] []:=⟨rfl,λi u x h=>by simp at h⟩
theorem jC.one{S:Nat->Nat->Prop}{w:amY}{u:amX}{x:D}(h:dy S w u x)(h1:u.oneCell'=true):jC S w [u] [x]:=⟨rfl,λi v y hv hy=>by
 cases i with
 |zero=>cases hv;cases hy;exact⟨h,h1⟩
 |succ i=>simp at hv⟩
theorem jC.app{S:Nat->Nat->Prop}{w:amY}{a b:amT amX}{x y:amT D}(h:jC S w a x)(k:jC S w b y):jC S w (a++b) (x++y):=by
 refine⟨by simp [h.1,k.1],λi u z hu hz=> ?_⟩;by_cases hi:i<a.length
 ·rw[amf hi]at hu;rw[amf (by rw[h.1];exact hi)]at hz;exact h.2 i u z hu hz
 ·rw[aml (by omega)]at hu;rw[aml (by rw[h.1];omega),h.1]at hz;exact k.2 _ u z hu hz
theorem US{α:Type}{Q:Nat->α->Prop}:∀n:Nat,(∀i,i<n->∃x,Q i x)->∃l:amT α,l.length=n/\∀i x,l[i]?=some x->Q i x
 |0,_=>⟨[],rfl,λi x h=>by simp at h⟩
 |n+1,h=>by
  obtain⟨l,h1,h2⟩:=US n λi hi=>h i (by omega);obtain⟨x,hx⟩:=h n (by omega);refine⟨l++[x],by simp [h1],λi y hy=> ?_⟩;by_cases hi:i<l.length
  ·rw[amf hi]at hy;exact h2 i y hy
  ·rw[aml (by omega)]at hy;have:i-l.length=0:=by
     by_cases e:i-l.length=0
     ·exact e
     ·rw[amB (by simp;omega)]at hy;cases hy
   rw[this]at hy;cases hy;have:i=n:=by omega
   rw[this];exact hx
theorem ZB{a:Addr}(h:a.spot=none)(n:Nat):a.add n=⟨a.block,a.off+n,none⟩:=by
 unfold Addr.add;split
 ·next e=>subst e;cases a;simp only at h;subst h;rfl
 ·rfl
section
variable {H:Type} {enc:TypeId×amX->H} {P:amW} {W:amY} {Ts:amT TypeId}
abbrev qM(W:amY):Nat->Nat->Prop:=λb _=>b<W.heap.size
theorem ak3{S:Nat->Nat->Prop}{w:amY}:dy S w (.slice none 0 0) (.sl []):=
 .sl none 0 0 0 0 [] (λ_ _=>undef) (λh=>absurd rfl h) (amg _) (by simp) (λ_ h=>by cases h) (λi j hi=>by simp at hi) (λi j x d hx=>by simp at hx)
theorem Zl{e:TypeId}:∀{l:amT (DataW H)}{d:DataW H},d∈l->∀n∈d.weights P e,n∈DataW.weightsAll P e l
 |[],_,h,_,_=>by cases h
 |x::l,d,h,n,hn=>by
  simp only[DataW.weightsAll,amH];rcases amz.1 h with rfl|h
  ·exact .inl hn
  ·exact .inr (Zl h n hn)
theorem QI{fuel:Nat}(IH:∀(t:TypeId)(cs:amT amX)(d:DataW H)(ps:amT MemPlace),t∈Ts->(∀n∈d.weights P t,n<=reachBytes)->DataW.trod enc P W 0 (λ_=>true) true fuel t cs=some (d,ps)->∃xs,fi P t xs/\jC (qM W) W cs xs)(cs:amT amX):
 ∀(fs:amT Field)(off:Nat)(ys:amT (DataW H×amT MemPlace)),P.consecB fs off cs.length=true->(∀f∈fs,f.type∈Ts)->(∀n∈DataW.weightsEach P (fs.map (·.type)) (ys.map (·.1)),n<=reachBytes)->
  fs.mapM (λf=>DataW.trod enc P W 0 (λ_=>true) true fuel f.type ((cs.drop f.offset).take (P.cellsOf f.type)))=some ys->
  ∃parts:amT (amT D),parts.length=fs.length/\(∀(i:Nat)(f:Field)(x:amT D),fs[i]?=some f->parts[i]?=some x->fi P f.type x)/\jC (qM W) W (cs.drop off) parts.flatten
 |[],off,ys,hc,_,_,_=>by
  simp only[Program.consecB,beq_iff_eq]at hc;refine⟨[],rfl,λi f x h=>by simp at h,?_⟩;rw[List.drop_eq_nil_iff.2 (by omega)];exact jC.nil
 |f::fs,off,ys,hc,hS,hw,hm=>by
  simp only[Program.consecB,al7,beq_iff_eq]at hc;obtain⟨alG,hc⟩:=hc;rw[List.mapM_cons]at hm;cases hx:DataW.trod enc P W 0 (λ_=>true) true fuel f.type ((cs.drop f.offset).take (P.cellsOf f.type))with
  |none=>simp [hx]at hm
  |some p=>
   cases lH:fs.mapM (λf=>DataW.trod enc P W 0 (λ_=>true) true fuel f.type ((cs.drop f.offset).take (P.cellsOf f.type)))with
   |none=>simp [hx,lH]at hm
   |some ps=>
    obtain⟨d,q⟩:=p;obtain rfl:(d,q)::ps=ys:=by simpa [hx,lH]using hm
    simp only[amu,DataW.weightsEach,amH]at hw;obtain⟨x,h1,h2⟩:=IH f.type _ d q (hS f amb) (λn hn=>hw n (.inl hn)) hx;obtain⟨parts,k1,k2,k3⟩:=QI IH cs fs (off+P.cellsOf f.type) ps hc (λg hg=>hS g (ame _ hg)) (λn hn=>hw n (.inr hn)) lH;refine⟨x::parts,by simp [k1],λi g y hg hy=> ?_,?_⟩
    ·cases i with
     |zero=>cases hg;cases hy;exact h1
     |succ i=>exact k2 i g y (by simpa using hg) (by simpa using hy)
    ·rw[List.flatten_cons];rw[alG]at h2;have:=h2.app k3
     rwa [take_drop_step]at this
theorem Up(hT:Nv P Ts=true):∀(fuel:Nat)(t:TypeId)(cs:amT amX)(d:DataW H)(ps:amT MemPlace),t∈Ts->(∀n∈d.weights P t,n<=reachBytes)->DataW.trod enc P W 0 (λ_=>true) true fuel t cs=some (d,ps)->∃xs,fi P t xs/\jC (qM W) W cs xs
 |0,t,cs,d,ps,_,_,h=>by simp [DataW.trod]at h
 |fuel+1,t,cs,d,ps,ht,sb,h=>by
  have IH:=Up hT fuel;have mH:=amv.1 hT t ht;unfold DataW.trod at h;split at h
  ·next b e=>exact⟨_, .bool b e,jC.one (.v _) rfl⟩
  ·next k k' n e=>
   split at h
   ·next hk=>obtain⟨rfl,hw⟩:=hk;exact⟨_, .int n e hw,jC.one (.v _) rfl⟩
   ·cases h
  ·next e=>rw[e]at mH;cases mH
  ·next s e=>
   split at h
   ·next hw=>exact⟨_, .str s e hw,jC.one (.v _) rfl⟩
   ·cases h
  ·next e=>rw[e]at mH;cases mH
  ·next e=>rw[e]at mH;cases mH
  ·next e e1=>exact⟨_, .sl [] e1 (Nat.zero_le _) (λx hx=>absurd hx amL),jC.one ak3 rfl⟩
  ·next e a len cap e1=>
   rw[e1]at mH;simp only[al7,List.contains_iff_mem,decide_eq_true_eq]at mH;obtain⟨hme,P5,pW⟩:=mH;simp only at h;split at h
   ·next hb=>
    obtain⟨_,lk,vz⟩:=hb;rw[Option.bind_eq_some_iff]at h;obtain⟨elems,BF,zt⟩:=h;rw[Option.map_eq_some_iff]at zt;obtain⟨rest,_,zt⟩:=zt;cases zt
    simp only[DataW.weights,e1,amz,amH,ama]at sb;have hlen:elems.length=len:=by simpa using mapM_some_length BF
    have hQ:∀i,i<len->∃x:amT D,fi P e x/\∃cD,W.cells? 0 (a.add (i*P.cellsOf e)) (P.cellsOf e)=some cD/\jC (qM W) W cD x:=λi hi=>by
     have h1:=mapM_some_get BF i i (by simp [hi]);rw[al9 (by omega)]at h1;rw[Option.bind_eq_some_iff]at h1;obtain⟨cD,h2,h3⟩:=h1;obtain⟨x,h4,h5⟩:=IH e cD elems[i].1 elems[i].2 hme (λn hn=>sb n (.inr (.inl (Zl (List.mem_map.2 ⟨_,List.getElem_mem _,rfl⟩) n hn)))) h3;exact⟨x,h4,cD,h2,h5⟩
    obtain⟨xs,vE,QO⟩:=US len hQ;have Tj:xs≠ []->a.spot=none:=λcQ=>by
     have h0:0<len:=by cases xs with|nil=>exact(cQ rfl).elim|cons x l=>simp at vE;omega
     obtain⟨x,_,cD,h2,_⟩:=hQ 0 h0;obtain⟨_,h3,h4⟩:=World.cells?_some h2;have h5:=h4 0 P5;rw[Nat.zero_mul]at h5;have e0:(a.add 0).add 0=a:=by simp [Addr.add]
     rw[e0,al9 (by omega)]at h5;unfold World.cell? at h5;split at h5
     ·split at h5
      ·cases h5
      ·next hn=>simpa using hn
     ·cases h5
    have ik:∀i x,xs[i]?=some x->x.length=P.cellsOf e/\∀j,j<P.cellsOf e->∃u,W.cell? ⟨a.block,a.off+i*P.cellsOf e+j,none⟩=some u/\u.oneCell'=true/\∀d,x[j]?=some d->dy (qM W) W u d:=λi x hx=>by
     obtain⟨_,cD,h2,h3⟩:=QO i x hx;obtain⟨_,h4,h5⟩:=World.cells?_some h2;have hs:=Tj (λe=>by rw[e]at hx;simp at hx);refine⟨h3.1.trans h4,λj hj=> ?_⟩;have h6:=h5 j hj;rw[ZB hs,ZB rfl,al9 (by omega)]at h6;have hjx:j<x.length:=by rw[h3.1,h4];exact hj
     have hd:x[j]?=some x[j]:=al9 hjx;have h7:=h3.2 j _ _ (al9 (by omega)) hd;exact⟨_,h6,h7.2,λd jW=>by rw[hd]at jW;cases jW;exact h7.1⟩
    have ajZ:xs.length<=140737488355328:=by
     have h1:=sb _ (.inl rfl);have h2:(elems.length+rest.length)*1<=(elems.length+rest.length)*P.bytesOf e:=Nat.mul_le_mul_left _ pW;have h3:reachBytes<=140737488355328:=by decide
     omega
    refine⟨[.sl xs], .sl xs e1 ajZ (λx hx=> ?_),jC.one ?_ rfl⟩
    ·obtain⟨i,hi,rfl⟩:=List.mem_iff_getElem.1 hx;exact(QO i _ (al9 hi)).1
    ·rw[<-vE];refine .sl (some a) a.block a.off cap (P.cellsOf e) xs (λi j=>(W.cell? ⟨a.block,a.off+i*P.cellsOf e+j,none⟩).getD undef) (λcQ=> ?_) (by omega) vz (λx hx=> ?_) (λi j hi hj=> ?_) λi j x d hx hd=> ?_
     ·have:=Tj cQ;cases a;simp only at this;subst this;rfl
     ·obtain⟨i,hi,rfl⟩:=List.mem_iff_getElem.1 hx;exact(ik i _ (al9 hi)).1
     ·obtain⟨u,h1,h2,_⟩:=(ik i _ (al9 hi)).2 j hj;refine⟨World.block_lt_of_cell? W ⟨a.block,a.off+i*P.cellsOf e+j,none⟩ h1,?_,?_⟩
      ·rw[h1];rfl
      ·rw[h1];exact h2
     ·obtain⟨hl,hc⟩:=ik i x hx;obtain⟨u,h1,_,h3⟩:=hc j (by rw[<-hl];exact(al5.1 hd).1);simp only[h1,Option.getD_some];exact h3 d hd
   ·cases h
  ·next cD fs e1=>
   rw[e1]at mH;simp only[al7,amv,List.contains_iff_mem]at mH;split at h
   ·next hl=>
    rw[Option.map_eq_some_iff]at h;obtain⟨ys,hm,zt⟩:=h;cases zt
    simp only[DataW.weights,e1]at sb;obtain⟨parts,k1,k2,k3⟩:=QI IH _ fs.toList 0 ys (by rw[hl];exact mH.1) mH.2 sb hm;exact⟨_, .struct parts e1 (by simpa using k1) (λi f x hf=>k2 i f x (by simpa using hf)),by simpa using k3⟩
   ·cases h
  all_goals first|(cases h;done)|(exfalso;revert mH;(next e=>rw[e];intro h0;cases h0))
theorem PD{t:TypeId}{v:amX}{d:DataW H}{ps:amT MemPlace}(hT:Nv P Ts=true)(hm:t∈Ts)(hw:∀n∈d.weights P t,n<=reachBytes)(h:DataW.Trod enc P W 0 (λ_=>true) true t v d ps):∃xs,fi P t xs/\jC (qM W) W v.cells.toList xs:=
 let ⟨fuel,h⟩:=h
 Up hT fuel t _ d ps hm hw h
theorem alR{t:TypeId}{fs:Array Field}{v:amX}{r:Reach}{base:Nat}(ht:P.underlying t=some (.struct fs))(h:Value.okWide P W r base t v):∃cs,v= .agg cs:=by
 unfold Value.okWide at h;rw[ht]at h;obtain⟨cs,rfl,_⟩:=h;exact⟨cs,rfl⟩
theorem aeX{G:Gh}(hS:G.S=qM W){cs:Array amX}{xs:amT D}(h:jC (qM W) W cs.toList xs):aH G W (.agg cs) (.agg (xs.map .d)):=by
 refine .agg cs _ (by rw[ama,h.1,amC]) λi u c hu hc=> ?_;rw[amc]at hc;cases hx:xs[i]? with
 |none=>rw[hx]at hc;cases hc
 |some x=>
  rw[hx]at hc;cases hc
  exact .d (hS▸(h.2 i u x (by rw[ams];exact hu) hx).1)
theorem Sr{G:Gh}(hS:G.S=qM W){v:amX}{x:D}(h:jC (qM W) W #[v].toList [x]):aH G W v (.d x):= .d (hS▸(h.2 0 v x rfl rfl).1)
end
end Go.Proofs.YtnnapanbbbcalaaGreatDoor
