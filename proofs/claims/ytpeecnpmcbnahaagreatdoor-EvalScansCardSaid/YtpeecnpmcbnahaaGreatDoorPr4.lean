/-
  Part 4 of the proof: AbsWk, OpenD.
-/
import Derived.Test.YtpeecnpmcbnahaaGreatDoorPr3
import Derived.ProofKit
import Derived.DataOpen
import Derived.SizedLaws
namespace Go.Proofs.YtpeecnpmcbnahaaGreatDoor
open Go.RowKit
set_option linter.unusedSimpArgs false
set_option linter.unusedVariables false
def F2{α:Type}(x:AV)(k:AV->α):α:=
 match x with
 | .d y=>k (.d y)
 | .agg cs=>k (.agg cs)
 | .aZ cs=>k (.aZ cs)
 | .ptr n o=>fN n λn=>fN o λo=>k (.ptr n o)
 | .own n xs=>fN n λn=>k (.own n xs)
 | .fn f cs=>k (.fn f cs)
 | .mp n=>fN n λn=>k (.mp n)
 |x=>k x
theorem Xn{α:Type}(x:AV)(k:AV->α):F2 x k=k x:=by cases x<;>simp [F2,yy]
def fT{α:Type}:an3 (Nat×AV)->(an3 (Nat×AV)->α)->α
 |[],k=>k []
 |(d,x)::l,k=>fN d λd=>F2 x λx=>fT l λl=>k ((d,x)::l)
theorem Ti{α:Type}:∀(l:an3 (Nat×AV))(k:an3 (Nat×AV)->α),fT l k=k l
 |[],k=>rfl
 |(d,x)::l,k=>by rw[fT,yy,Xn,Ti l]
def fC{α:Type}:an3 AV->(an3 AV->α)->α
 |[],k=>k []
 |x::l,k=>F2 x λx=>fC l λl=>k (x::l)
theorem ZO{α:Type}:∀(l:an3 AV)(k:an3 AV->α),fC l k=k l
 |[],k=>rfl
 |x::l,k=>by rw[fC,Xn,ZO l]
def fH{α:Type}:an3 ao->(an3 ao->α)->α
 |[],k=>k []
 | .cells cs::l,k=>fC cs λcs=>fH l λl=>k (.cells cs::l)
 | .front e z n::l,k=>fH l λl=>k (.front e z n::l)
 | .map kv::l,k=>fH l λl=>k (.map kv::l)
 | .gone::l,k=>fH l λl=>k (.gone::l)
 |B::l,k=>fH l λl=>k (B::l)
theorem pv{α:Type}:∀(l:an3 ao)(k:an3 ao->α),fH l k=k l
 |[],k=>rfl
 | .cells cs::l,k=>by rw[fH,ZO,pv l]
 | .front e z n::l,k=>by rw[fH,pv l]
 | .map kv::l,k=>by rw[fH,pv l]
 | .gone::l,k=>by rw[fH,pv l]
 | .iy .. ::l,k=>by rw[fH,pv l]<;>simp
 | .vec .. ::l,k=>by rw[fH,pv l]<;>simp
 | .lp .. ::l,k=>by rw[fH,pv l]<;>simp
 | .it .. ::l,k=>by rw[fH,pv l]<;>simp
 | .eG .. ::l,k=>by rw[fH,pv l]<;>simp
 | .ig .. ::l,k=>by rw[fH,pv l]<;>simp
def OF{α:Type}(s:St)(k:St->α):α:=fN s.n λn=>fT s.t λt=>fH s.h λh=>k ⟨n,t,h⟩
theorem ai8{α:Type}(s:St)(k:St->α):OF s k=k s:=by unfold OF;rw[yy,Ti,pv]
inductive Fr
 |S (y:Code)
 |B (id:Nat)
 |F (k:Nat) (f:St->Prop)
def hO(P:an6)(r:an5 Nat)(N0:Nat)(Q:Exit->St->Prop):an3 Fr->Exit->St->Prop
 |[]=>Q
 | .S y::K=>iL (λs=>bw P r N0 y (hO P r N0 Q K) s) (hO P r N0 Q K)
 | .B id::K=>qz id (hO P r N0 Q K)
 | .F _ f::K=>iL f (hO P r N0 Q K)
inductive Md
 |c (c:Code)
 |n
 |x (id:Nat)
inductive WR
 |at (c:Code) (K:List Fr) (s:St)
 |ret (s:St)
 |nrm (s:St)
 |fin (k:Nat) (s:St)
abbrev WO:=an5 (WR×an3 (In×bQ))
def Gm(l:an3 (In×bQ)):WO->WO
 |some (w,m)=>some (w,l++m)
 |none=>none
def mK(P:an6):Nat->Md->an3 Fr->an3 (an3 (Nat×bQ))->St->WO
 |0,_,_,_,_=>none
 |F+1,m,K,A,s=>match m with
  | .n=>match K with
    |[]=>some (.nrm s,[])
    | .S y::K=>mK P F (.c y) K A s
    | .B _::K=>mK P F .n K A s
    | .F k _::_=>some (.fin k s,[])
  | .x id=>match K with
    |[]=>none
    | .S _::K=>mK P F (.x id) K A s
    | .B ru::K=>mK P F (bif id==ru then .n else .x id) K A s
    | .F _ _::K=>mK P F (.x id) K A s
  | .c c=>match c with
    | .seq a b=>mK P F (.c a) (.S b::K) A s
    | .block id b=>mK P F (.c b) (.B id::K) A s
    | .skip=>mK P F .n K A s
    | .ret=>some (.ret s,[])
    | .exit id=>mK P F (.x id) K A s
    | .region id ops dr=>match A with
      |[]=>some (.at (.region id ops dr) K s,[])
      |as::A=>bif !dr||qk ops then match oM P ops dr ops.toList 0 as s with
         |some (s1,l)=>OF s1 λs1=>Gm l (mK P F .n K A s1)
         |none=>none
       else none
    | .cond o x y=>match A with
      |[]=>some (.at (.cond o x y) K s,[])
      |as::A=>match iQ as 0 with
       | .bit b=>Gm [(.bit (ev s o), .bit b)] (mK P F (.c (bif b then x else y)) K A s)
       |_=>none
    |c=>match A with
     |[]=>some (.at c K s,[])
     |_=>none
section
variable {P:an6} {r:an5 Nat} {N0:Nat} {Q:Exit->St->Prop}
theorem Ga:∀(K:an3 Fr)(s:St),Q .ret s->hO P r N0 Q K .ret s
 |[],_,h=>h
 | .S _::K,s,h=>Ga K s h
 | .B _::K,s,h=>Ga K s h
 | .F _ _::K,s,h=>Ga K s h
def al6(P:an6)(r:an5 Nat)(N0:Nat)(Q:Exit->St->Prop)(m:Md)(K:an3 Fr)(s:St):Prop:=
 match m with
 | .c c=>bw P r N0 c (hO P r N0 Q K) s
 | .n=>hO P r N0 Q K .normal s
 | .x id=>hO P r N0 Q K (.exit id) s
def Fz(P:an6)(r:an5 Nat)(N0:Nat)(Q:Exit->St->Prop)(K0:an3 Fr):WR->Prop
 | .at c K s=>bw P r N0 c (hO P r N0 Q K) s
 | .ret s=>Q .ret s
 | .nrm s=>Q .normal s
 | .fin k s=>∀f,Fr.F k f∈K0->f s
theorem Fz.sub{K K':an3 Fr}(h:∀k f,Fr.F k f∈K'->Fr.F k f∈K):∀{w:WR},Fz P r N0 Q K w->Fz P r N0 Q K' w
 | .at _ _ _,hp=>hp
 | .ret _,hp=>hp
 | .nrm _,hp=>hp
 | .fin k _,hp=>λf hf=>hp f (h k f hf)
theorem TO{l m:an3 (In×bQ)}{x:WO}{w:WR}(h:Gm l x=some (w,m))(bN:fY P m):∃n,x=some (w,n)/\fY P n/\fY P l:=by
 unfold Gm at h;split at h
 ·next w' n=>
  cases h
  exact⟨n,rfl,λp hp=>bN p (List.mem_append_right _ hp),λp hp=>bN p (List.mem_append_left _ hp)⟩
 ·cases h
theorem Zw(hm:P.follows .mixedOrders=true):∀(F:Nat)(m:Md)(K:an3 Fr)(A:an3 (an3 (Nat×bQ)))(s:St)(w:WR)(l:an3 (In×bQ)),mK P F m K A s=some (w,l)->fY P l->Fz P r N0 Q K w->al6 P r N0 Q m K s
 |0,_,_,_,_,_,_,h,_,_=>by simp [mK]at h
 |F+1,m,K,A,s,w,l,h,bN,hp=>by
  have ih:=Zw hm F;have tl:∀{x:Fr}{K:an3 Fr},∀k f,Fr.F k f∈K->Fr.F k f∈x::K:=λ_ _ h=>ann _ h;have pS:∀{y:Code}{K:an3 Fr},∀k f,Fr.F k f∈Fr.S y::K->Fr.F k f∈K:=λk f h=>by
   rcases anJ.1 h with h|h
   ·cases h
   ·exact h
  have pB:∀{y:Nat}{K:an3 Fr},∀k f,Fr.F k f∈Fr.B y::K->Fr.F k f∈K:=λk f h=>by
   rcases anJ.1 h with h|h
   ·cases h
   ·exact h
  unfold mK at h;cases m with
  |n=>
   cases K with
   |nil=>cases h;exact hp
   |cons x K=>
    cases x with
    |S y=>exact ih (.c y) K _ _ _ _ h bN (hp.sub tl)
    |B id=>exact ih .n K _ _ _ _ h bN (hp.sub tl)
    |F k f=>cases h;exact hp _ ank
  |x id=>
   cases K with
   |nil=>cases h
   |cons x K=>
    cases x with
    |S y=>exact ih (.x id) K _ _ _ _ h bN (hp.sub tl)
    |B ru=>
     show(bif id==ru then hO P r N0 Q K .normal s else hO P r N0 Q K (.exit id) s);simp only at h;cases e:id==ru with
     |true=>rw[e]at h;exact ih .n K _ _ _ _ h bN (hp.sub tl)
     |false=>rw[e]at h;exact ih (.x id) K _ _ _ _ h bN (hp.sub tl)
    |F k f=>exact ih (.x id) K _ _ _ _ h bN (hp.sub tl)
  |c c=>
   simp only at h;split at h
   ·exact aA (ih (.c _) (.S _::K) _ _ _ _ h bN (hp.sub pS))
   ·exact fV (ih (.c _) (.B _::K) _ _ _ _ h bN (hp.sub pB))
   ·exact dt (ih .n _ _ _ _ _ h bN hp)
   ·cases h;exact cQ (Ga K s hp)
   ·exact nT (ih (.x _) _ _ _ _ _ h bN hp)
   ·next id ops dr=>
    split at h
    ·cases h;exact hp
    ·next as A=>
     obtain⟨hb,h⟩:=kV h;split at h
     ·next s1 l1 e=>
      rw[ai8]at h;obtain⟨n,e2,h2,h3⟩:=TO h bN;have hk:=ih .n _ _ _ _ _ e2 h2 hp;have dz:=xS (P:=P) (ops:=ops) (dr:=dr) (K:=hO P r N0 Q K .normal) ops.toList 0 s l1 e h3 hk;cases dr with
      |false=>exact eW dz
      |true=>
       have hl:qk ops.toList.toArray=true:=by simpa using hb
       have:=HL (P:=P) (r:=r) (N0:=N0) (Q:=hO P r N0 Q K) (s:=s) (id:=id) (l:=ops.toList) hm hl (by simpa using dz);show bw P r N0 (.region id ops true) (hO P r N0 Q K) s
       simpa using this
     ·cases h
   ·next o x y=>
    split at h
    ·cases h;exact hp
    ·next as A=>
     split at h
     ·next b e=>
      obtain⟨n,e2,h2,h3⟩:=TO h bN;have h4:=OK.J1 (h3 (_,_) ank);have hk:=ih (.c _) _ _ _ _ _ e2 h2 hp;exact QA h4 (λe=>by subst e;exact hk) (λe=>by subst e;exact hk)
     ·cases h
   ·split at h
    ·cases h;exact hp
    ·cases h
end
def wK:WO->an3 Fr
 |some (.at _ K _,_)=>K
 |_=>[]
def wS:WO->St
 |some (.at _ _ s,_)=>s
 |_=>⟨0,[],[]⟩
def kT(k:Nat):an3 Fr->an3 (St->Prop)
 |[]=>[]
 | .F k' f::K=>bif k'==k then f::kT k K else kT k K
 |_::K=>kT k K
theorem BM{k:Nat}{f:St->Prop}:∀{K:an3 Fr},Fr.F k f∈K->f∈kT k K
 |[],h=>by cases h
 | .S _::K,h=>by
   rcases anJ.1 h with h|h
   ·cases h
   ·exact BM (K:=K) h
 | .B _::K,h=>by
   rcases anJ.1 h with h|h
   ·cases h
   ·exact BM (K:=K) h
 | .F k' g::K,h=>by
   rcases anJ.1 h with h|h
   ·cases h;simp [kT]
   ·unfold kT;cases k'==k with
    |true=>exact ann _ (BM h)
    |false=>exact BM h
def sk:WO->an5 (an3 (In×bQ))
 |some (.at _ _ _,l)=>some l
 |_=>none
def lW(live:an3 Nat)(m:Nat):WO->an5 (St×an3 (In×bQ))
 |some (.at (.loop _) _ s,l)=>(jW s live m).map (·,l)
 |_=>none
def Qh(live:an3 Nat)(m:Nat)(ks:an3 Nat)(kn:an3 (Nat×Nat)):WO->an5 (St×an3 (In×bQ))
 |some (.at (.loop _) _ s,l)=>(ma s live m ks kn).map (·,l)
 |_=>none
def Dq:WO->an5 (an3 (In×bQ))
 |some (.at _ (.S _::_) _,l)=>some l
 |_=>none
def pc(k:Nat)(live:an3 Nat)(m:Nat):WO->an5 (St×an3 (In×bQ))
 |some (.fin k' s,l)=>bif k'==k then(jW s live m).map (·,l)else none
 |_=>none
def Nu(k:Nat)(live:an3 Nat)(m:Nat)(ks:an3 Nat)(kn:an3 (Nat×Nat)):WO->an5 (St×an3 (In×bQ))
 |some (.fin k' s,l)=>bif k'==k then(ma s live m ks kn).map (·,l)else none
 |_=>none
def rY(P:an6)(rs:an3 ResultVar):WO->an5 (AV×an3 (In×bQ))
 |some (.ret s,l)=>(xa P rs s).map (·,l)
 |some (.nrm s,l)=>(xa P rs s).map (·,l)
 |_=>none
def Kx(P:an6)(rs:an3 ResultVar)(m:Nat):WO->an5 ((AV×an3 ao)×an3 (In×bQ))
 |some (.ret s,l)=>(xm P rs m s).map (·,l)
 |some (.nrm s,l)=>(xm P rs m s).map (·,l)
 |_=>none
def zC:an3 Fr->an5 (Code×an3 Fr)
 | .S y::K=>some (y,K)
 | .B _::K=>zC K
 |_=>none
def Hw(P:an6)(keep:an3 Nat)(as:an3 (Nat×bQ)):WO->an5 (an3 (Nat×AV)×an3 ao×an3 (In×bQ))
 |some (.at (.region _ ops dr) K s,_)=>bif (!dr||qk ops)&&(zC K).isSome then qq P dr ops.toList as keep s else none
 |_=>none
def ie(k:Nat)(f:St->Prop)(s:St):WO->WO
 |some (.at (.loop b) K _,_)=>some (.at b (.F k f::K) s,[])
 |_=>none
def Kw(k:Nat)(f:St->Prop):WO->WO
 |some (.at c (.S _::K) s,_)=>some (.at c (.F k f::K) s,[])
 |_=>none
def Iy(s:St):WO->WO
 |some (.at _ (.S y::K) _,_)=>some (.at y K s,[])
 |_=>none
def tg(Δ:an3 (Nat×AV))(h':an3 ao):WO->WO
 |some (.at _ K s,_)=>match zC K with
  |some (y,K')=>some (.at y K' ⟨s.n,Δ++s.t,h'⟩,[])
  |none=>none
 |_=>none
def WT(f:St->St):WO->WO
 |some (.at c K s,l)=>some (.at c K (f s),l)
 |_=>none
def YR:Nat:=4000
def wk(P:an6)(w:WO)(aw:an3 (an3 (Nat×Ob P))):WO:=
 match w with
 |some (.at c K s,_)=>mK P YR (.c c) K (aw.map iU) s
 |_=>none
def dR{P:an6}(aw:an3 (an3 (Nat×Ob P))):an3 (In×bQ):=aw.flatMap jj
theorem ahz{P:an6}(aw:an3 (an3 (Nat×Ob P))):fY P (dR aw):=λp hp=>by
 obtain⟨l,_,h⟩:=List.mem_flatMap.1 hp;exact pY l p h
theorem rK{α β:Type}{x:an5 α}{l:β}{y:α}{m:β}(h:x.map (·,l)=some (y,m)):x=some y/\l=m:=by
 cases x with
 |none=>cases h
 |some z=>cases h;exact⟨rfl,rfl⟩
def EW(P:an6)(r:an5 Nat)(N0:Nat)(Q:Exit->St->Prop):WO->Prop
 |some (.at c K s,_)=>bw P r N0 c (hO P r N0 Q K) s
 |_=>True
structure GW(P:Program)(r:Option Nat)(N0:Nat)(Q:Exit->St->Prop)(w:WO):Prop where
 run:EW P r N0 Q w
section
variable {P:an6} {r:an5 Nat} {N0:Nat} {Q:Exit->St->Prop} {w0:WO}
theorem oa{aw:an3 (an3 (Nat×Ob P))}(hm:P.follows .mixedOrders=true){w:WR}(e:wk P w0 aw=some (w,dR aw))(hp:∀K,(∀k f,Fr.F k f∈K->Fr.F k f∈wK w0)->Fz P r N0 Q K w):GW P r N0 Q w0:=by
 constructor
 unfold wk at e;split at e
 ·next c K s l=>exact Zw hm YR (.c c) K _ s w _ e (ahz aw) (hp K λk f h=>h)
 ·cases e
theorem je(hm:P.follows .mixedOrders=true)(aw:an3 (an3 (Nat×Ob P)))(k:GW P r N0 Q (wk P w0 aw))(e:sk (wk P w0 aw)=some (dR aw):=by kernel_rfl):GW P r N0 Q w0:=by
 generalize hw:wk P w0 aw=w at e k;unfold sk at e;split at e
 ·cases e;exact oa hm hw λK _=>k.run
 ·cases e
theorem agV(hm:P.follows .mixedOrders=true){fn:Func}{R:AV}(aw:an3 (an3 (Nat×Ob P)))(e:rY P fn.results.toList (wk P w0 aw)=some (R,dR aw)):GW P r N0 (kQ P fn R) w0:=by
 generalize hw:wk P w0 aw=w at e;unfold rY at e;split at e
 ·obtain⟨e1,rfl⟩:=rK e;exact oa hm hw λK _=>e1
 ·obtain⟨e1,rfl⟩:=rK e;exact oa hm hw λK _=>e1
 ·cases e
theorem aks(hm:P.follows .mixedOrders=true){fn:Func}{m:Nat}{R:AV}{H:an3 ao}(aw:an3 (an3 (Nat×Ob P)))(e:Kx P fn.results.toList m (wk P w0 aw)=some ((R,H),dR aw)):GW P r N0 (uH P fn m R H) w0:=by
 generalize hw:wk P w0 aw=w at e;unfold Kx at e;split at e
 ·obtain⟨e1,rfl⟩:=rK e;exact oa hm hw λK _=>e1
 ·obtain⟨e1,rfl⟩:=rK e;exact oa hm hw λK _=>e1
 ·cases e
theorem wr(hm:P.follows .mixedOrders=true){fn:Func}{R:AV}(aw:an3 (an3 (Nat×Ob P)))(e:rY P fn.results.toList (wk P w0 aw)=some (R,dR aw):=by kernel_rfl):GW P r N0 (kQ P fn R) w0:=agV hm aw e
theorem m5(hm:P.follows .mixedOrders=true){fn:Func}{m:Nat}{R:AV}{H:an3 ao}(aw:an3 (an3 (Nat×Ob P)))(e:Kx P fn.results.toList m (wk P w0 aw)=some ((R,H),dR aw):=by kernel_rfl):GW P r N0 (uH P fn m R H) w0:=aks hm aw e
structure JY{ι:Type}(k:Nat)(live:List Nat)(m:Nat)(st:ι->St)(I:ι->Prop)(μ:ι->Nat)(i0:ι)(f:St->Prop):Prop where
 h:∀s' i',jW s' live m=some (st i')->I i'->μ i'<μ i0->f s'
structure M5{ι:Type}(k:Nat)(live:List Nat)(m:Nat)(ks:List Nat)(kn:List (Nat×Nat))(st:ι->St)(I:ι->Prop)(μ:ι->Nat)(i0:ι)(f:St->Prop):Prop where
 h:∀s' i',jg m (s'.h.take m)->ma s' live m ks kn=some (st i')->I i'->μ i'<μ i0->f s'
structure A3{ι:Type}(k:Nat)(live:List Nat)(m:Nat)(st:ι->St)(I:ι->Prop)(f:St->Prop):Prop where
 h:∀s' i',jW s' live m=some (st i')->I i'->f s'
theorem L6(hm:P.follows .mixedOrders=true){k:Nat}{s1:St}{f:St->Prop}(aw:an3 (an3 (Nat×Ob P)))(e1:kT k (wK w0)=[f])(e:wk P w0 aw=some (.fin k s1,dR aw))(hf:f s1):GW P r N0 Q w0:=
 oa hm e λK hK g hg=>by
  have:=BM (hK k g hg);rw[e1,List.mem_singleton]at this;subst this;exact hf
theorem MG(hm:P.follows .mixedOrders=true){ι:Type}{live:an3 Nat}{m k:Nat}{st:ι->St}{I:ι->Prop}{μ:ι->Nat}{i0:ι}{f:St->Prop}(hf:JY k live m st I μ i0 f)(i:ι)(aw:an3 (an3 (Nat×Ob P)))(hI:I i)(hμ:μ i<μ i0:=by exact an1 _)(e1:kT k (wK w0)=[f]:=by kernel_rfl)(e:pc k live m (wk P w0 aw)=some (st i,dR aw):=by kernel_rfl):GW P r N0 Q w0:=by
 generalize hw:wk P w0 aw=w at e;unfold pc at e;split at e
 ·next k' s' l=>
  obtain⟨hb,e⟩:=kV e;obtain⟨e2,rfl⟩:=rK e;rw[beq_iff_eq]at hb;subst hb;exact L6 hm aw e1 hw (hf.h _ i e2 hI hμ)
 ·cases e
def tV:an3 ao->an3 (an3 (an3 AV))
 |[]=>[]
 | .vec _ _ cs::l=>cs::tV l
 |_::l=>tV l
structure VE(m:Nat) where
 x:List (List AV)
 ok:∀e k,(ao.vec e k x).Bb m
def VE.IJ{m:Nat}(xs:an3 (an3 D)):VE m:=⟨bU xs,λ_ _=>(lN (m:=m) (l:=[]) jK).1⟩
theorem FT{m:Nat}:∀(l:an3 ao)(kS:an3 (VE m)),tV l=kS.map VE.x->jg m l
 |[],_,_=>jK
 |B::l,kS,h=>by
  cases B with
  |vec e k cs=>
   cases kS with
   |nil=>cases h
   |cons v vs=>
    have J:cs=v.x:=(List.cons.inj h).1;subst J;exact⟨v.ok e k,FT l vs (List.cons.inj h).2⟩
  |_=>exact⟨trivial,FT l kS h⟩
def Gr(m:Nat):WO->an3 (an3 (an3 AV))
 |some (.fin _ s,_)=>tV (s.h.take m)
 |some (.at _ _ s,_)=>tV (s.h.take m)
 |_=>[]
theorem alM(hm:P.follows .mixedOrders=true){ι:Type}{live:an3 Nat}{m k:Nat}{ks:an3 Nat}{kn:an3 (Nat×Nat)}{st:ι->St}{I:ι->Prop}{μ:ι->Nat}{i0:ι}{f:St->Prop}(hf:M5 k live m ks kn st I μ i0 f)(i:ι)(aw:an3 (an3 (Nat×Ob P)))(hI:I i)(hμ:μ i<μ i0:=by exact an1 _)(e1:kT k (wK w0)=[f]:=by kernel_rfl)(kS:an3 (VE m):=[])(e0:Gr m (wk P w0 aw)=kS.map VE.x:=by kernel_rfl)(e:Nu k live m ks kn (wk P w0 aw)=some (st i,dR aw):=by kernel_rfl):GW P r N0 Q w0:=by
 generalize hw:wk P w0 aw=w at e e0;unfold Nu at e;split at e
 ·next k' s' l=>
  obtain⟨hb,e⟩:=kV e;obtain⟨e2,rfl⟩:=rK e;rw[beq_iff_eq]at hb;subst hb;exact L6 hm aw e1 hw (hf.h _ i (FT _ kS e0) e2 hI hμ)
 ·cases e
theorem l9(hm:P.follows .mixedOrders=true){ι:Type}{live:an3 Nat}{m k:Nat}{st:ι->St}{I:ι->Prop}{f:St->Prop}(hf:A3 k live m st I f)(i:ι)(aw:an3 (an3 (Nat×Ob P)))(hI:I i)(e1:kT k (wK w0)=[f]:=by kernel_rfl)(e:pc k live m (wk P w0 aw)=some (st i,dR aw):=by kernel_rfl):GW P r N0 Q w0:=by
 generalize hw:wk P w0 aw=w at e;unfold pc at e;split at e
 ·next k' s' l=>
  obtain⟨hb,e⟩:=kV e;obtain⟨e2,rfl⟩:=rK e;rw[beq_iff_eq]at hb;subst hb;exact L6 hm aw e1 hw (hf.h _ i e2 hI)
 ·cases e
theorem P8(hm:P.follows .mixedOrders=true){ι:Type}(k:Nat)(aw:an3 (an3 (Nat×Ob P)))(live:an3 Nat)(m:Nat)(st:ι->St)(I:ι->Prop)(μ:ι->Nat)(i0:ι)(hI:I i0)
 (body:∀i,I i->∀f:St->Prop,JY k live m st I μ i f->GW P r N0 Q (ie k f (st i) (wk P w0 aw)))
 (hN:N0<=m:=by exact anm rfl) (e:lW live m (wk P w0 aw)=some (st i0,dR aw):=by kernel_rfl):GW P r N0 Q w0:=by
 generalize hw:wk P w0 aw=w at e body;unfold lW at e;split at e
 ·next b K' s' l=>
  obtain⟨e2,rfl⟩:=rK e;refine oa hm hw λK _=> ?_;refine OW live m st I μ i0 hN e2 hI λi hi=> ?_;exact(body i hi _ ⟨λs' i' J h2 h3=>⟨i',J,h2,h3⟩⟩).run
 ·cases e
theorem ac3(hm:P.follows .mixedOrders=true){ι:Type}(k:Nat)(aw:an3 (an3 (Nat×Ob P)))(live:an3 Nat)(m:Nat)(ks:an3 Nat)(kn:an3 (Nat×Nat))(st:ι->St)(I:ι->Prop)(μ:ι->Nat)(i0:ι)(hI:I i0)
 (body:∀i,I i->∀f:St->Prop,M5 k live m ks kn st I μ i f->GW P r N0 Q (ie k f (st i) (wk P w0 aw)))
 (hN:N0<=m:=by exact anm rfl) (kS:an3 (VE m):=[]) (e0:Gr m (wk P w0 aw)=kS.map VE.x:=by kernel_rfl) (e:Qh live m ks kn (wk P w0 aw)=some (st i0,dR aw):=by kernel_rfl):GW P r N0 Q w0:=by
 generalize hw:wk P w0 aw=w at e e0 body;unfold Qh at e;split at e
 ·next b K' s' l=>
  obtain⟨e2,rfl⟩:=rK e;refine oa hm hw λK _=> ?_;refine L7 live m ks kn st I μ i0 hN ⟨FT _ kS e0,e2⟩ hI λi hi=> ?_;exact(body i hi _ ⟨λs' i' h0 J h2 h3=>⟨i',⟨h0,J⟩,h2,h3⟩⟩).run
 ·cases e
theorem Lr(hm:P.follows .mixedOrders=true){ι:Type}(k:Nat)(aw:an3 (an3 (Nat×Ob P)))(live:an3 Nat)(m:Nat)(st:ι->St)(I:ι->Prop)
 (br:∀f:St->Prop,A3 k live m st I f->GW P r N0 Q (Kw k f (wk P w0 aw)))
 (rest:∀i,I i->GW P r N0 Q (Iy (st i) (wk P w0 aw))) (hN:N0<=m:=by exact anm rfl) (e:Dq (wk P w0 aw)=some (dR aw):=by kernel_rfl):GW P r N0 Q w0:=by
 generalize hw:wk P w0 aw=w at e br rest;unfold Dq at e;split at e
 ·cases e
  refine oa hm hw λK _=> ?_;exact EB live m st I hN (br _ ⟨λs' i' J h2=>⟨i',J,h2⟩⟩).run λi hi=>(rest i hi).run
 ·cases e
theorem Kb:∀{K:an3 Fr}{y:Code}{K':an3 Fr}{s:St},zC K=some (y,K')->bw P r N0 y (hO P r N0 Q K') s->hO P r N0 Q K .normal s
 |[],_,_,_,h,_=>by cases h
 | .S y::K,_,_,_,h,k=>by cases h;exact k
 | .B _::K,_,_,s,h,k=>Kb (K:=K) (s:=s) h k
 | .F _ _::K,_,_,_,h,_=>by cases h
theorem afM(hm:P.follows .mixedOrders=true)(Δ:an3 (Nat×AV))(h':an3 ao)(e:∃aw:an3 (Nat×Ob P),Hw P (Δ.map (·.1)) (iU aw) (wk P w0 [])=some (Δ,h',jj aw))(k:GW P r N0 Q (tg Δ h' (wk P w0 [])))(e0:sk (wk P w0 [])=some []:=by kernel_rfl):GW P r N0 Q w0:=by
 generalize hw:wk P w0 []=w at e k e0;obtain⟨aw,e⟩:=e;unfold Hw at e;split at e
 ·next id ops dr K' s' l=>
  obtain⟨hb,e⟩:=kV e;rw[ang]at hb;cases e0
  refine oa hm hw λK _=> ?_;obtain⟨s1,J,h2,h3,h4⟩:=HK e;obtain⟨p,hp⟩:=Option.isSome_iff_exists.1 hb.2;obtain⟨y,K2⟩:=p;have hk:hO P r N0 Q K' .normal s1:=by
   refine Kb hp (IF (s:=s1) (s':=⟨s'.n,Δ++s'.t,h'⟩) h2.symm h3.symm h4 ?_);have k:=k.run;simp only[tg,hp]at k;exact k
  show bw P r N0 (.region id ops dr) (hO P r N0 Q K') s';have dz:=xS (P:=P) (ops:=ops.toList.toArray) (dr:=dr) (K:=hO P r N0 Q K' .normal) ops.toList 0 s' _ J (pY aw) hk;cases dr with
  |false=>exact eW (by simpa using dz)
  |true=>
   have hl:qk ops.toList.toArray=true:=by simpa using hb.1
   have:=HL (P:=P) (r:=r) (N0:=N0) (Q:=hO P r N0 Q K') (s:=s') (id:=id) (l:=ops.toList) hm hl (by simpa using dz)
   simpa using this
 ·cases e
def Y7(P:an6)(keep:an3 Nat)(as:an3 (Nat×bQ)):WO->an5 (an3 (an3 (Nat×AV)×an3 ao×an3 (In×bQ)))
 |some (.at (.region _ ops true) K s,_)=>bif (zC K).isSome then yK P ops.toList as keep s else none
 |_=>none
theorem amb(m:Nat)(hm:P.follows .mixedOrders=true)(Δ:an3 (Nat×AV))(h':an3 ao)(e:∃aw:an3 (Nat×Ob P),Y7 P (Δ.map (·.1)) (iU aw) (wk P w0 [])=some (List.replicate m (Δ,h',jj aw)))(k:GW P r N0 Q (tg Δ h' (wk P w0 [])))(e0:sk (wk P w0 [])=some []:=by kernel_rfl):GW P r N0 Q w0:=by
 generalize hw:wk P w0 []=w at e k e0;obtain⟨aw,e⟩:=e;unfold Y7 at e;split at e
 ·next id ops K' s' l=>
  obtain⟨hb,e⟩:=kV e;cases e0
  refine oa hm hw λK _=> ?_;obtain⟨p,hp⟩:=Option.isSome_iff_exists.1 hb;obtain⟨y,K2⟩:=p;show bw P r N0 (.region id ops true) (hO P r N0 Q K') s';have:=rte (r:=r) (N0:=N0) (Q:=hO P r N0 Q K') (id:=id) (ol:=ops.toList) (n:=s'.n) (t:=s'.t) (h:=s'.h) m hm aw Δ h' e (Kb hp (by
   have k:=k.run;simp only[tg,hp]at k;exact k))
  simpa using this
 ·cases e
def Tx(P:an6)(keep:an3 Nat)(as:an3 (Nat×bQ)):WO->an5 (an3 (Nat×AV)×an3 ao×an3 (In×bQ))
 |some (.at (.region _ ops true) K s,_)=>bif (zC K).isSome&&EL true ops (List.range ops.toList.length)&&DX as 0 ops.toList then qq P false ops.toList as keep s else none
 |_=>none
theorem A7(hm:P.follows .mixedOrders=true)(aw:an3 (Nat×Ob P))(Δ:an3 (Nat×AV))(h':an3 ao)(k:GW P r N0 Q (tg Δ h' (wk P w0 [])))(e:Tx P (Δ.map (·.1)) (iU aw) (wk P w0 [])=some (Δ,h',jj aw):=by kernel_rfl)(e0:sk (wk P w0 [])=some []:=by kernel_rfl):GW P r N0 Q w0:=by
 generalize hw:wk P w0 []=w at e k e0;unfold Tx at e;split at e
 ·next id ops K' s' l=>
  obtain⟨hb,e⟩:=kV e;rw[ang,ang]at hb;cases e0
  refine oa hm hw λK _=> ?_;obtain⟨p,hp⟩:=Option.isSome_iff_exists.1 hb.1.1;obtain⟨y,K2⟩:=p;show bw P r N0 (.region id ops true) (hO P r N0 Q K') s';have hk:bw P r N0 y (hO P r N0 Q K2) ⟨s'.n,Δ++s'.t,h'⟩:=by
   have k:=k.run;simp only[tg,hp]at k;exact k
  obtain⟨s1,J,h2,h3,h4⟩:=HK e;have xw:hO P r N0 Q K' .normal s1:=Kb hp (IF (s:=s1) (s':=⟨s'.n,Δ++s'.t,h'⟩) h2.symm h3.symm h4 hk);have hl:EL true ops.toList.toArray (List.range ops.toList.length)=true:=by simpa using hb.1.2
  have:bw P r N0 (.region id ops.toList.toArray true) (hO P r N0 Q K') s':=by
   refine Th (m:=true) (List.range ops.toList.length) hm (by simp) hl ?_;rw[Sv];exact Pa ops.toList 0 _ _ J (pY aw) hb.2 xw
  simpa using this
 ·cases e
def Rb(b:Nat):ao->an3 (Nat×Nat×Nat×Nat)
 | .cells cs=>AV.uQ b cs
 | .lp .. =>[(1,0,0,0)]
 | .it .. =>[(1,0,0,0)]
 | .eG _ cs=>AV.uQ b cs
 |_=>[]
structure VM(b L kk:Nat)(ys:List (List D)) where
 x:List (List AV)
 y:List (List AV)
 ok:ys.length=L->y=x.map (·.map (AV.di b kk ys))
def VM.IJ{b L kk:Nat}{ys:an3 (an3 D)}(zs:an3 (an3 D)):VM b L kk ys:=⟨bU zs,bU zs,λ_=>(abf (λd=>by simp [AV.di]) zs).symm⟩
def pR(b:Nat)(ys:an3 (an3 D)):an3 ao->an3 (an3 (an3 AV))->an3 ao
 |[],_=>[]
 |B::l,vs=>match B with
  | .vec e k cs=>match vs with
    |v::vs=> .vec e k v::pR b ys l vs
    |[]=> .vec e k cs::pR b ys l []
  | .cells cs=> .cells (AV.nO b ys cs)::pR b ys l vs
  | .eG T cs=> .eG T (AV.nO b ys cs)::pR b ys l vs
  |B=>B::pR b ys l vs
theorem TQ{b L kk:Nat}{ys:an3 (an3 D)}(hL:ys.length=L):∀(h:an3 ao)(vs:an3 (VM b L kk ys)),tV h=vs.map VM.x->(∀q∈h.flatMap (Rb b),q=(0,ys.length,ys.length,kk))->pR b ys h (vs.map VM.y)=h.map (ao.lF (AV.di b kk ys))
 |[],_,_,_=>rfl
 |B::l,vs,hv,ho=>by
  have hl:∀vs:an3 (VM b L kk ys),tV l=vs.map VM.x->pR b ys l (vs.map VM.y)=l.map (ao.lF (AV.di b kk ys)):=λvs hv=>TQ hL l vs hv λq hq=>ho q (by rw[List.flatMap_cons];exact List.mem_append_right _ hq);have hb:∀q∈Rb b B,q=(0,ys.length,ys.length,kk):=λq hq=>ho q (by rw[List.flatMap_cons];exact List.mem_append_left _ hq);cases B with
  |vec e k cs=>
   cases vs with
   |nil=>cases hv
   |cons v vs=>
    have hv1:cs=v.x:=(List.cons.inj hv).1;have e1:(ao.vec e k cs).lF (AV.di b kk ys)= .vec e k v.y:=by rw[v.ok hL,hv1];rfl
    show ao.vec e k v.y::pR b ys l (vs.map VM.y)=ao.lF (AV.di b kk ys) (.vec e k cs)::l.map _;rw[hl vs (List.cons.inj hv).2,e1]
  |cells cs=>
   have e1:(ao.cells cs).lF (AV.di b kk ys)= .cells (AV.nO b ys cs):=by
    rw[<-AN cs hb,wg];rfl
   show ao.cells (AV.nO b ys cs)::pR b ys l (vs.map VM.y)=ao.lF (AV.di b kk ys) (.cells cs)::l.map _;rw[hl vs hv,e1]
  |front e k n=>exact congrArg (ao.front e k n::·) (hl vs hv)
  |ig e q=>exact congrArg (ao.ig e q::·) (hl vs hv)
  |map kv=>exact congrArg (ao.map kv::·) (hl vs hv)
  |iy kv=>exact congrArg (ao.iy kv::·) (hl vs hv)
  |gone=>exact congrArg (ao.gone::·) (hl vs hv)
  |lp ls p as bd cs=>have:=congrArg Prod.fst (hb (1,0,0,0) ank);cases this
  |it sn cs=>have:=congrArg Prod.fst (hb (1,0,0,0) ank);cases this
  |eG T0 cs=>
   have e1:(ao.eG T0 cs).lF (AV.di b kk ys)= .eG T0 (AV.nO b ys cs):=by
    rw[<-AN cs hb,wg];rfl
   show ao.eG T0 (AV.nO b ys cs)::pR b ys l (vs.map VM.y)=ao.lF (AV.di b kk ys) (.eG T0 cs)::l.map _;rw[hl vs hv,e1]
theorem aiY{c:Code}{s:St}(live:an3 Nat)(b:Nat)(xs:an3 (an3 D)){e k L:Nat}(h':an3 ao)(hb:s.h[b]?=some (.vec e k (bU xs)))(jt:∀c∈xs,c.all D.A0=true)(hL:xs.length=L)
 (ho:∀q∈live.flatMap λi=>(bm s.t i).uT b,q=(0,xs.length,xs.length,k)) (hh:h'=s.h.map (ao.lF (AV.di b k xs))) (K:bw P r N0 c Q ⟨s.n,live.map (λi=>(i,(bm s.t i).mlt b xs)),h'.set b .gone⟩):bw P r N0 c Q s:=by
 constructor
 intro G w a n hs hN;obtain⟨G',hE,e1,cv⟩:=hs.Ug xs hb jt;refine wpIn_mono (K.run G' w a n (cv.less rfl (by rw[hh]) λi=> ?_) (by rw[e1];exact hN)) λ_ _ _ hn=>hn.trans (hE.less hN);show bm (live.map (λi=>(i,(bm s.t i).mlt b xs))) i=bm (s.t.map λp=>(p.1,p.2.di b k xs)) i\/_;rw[rV (λk=>(bm s.t k).mlt b xs),J9 (AV.di b k xs) (by simp [AV.di])];split
 ·next hi=>
  left
  refine(Ut _ λq hq=>ho q ?_).symm;exact List.mem_flatMap.2 ⟨i,hi,hq⟩
 ·exact .inr rfl
def adl(live:an3 Nat)(b:Nat)(s:St):an3 (Nat×Nat×Nat×Nat):=(live.flatMap λi=>(bm s.t i).uT b)++s.h.flatMap (Rb b)
def ac0(live:an3 Nat)(b:Nat)(ys:an3 (an3 D))(vs:an3 (an3 (an3 AV)))(s:St):St:=⟨s.n,live.map (λi=>(i,(bm s.t i).mlt b ys)),(pR b ys s.h vs).set b .gone⟩
theorem aiJ(live:an3 Nat)(b:Nat){xs:an3 (an3 D)}(ys:an3 (an3 D))(L c e k:Nat)(vs:an3 (VM b L k ys))(hL:xs.length=L)(hy:ys=xs)(jt:∀c∈xs,c.all D.A0=true)(K:GW P r N0 Q (WT (ac0 live b ys (vs.map VM.y)) w0))(hb:(wS w0).h[b]?=some (.vec e k (bU xs)):=by kernel_rfl)(ho:adl live b (wS w0)=List.replicate c (0,L,L,k):=by kernel_rfl)(hv:tV (wS w0).h=vs.map VM.x:=by kernel_rfl):GW P r N0 Q w0:=by
 subst hy;constructor
 unfold EW;split
 ·next c K' s l=>
  have nq:=acs hL ho;exact aiY live b ys _ hb jt hL (λq hq=>nq q (List.mem_append_left _ hq)) (TQ hL s.h vs hv λq hq=>nq q (List.mem_append_right _ hq)) K.run
 ·trivial
theorem VC{m:Nat}:([]:an3 ao).all (ao.aC m)=true:=rfl
theorem zT{B:ao}{l:an3 ao}{m:Nat}(h:B.aC m=true)(k:l.all (ao.aC m)=true):(B::l).all (ao.aC m)=true:=by rw[anZ,h,k];rfl
theorem ZP{e k m:Nat}{xs:an3 (an3 D)}:(ao.vec e k (bU xs)).aC m=true:=U8 xs
theorem afm{m n:Nat}{T:an3 (Nat×AV)}{LP:ao}{next:an3 ao->Prop}{Q:Exit->St->Prop}{s:St}(hs:an3 ao)(hl:hs.length=m)(hb:hs.all (ao.aC (m+1))=true)(hc:jg (m+1) (s.h.take (m+1))/\ma s [] (m+1) [] []=some ⟨s.n,[],hs++[LP]⟩)(hn:next hs):Ea m n T LP next Q .normal s:=⟨hs,hl,hb,⟨λh=>h.ma hc.1 hc.2⟩,hn⟩
theorem amv(k:Nat)(xs:an3 (an3 D))(hx:(bm (wS w0).t k).fE=some xs)(h:AU (.sl xs)->GW P r N0 Q w0):GW P r N0 Q w0:=by
 constructor
 unfold EW;split
 ·next c K s l=>exact xV k xs hx λhl=>(h hl).run
 ·trivial
theorem aic(b i:Nat)(xs:an3 (an3 D))(hx:(((wS w0).h[b]?).bind λB=>match B with| .cells cs=>(cs[i]?).bind AV.fE|_=>none)=some xs)(h:AU (.sl xs)->GW P r N0 Q w0):GW P r N0 Q w0:=by
 constructor
 unfold EW;split
 ·next c K s l=>exact ale b i xs hx λhl=>(h hl).run
 ·trivial
def adS(k e sz:Nat)(xs:an3 (an3 D))(s:St):St:=⟨s.n,(k, .own s.h.length xs)::s.t,s.h++[.front e sz xs.length]⟩
def RS(xs:an3 (an3 D)):AV->Bool
 | .d (.v (.slice none 0 0))=>xs.isEmpty
 |_=>false
theorem afb{xs:an3 (an3 D)}{x:AV}(h:RS xs x=true):x= .d (.v (.slice none 0 0))/\xs=[]:=by
 unfold RS at h;split at h
 ·exact⟨rfl,List.isEmpty_iff.1 h⟩
 ·cases h
theorem tC(k e sz:Nat)(xs:an3 (an3 D))(hx:bm (wS w0).t k= .full xs\/RS xs (bm (wS w0).t k)=true)(h:GW P r N0 Q (WT (adS k e sz xs) w0)):GW P r N0 Q w0:=by
 constructor
 unfold EW;split
 ·next c K s l=>exact Li k e sz xs (hx.imp id afb) h.run
 ·trivial
end
theorem bc{α:Type}{c:Bool}{a b x:α}{G:Prop}(h:(bif c then a else b)=x)(t:c=true->a=x->G)(f:c=false->b=x->G):G:=by
 cases c with
 |true=>exact t rfl h
 |false=>exact f rfl h
theorem sj{α:Type}{a b:α}(h:some a=some b):a=b:=anx h
theorem uJ{α:Type}{c:Bool}{x:an5 α}{r:α}(h:(bif c then x else none)=some r):c=true/\x=some r:=by
 cases c with
 |true=>exact⟨rfl,h⟩
 |false=>cases h
def yq(fn:Func)(args:an3 AV)(h:an3 ao):WO:=some (.at (fn.body.getD .skip) [] {n:=args.length+(fn.ntmps-args.length),t:=lS 0 args,h:=h},[])
theorem ae0{P:an6}{f:FuncId}{fn:Func}{args:an3 AV}{R:AV}(hf:P.funcs[f]?=some fn)(hb:fn.body.isSome=true)(hn:(fn.name== "runtime.NumGoroutine")=false)
 (hw:GW P none 0 (kQ P fn R) (yq fn args [])):fP P f args (·=R):=by
 obtain⟨c,hc⟩:=Option.isSome_iff_exists.1 hb;refine qj hf hc hn ?_;have:fn.body.getD .skip=c:=by rw[hc];rfl
 rw[<-this];exact hw.run
theorem adA{P:an6}{f:FuncId}{fn:Func}{args:an3 AV}{h H:an3 ao}{R:AV}(m:Nat)(hf:P.funcs[f]?=some fn)(hb:fn.body.isSome=true)(hn:(fn.name== "runtime.NumGoroutine")=false)(hm:h.length<=m)
 (hw:GW P none h.length (uH P fn m R H) (yq fn args h)):cF P f args h λr1 J=>r1=R/\J=H:=by
 obtain⟨c,hc⟩:=Option.isSome_iff_exists.1 hb;refine qG m hf hc hn hm ?_;have:fn.body.getD .skip=c:=by rw[hc];rfl
 rw[<-this];exact hw.run
section zo
variable {P:an6}
def oL{α:Type}{f:an3 α->an3 (an3 D)}(l:an3 α)(h:(f l).length=l.length):Ob P:=⟨_,_, .len h⟩
def oE{xs:an3 (an3 D)}{k:Nat}{c:an3 D}(h:xs[k]?=some c):Ob P:=⟨_,_, .el (xs:=xs) (i:=(k:Int)) (Int.natCast_nonneg _) h⟩
def oq{a b:AV}(h:a=b):Ob P:=⟨_,_, .eq h⟩
def os(ks:an3 Nat)(o:Ob P)(l:an3 (Nat×Ob P)):an3 (Nat×Ob P):=ks.foldr (λk t=>(k,o)::t) l
noncomputable def soI(x:Nat×Ob P)(l:an3 (Nat×Ob P)):an3 (Nat×Ob P):=List.rec [x] (λy t r=>bif Nat.ble x.1 y.1 then x::y::t else y::r) l
noncomputable def so(l:an3 (Nat×Ob P)):an3 (Nat×Ob P):=l.foldr soI []
theorem EK{xs:an3 (an3 D)}{n:Nat}(e:xs.length=n)(h:AU (.sl xs)):n<=maxLen:=e▸Js h
end zo
inductive jw(P:Program):TypeId->List D->Prop
 |bool {t:TypeId} (b:Bool) (h:P.underlying t=some .bool):jw P t [.v (.bool b)]
 |int {t:TypeId} {k:IntKind} (n:Int) (h:P.underlying t=some (.int k)) (w:(Lit.int k n).wf=true):jw P t [.v (.int k n)]
 |str {t:TypeId} (s:ByteArray) (h:P.underlying t=some .string) (w:s.size<=maxLen):jw P t [.v (.string s)]
 |sl {t e:TypeId} (xs:List (List D)) (h:P.underlying t=some (.slice e)) (w:xs.length<=140737488355328) (hx:∀x∈xs,jw P e x):jw P t [.sl xs]
 |struct {t:TypeId} {fs:Array Field} (parts:List (List D)) (h:P.underlying t=some (.struct fs)) (hl:parts.length=fs.size) (hx:∀(i:Nat)(f:Field)(x:List D),fs[i]?=some f->parts[i]?=some x->jw P f.type x):jw P t parts.flatten
section
variable {P:an6} {t:TypeId} {xs:an3 D}
theorem jw.aan{k:IntKind}(h:jw P t xs)(ht:P.underlying t=some (.int k)):∃n,xs=[.v (.int k n)]/\k.min<=n/\n<=k.max:=by
 cases h with
 |bool b h=>rw[ht]at h;cases h
 |int n h w=>
  rw[ht]at h;cases h;unfold Lit.wf at w;simp only[ang,decide_eq_true_eq]at w;exact⟨n,rfl,w⟩
 |str s h=>rw[ht]at h;cases h
 |sl l h=>rw[ht]at h;cases h
 |struct p h=>rw[ht]at h;cases h
theorem jw.abG{e:TypeId}(h:jw P t xs)(ht:P.underlying t=some (.slice e)):∃l,xs=[.sl l]/\l.length<=140737488355328/\∀x∈l,jw P e x:=by
 cases h with
 |bool b h=>rw[ht]at h;cases h
 |int n h=>rw[ht]at h;cases h
 |str s h=>rw[ht]at h;cases h
 |sl l h w hx=>rw[ht]at h;cases h;exact⟨l,rfl,w,hx⟩
 |struct p h=>rw[ht]at h;cases h
theorem jw.ait{fs:Array Field}(h:jw P t xs)(ht:P.underlying t=some (.struct fs)):∃parts:an3 (an3 D),xs=parts.flatten/\parts.length=fs.size/\∀(i:Nat)(f:Field)(x:an3 D),fs[i]?=some f->parts[i]?=some x->jw P f.type x:=by
 cases h with
 |bool b h=>rw[ht]at h;cases h
 |int n h=>rw[ht]at h;cases h
 |str s h=>rw[ht]at h;cases h
 |sl l h=>rw[ht]at h;cases h
 |struct p h hl hx=>rw[ht]at h;cases h;exact⟨p,rfl,hl,hx⟩
theorem RX{α:Type}{f:α->an3 D}{Q:α->Prop}:∀l:an3 (an3 D),(∀x∈l,∃a,x=f a/\Q a)->∃r:an3 α,l=r.map f/\∀a∈r,Q a
 |[],_=>⟨[],rfl,λ_ h=>by cases h⟩
 |x::l,h=>by
  obtain⟨a,rfl,ha⟩:=h x ank;obtain⟨r,rfl,hr⟩:=RX l λy hy=>h y (ann _ hy);refine⟨a::r,rfl,λb hb=> ?_⟩;rcases anJ.1 hb with rfl|hb
  ·exact ha
  ·exact hr b hb
end
def Na(P:an6)(S:an3 TypeId):Bool:=S.all λt=>match P.underlying t with
 |some .bool|some (.int _)|some .string=>true
 |some (.slice e)=>S.contains e&&(decide (0<P.cellsOf e)&&decide (0<P.bytesOf e))
 |some (.struct fs)=>P.consecB fs.toList 0 (P.cellsOf t)&&fs.toList.all λf=>S.contains f.type
 |_=>false
def jZ(S:Nat->Nat->Prop)(w:an8)(cs:an3 an7)(xs:an3 D):Prop:=xs.length=cs.length/\∀(i:Nat)(u:an7)(x:D),cs[i]?=some u->xs[i]?=some x->dg S w u x/\u.oneCell'=true
theorem jZ.nil{S:Nat->Nat->Prop}{w:an8}:jZ S w [] []:=⟨rfl,λi u x h=>by simp at h⟩
theorem jZ.one{S:Nat->Nat->Prop}{w:an8}{u:an7}{x:D}(h:dg S w u x)(J:u.oneCell'=true):jZ S w [u] [x]:=⟨rfl,λi v y hv hy=>by
 cases i with
 |zero=>cases hv;cases hy;exact⟨h,J⟩
 |succ i=>simp at hv⟩
theorem jZ.app{S:Nat->Nat->Prop}{w:an8}{a b:an3 an7}{x y:an3 D}(h:jZ S w a x)(k:jZ S w b y):jZ S w (a++b) (x++y):=by
 refine⟨by simp [h.1,k.1],λi u z hu hz=> ?_⟩;by_cases hi:i<a.length
 ·rw[ano hi]at hu;rw[ano (by rw[h.1];exact hi)]at hz;exact h.2 i u z hu hz
 ·rw[anu (by omega)]at hu;rw[anu (by rw[h.1];omega),h.1]at hz;exact k.2 _ u z hu hz
theorem Y0{α:Type}{Q:Nat->α->Prop}:∀n:Nat,(∀i,i<n->∃x,Q i x)->∃l:an3 α,l.length=n/\∀i x,l[i]?=some x->Q i x
 |0,_=>⟨[],rfl,λi x h=>by simp at h⟩
 |n+1,h=>by
  obtain⟨l,J,h2⟩:=Y0 n λi hi=>h i (by omega);obtain⟨x,hx⟩:=h n (by omega);refine⟨l++[x],by simp [J],λi y hy=> ?_⟩;by_cases hi:i<l.length
  ·rw[ano hi]at hy;exact h2 i y hy
  ·rw[anu (by omega)]at hy;have:i-l.length=0:=by
     by_cases e:i-l.length=0
     ·exact e
     ·rw[anL (by simp;omega)]at hy;cases hy
   rw[this]at hy;cases hy;have:i=n:=by omega
   rw[this];exact hx
theorem abc{a:Addr}(h:a.spot=none)(n:Nat):a.add n=⟨a.block,a.off+n,none⟩:=by
 unfold Addr.add;split
 ·next e=>subst e;cases a;simp only at h;subst h;rfl
 ·rfl
section
variable {H:Type} {enc:TypeId×an7->H} {P:an6} {W:an8} {Ts:an3 TypeId}
abbrev tk(W:an8):Nat->Nat->Prop:=λb _=>b<W.heap.size
theorem alz{S:Nat->Nat->Prop}{w:an8}:dg S w (.slice none 0 0) (.sl []):=
 .sl none 0 0 0 0 [] (λ_ _=>undef) (λh=>absurd rfl h) (anp _) (by simp) (λ_ h=>by cases h) (λi j hi=>by simp at hi) (λi j x d hx=>by simp at hx)
theorem YP{e:TypeId}:∀{l:an3 (DataW H)}{d:DataW H},d∈l->∀n∈d.weights P e,n∈DataW.weightsAll P e l
 |[],_,h,_,_=>by cases h
 |x::l,d,h,n,hn=>by
  simp only[DataW.weightsAll,anR];rcases anJ.1 h with rfl|h
  ·exact .inl hn
  ·exact .inr (YP h n hn)
theorem Tr{fuel:Nat}(IH:∀(t:TypeId)(cs:an3 an7)(d:DataW H)(ps:an3 MemPlace),t∈Ts->(∀n∈d.weights P t,n<=reachBytes)->DataW.trod enc P W 0 (λ_=>true) true fuel t cs=some (d,ps)->∃xs,jw P t xs/\jZ (tk W) W cs xs)(cs:an3 an7):
 ∀(fs:an3 Field)(off:Nat)(ys:an3 (DataW H×an3 MemPlace)),P.consecB fs off cs.length=true->(∀f∈fs,f.type∈Ts)->(∀n∈DataW.weightsEach P (fs.map (·.type)) (ys.map (·.1)),n<=reachBytes)->
  fs.mapM (λf=>DataW.trod enc P W 0 (λ_=>true) true fuel f.type ((cs.drop f.offset).take (P.cellsOf f.type)))=some ys->
  ∃parts:an3 (an3 D),parts.length=fs.length/\(∀(i:Nat)(f:Field)(x:an3 D),fs[i]?=some f->parts[i]?=some x->jw P f.type x)/\jZ (tk W) W (cs.drop off) parts.flatten
 |[],off,ys,hc,_,_,_=>by
  simp only[Program.consecB,beq_iff_eq]at hc;refine⟨[],rfl,λi f x h=>by simp at h,?_⟩;rw[List.drop_eq_nil_iff.2 (by omega)];exact jZ.nil
 |f::fs,off,ys,hc,hS,hw,hm=>by
  simp only[Program.consecB,ang,beq_iff_eq]at hc;obtain⟨ahL,hc⟩:=hc;rw[List.mapM_cons]at hm;cases hx:DataW.trod enc P W 0 (λ_=>true) true fuel f.type ((cs.drop f.offset).take (P.cellsOf f.type))with
  |none=>simp [hx]at hm
  |some p=>
   cases lK:fs.mapM (λf=>DataW.trod enc P W 0 (λ_=>true) true fuel f.type ((cs.drop f.offset).take (P.cellsOf f.type)))with
   |none=>simp [hx,lK]at hm
   |some ps=>
    obtain⟨d,q⟩:=p;obtain rfl:(d,q)::ps=ys:=by simpa [hx,lK]using hm
    simp only[anE,DataW.weightsEach,anR]at hw;obtain⟨x,J,h2⟩:=IH f.type _ d q (hS f ank) (λn hn=>hw n (.inl hn)) hx;obtain⟨parts,k1,k2,k3⟩:=Tr IH cs fs (off+P.cellsOf f.type) ps hc (λg hg=>hS g (ann _ hg)) (λn hn=>hw n (.inr hn)) lK;refine⟨x::parts,by simp [k1],λi g y hg hy=> ?_,?_⟩
    ·cases i with
     |zero=>cases hg;cases hy;exact J
     |succ i=>exact k2 i g y (by simpa using hg) (by simpa using hy)
    ·rw[List.flatten_cons];rw[ahL]at h2;have:=h2.app k3
     rwa [take_drop_step]at this
theorem Zv(hT:Na P Ts=true):∀(fuel:Nat)(t:TypeId)(cs:an3 an7)(d:DataW H)(ps:an3 MemPlace),t∈Ts->(∀n∈d.weights P t,n<=reachBytes)->DataW.trod enc P W 0 (λ_=>true) true fuel t cs=some (d,ps)->∃xs,jw P t xs/\jZ (tk W) W cs xs
 |0,t,cs,d,ps,_,_,h=>by simp [DataW.trod]at h
 |fuel+1,t,cs,d,ps,ht,xU,h=>by
  have IH:=Zv hT fuel;have mY:=anF.1 hT t ht;unfold DataW.trod at h;split at h
  ·next b e=>exact⟨_, .bool b e,jZ.one (.v _) rfl⟩
  ·next k k' n e=>
   split at h
   ·next hk=>obtain⟨rfl,hw⟩:=hk;exact⟨_, .int n e hw,jZ.one (.v _) rfl⟩
   ·cases h
  ·next e=>rw[e]at mY;cases mY
  ·next s e=>
   split at h
   ·next hw=>exact⟨_, .str s e hw,jZ.one (.v _) rfl⟩
   ·cases h
  ·next e=>rw[e]at mY;cases mY
  ·next e=>rw[e]at mY;cases mY
  ·next e e1=>exact⟨_, .sl [] e1 (Nat.zero_le _) (λx hx=>absurd hx anV),jZ.one alz rfl⟩
  ·next e a len cap e1=>
   rw[e1]at mY;simp only[ang,List.contains_iff_mem,decide_eq_true_eq]at mY;obtain⟨hme,Gg,py⟩:=mY;simp only at h;split at h
   ·next hb=>
    obtain⟨_,lk,xE⟩:=hb;rw[Option.bind_eq_some_iff]at h;obtain⟨elems,xF,zJ⟩:=h;rw[Option.map_eq_some_iff]at zJ;obtain⟨rest,_,zJ⟩:=zJ;cases zJ
    simp only[DataW.weights,e1,anJ,anR,anj]at xU;have hlen:elems.length=len:=by simpa using mapM_some_length xF
    have hQ:∀i,i<len->∃x:an3 D,jw P e x/\∃cw,W.cells? 0 (a.add (i*P.cellsOf e)) (P.cellsOf e)=some cw/\jZ (tk W) W cw x:=λi hi=>by
     have J:=mapM_some_get xF i i (by simp [hi]);rw[ani (by omega)]at J;rw[Option.bind_eq_some_iff]at J;obtain⟨cw,h2,h3⟩:=J;obtain⟨x,h4,h5⟩:=IH e cw elems[i].1 elems[i].2 hme (λn hn=>xU n (.inr (.inl (YP (List.mem_map.2 ⟨_,List.getElem_mem _,rfl⟩) n hn)))) h3;exact⟨x,h4,cw,h2,h5⟩
    obtain⟨xs,xM,Uk⟩:=Y0 len hQ;have Wr:xs≠ []->a.spot=none:=λcA=>by
     have h0:0<len:=by cases xs with|nil=>exact(cA rfl).elim|cons x l=>simp at xM;omega
     obtain⟨x,_,cw,h2,_⟩:=hQ 0 h0;obtain⟨_,h3,h4⟩:=World.cells?_some h2;have h5:=h4 0 Gg;rw[Nat.zero_mul]at h5;have e0:(a.add 0).add 0=a:=by simp [Addr.add]
     rw[e0,ani (by omega)]at h5;unfold World.cell? at h5;split at h5
     ·split at h5
      ·cases h5
      ·next hn=>simpa using hn
     ·cases h5
    have hcell:∀i x,xs[i]?=some x->x.length=P.cellsOf e/\∀j,j<P.cellsOf e->∃u,W.cell? ⟨a.block,a.off+i*P.cellsOf e+j,none⟩=some u/\u.oneCell'=true/\∀d,x[j]?=some d->dg (tk W) W u d:=λi x hx=>by
     obtain⟨_,cw,h2,h3⟩:=Uk i x hx;obtain⟨_,h4,h5⟩:=World.cells?_some h2;have hs:=Wr (λe=>by rw[e]at hx;simp at hx);refine⟨h3.1.trans h4,λj hj=> ?_⟩;have h6:=h5 j hj;rw[abc hs,abc rfl,ani (by omega)]at h6;have hjx:j<x.length:=by rw[h3.1,h4];exact hj
     have hd:x[j]?=some x[j]:=ani hjx;have h7:=h3.2 j _ _ (ani (by omega)) hd;exact⟨_,h6,h7.2,λd iN=>by rw[hd]at iN;cases iN;exact h7.1⟩
    have alV:xs.length<=140737488355328:=by
     have J:=xU _ (.inl rfl);have h2:(elems.length+rest.length)*1<=(elems.length+rest.length)*P.bytesOf e:=Nat.mul_le_mul_left _ py;have h3:reachBytes<=140737488355328:=by decide
     omega
    refine⟨[.sl xs], .sl xs e1 alV (λx hx=> ?_),jZ.one ?_ rfl⟩
    ·obtain⟨i,hi,rfl⟩:=List.mem_iff_getElem.1 hx;exact(Uk i _ (ani hi)).1
    ·rw[<-xM];refine .sl (some a) a.block a.off cap (P.cellsOf e) xs (λi j=>(W.cell? ⟨a.block,a.off+i*P.cellsOf e+j,none⟩).getD undef) (λcA=> ?_) (by omega) xE (λx hx=> ?_) (λi j hi hj=> ?_) λi j x d hx hd=> ?_
     ·have:=Wr cA;cases a;simp only at this;subst this;rfl
     ·obtain⟨i,hi,rfl⟩:=List.mem_iff_getElem.1 hx;exact(hcell i _ (ani hi)).1
     ·obtain⟨u,J,h2,_⟩:=(hcell i _ (ani hi)).2 j hj;refine⟨World.block_lt_of_cell? W ⟨a.block,a.off+i*P.cellsOf e+j,none⟩ J,?_,?_⟩
      ·rw[J];rfl
      ·rw[J];exact h2
     ·obtain⟨hl,hc⟩:=hcell i x hx;obtain⟨u,J,_,h3⟩:=hc j (by rw[<-hl];exact(ane.1 hd).1);simp only[J,Option.getD_some];exact h3 d hd
   ·cases h
  ·next cw fs e1=>
   rw[e1]at mY;simp only[ang,anF,List.contains_iff_mem]at mY;split at h
   ·next hl=>
    rw[Option.map_eq_some_iff]at h;obtain⟨ys,hm,zJ⟩:=h;cases zJ
    simp only[DataW.weights,e1]at xU;obtain⟨parts,k1,k2,k3⟩:=Tr IH _ fs.toList 0 ys (by rw[hl];exact mY.1) mY.2 xU hm;exact⟨_, .struct parts e1 (by simpa using k1) (λi f x hf=>k2 i f x (by simpa using hf)),by simpa using k3⟩
   ·cases h
  all_goals first|(cases h;done)|(exfalso;revert mY;(next e=>rw[e];intro h0;cases h0))
theorem agI{t:TypeId}{v:an7}{d:DataW H}{ps:an3 MemPlace}(hT:Na P Ts=true)(hm:t∈Ts)(hw:∀n∈d.weights P t,n<=reachBytes)(h:DataW.Trod enc P W 0 (λ_=>true) true t v d ps):∃xs,jw P t xs/\jZ (tk W) W v.cells.toList xs:=
 let ⟨fuel,h⟩:=h
 Zv hT fuel t _ d ps hm hw h
theorem adG{G:Gh}(hS:G.S=tk W){v:an7}{x:D}(h:jZ (tk W) W #[v].toList [x]):aD G W v (.d x):= .d (hS▸(h.2 0 v x rfl rfl).1)
end
end Go.Proofs.YtpeecnpmcbnahaaGreatDoor
