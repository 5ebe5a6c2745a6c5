/-
  Part 4 of the proof: AbsWk, OpenD.
-/
import Derived.Test.YtpeecnpmcbnahaaGreatDoorPq3
import Derived.ProofKit
import Derived.DataOpen
import Derived.SizedLaws
namespace Go.Proofs.YtpeecnpmcbnahaaGreatDoor
open Go.RowKit
set_option linter.unusedSimpArgs false
set_option linter.unusedVariables false
def Lo{α:Type}(x:AV)(k:AV->α):α:=
 match x with
 | .d y=>k (.d y)
 | .agg cs=>k (.agg cs)
 | .bj cs=>k (.bj cs)
 | .ptr n o=>fN n λn=>fN o λo=>k (.ptr n o)
 | .own n xs=>fN n λn=>k (.own n xs)
 | .fn f cs=>k (.fn f cs)
 | .mp n=>fN n λn=>k (.mp n)
 |x=>k x
theorem Zx{α:Type}(x:AV)(k:AV->α):Lo x k=k x:=by cases x<;>simp [Lo,A7]
def fT{α:Type}:aqP (Nat×AV)->(aqP (Nat×AV)->α)->α
 |[],k=>k []
 |(d,x)::l,k=>fN d λd=>Lo x λx=>fT l λl=>k ((d,x)::l)
theorem abj{α:Type}:∀(l:aqP (Nat×AV))(k:aqP (Nat×AV)->α),fT l k=k l
 |[],k=>rfl
 |(d,x)::l,k=>by rw[fT,A7,Zx,abj l]
def fC{α:Type}:aqP AV->(aqP AV->α)->α
 |[],k=>k []
 |x::l,k=>Lo x λx=>fC l λl=>k (x::l)
theorem VX{α:Type}:∀(l:aqP AV)(k:aqP AV->α),fC l k=k l
 |[],k=>rfl
 |x::l,k=>by rw[fC,Zx,VX l]
def fH{α:Type}:aqP aq->(aqP aq->α)->α
 |[],k=>k []
 | .cells cs::l,k=>fC cs λcs=>fH l λl=>k (.cells cs::l)
 | .front e z n::l,k=>fH l λl=>k (.front e z n::l)
 | .map kv::l,k=>fH l λl=>k (.map kv::l)
 | .gone::l,k=>fH l λl=>k (.gone::l)
 |B::l,k=>fH l λl=>k (B::l)
theorem qb{α:Type}:∀(l:aqP aq)(k:aqP aq->α),fH l k=k l
 |[],k=>rfl
 | .cells cs::l,k=>by rw[fH,VX,qb l]
 | .front e z n::l,k=>by rw[fH,qb l]
 | .map kv::l,k=>by rw[fH,qb l]
 | .gone::l,k=>by rw[fH,qb l]
 | .ja .. ::l,k=>by rw[fH,qb l]<;>simp
 | .vec .. ::l,k=>by rw[fH,qb l]<;>simp
 | .lp .. ::l,k=>by rw[fH,qb l]<;>simp
 | .it .. ::l,k=>by rw[fH,qb l]<;>simp
 | .e9 .. ::l,k=>by rw[fH,qb l]<;>simp
 | .iP .. ::l,k=>by rw[fH,qb l]<;>simp
def OB{α:Type}(s:St)(k:St->α):α:=fN s.n λn=>fT s.t λt=>fH s.h λh=>k ⟨n,t,h⟩
theorem akX{α:Type}(s:St)(k:St->α):OB s k=k s:=by unfold OB;rw[A7,abj,qb]
inductive Fr
 |S (y:Code)
 |B (id:Nat)
 |F (k:Nat) (f:St->Prop)
def ir(P:aqS)(r:aqR Nat)(N0:Nat)(Q:Exit->St->Prop):aqP Fr->Exit->St->Prop
 |[]=>Q
 | .S y::K=>jc (λs=>bH P r N0 y (ir P r N0 Q K) s) (ir P r N0 Q K)
 | .B id::K=>rZ id (ir P r N0 Q K)
 | .F _ f::K=>jc f (ir P r N0 Q K)
inductive Md
 |c (c:Code)
 |n
 |x (id:Nat)
inductive WR
 |at (c:Code) (K:List Fr) (s:St)
 |ret (s:St)
 |nrm (s:St)
 |fin (k:Nat) (s:St)
abbrev WO:=aqR (WR×aqP (In×cg))
def IV(l:aqP (In×cg)):WO->WO
 |some (w,m)=>some (w,l++m)
 |none=>none
def m8(P:aqS):Nat->Md->aqP Fr->aqP (aqP (Nat×cg))->St->WO
 |0,_,_,_,_=>none
 |F+1,m,K,A,s=>match m with
  | .n=>match K with
    |[]=>some (.nrm s,[])
    | .S y::K=>m8 P F (.c y) K A s
    | .B _::K=>m8 P F .n K A s
    | .F k _::_=>some (.fin k s,[])
  | .x id=>match K with
    |[]=>none
    | .S _::K=>m8 P F (.x id) K A s
    | .B rS::K=>m8 P F (bif id==rS then .n else .x id) K A s
    | .F _ _::K=>m8 P F (.x id) K A s
  | .c c=>match c with
    | .seq a b=>m8 P F (.c a) (.S b::K) A s
    | .block id b=>m8 P F (.c b) (.B id::K) A s
    | .skip=>m8 P F .n K A s
    | .ret=>some (.ret s,[])
    | .exit id=>m8 P F (.x id) K A s
    | .region id ops dr=>match A with
      |[]=>some (.at (.region id ops dr) K s,[])
      |as::A=>bif !dr||rQ ops then match o8 P ops dr ops.toList 0 as s with
         |some (s1,l)=>OB s1 λs1=>IV l (m8 P F .n K A s1)
         |none=>none
       else none
    | .cond o x y=>match A with
      |[]=>some (.at (.cond o x y) K s,[])
      |as::A=>match jh as 0 with
       | .bit b=>IV [(.bit (ev s o), .bit b)] (m8 P F (.c (bif b then x else y)) K A s)
       |_=>none
    |c=>match A with
     |[]=>some (.at c K s,[])
     |_=>none
section
variable {P:aqS} {r:aqR Nat} {N0:Nat} {Q:Exit->St->Prop}
theorem J6:∀(K:aqP Fr)(s:St),Q .ret s->ir P r N0 Q K .ret s
 |[],_,h=>h
 | .S _::K,s,h=>J6 K s h
 | .B _::K,s,h=>J6 K s h
 | .F _ _::K,s,h=>J6 K s h
def aju(P:aqS)(r:aqR Nat)(N0:Nat)(Q:Exit->St->Prop)(m:Md)(K:aqP Fr)(s:St):Prop:=
 match m with
 | .c c=>bH P r N0 c (ir P r N0 Q K) s
 | .n=>ir P r N0 Q K .normal s
 | .x id=>ir P r N0 Q K (.exit id) s
def CW(P:aqS)(r:aqR Nat)(N0:Nat)(Q:Exit->St->Prop)(K0:aqP Fr):WR->Prop
 | .at c K s=>bH P r N0 c (ir P r N0 Q K) s
 | .ret s=>Q .ret s
 | .nrm s=>Q .normal s
 | .fin k s=>∀f,Fr.F k f∈K0->f s
theorem CW.sub{K K':aqP Fr}(h:∀k f,Fr.F k f∈K'->Fr.F k f∈K):∀{w:WR},CW P r N0 Q K w->CW P r N0 Q K' w
 | .at _ _ _,hp=>hp
 | .ret _,hp=>hp
 | .nrm _,hp=>hp
 | .fin k _,hp=>λf hf=>hp f (h k f hf)
theorem aaG{l m:aqP (In×cg)}{x:WO}{w:WR}(h:IV l x=some (w,m))(cd:gr P m):∃n,x=some (w,n)/\gr P n/\gr P l:=by
 unfold IV at h;split at h
 ·next w' n=>
  cases h
  exact⟨n,rfl,λp hp=>cd p (List.mem_append_right _ hp),λp hp=>cd p (List.mem_append_left _ hp)⟩
 ·cases h
theorem T6(hm:P.follows .mixedOrders=true):∀(F:Nat)(m:Md)(K:aqP Fr)(A:aqP (aqP (Nat×cg)))(s:St)(w:WR)(l:aqP (In×cg)),m8 P F m K A s=some (w,l)->gr P l->CW P r N0 Q K w->aju P r N0 Q m K s
 |0,_,_,_,_,_,_,h,_,_=>by simp [m8]at h
 |F+1,m,K,A,s,w,l,h,cd,hp=>by
  have ih:=T6 hm F;have tl:∀{x:Fr}{K:aqP Fr},∀k f,Fr.F k f∈K->Fr.F k f∈x::K:=λ_ _ h=>aqa _ h;have pS:∀{y:Code}{K:aqP Fr},∀k f,Fr.F k f∈Fr.S y::K->Fr.F k f∈K:=λk f h=>by
   rcases aqv.1 h with h|h
   ·cases h
   ·exact h
  have pB:∀{y:Nat}{K:aqP Fr},∀k f,Fr.F k f∈Fr.B y::K->Fr.F k f∈K:=λk f h=>by
   rcases aqv.1 h with h|h
   ·cases h
   ·exact h
  unfold m8 at h;cases m with
  |n=>
   cases K with
   |nil=>cases h;exact hp
   |cons x K=>
    cases x with
    |S y=>exact ih (.c y) K _ _ _ _ h cd (hp.sub tl)
    |B id=>exact ih .n K _ _ _ _ h cd (hp.sub tl)
    |F k f=>cases h;exact hp _ ap7
  |x id=>
   cases K with
   |nil=>cases h
   |cons x K=>
    cases x with
    |S y=>exact ih (.x id) K _ _ _ _ h cd (hp.sub tl)
    |B rS=>
     show(bif id==rS then ir P r N0 Q K .normal s else ir P r N0 Q K (.exit id) s);simp only at h;cases e:id==rS with
     |true=>rw[e]at h;exact ih .n K _ _ _ _ h cd (hp.sub tl)
     |false=>rw[e]at h;exact ih (.x id) K _ _ _ _ h cd (hp.sub tl)
    |F k f=>exact ih (.x id) K _ _ _ _ h cd (hp.sub tl)
  |c c=>
   simp only at h;split at h
   ·exact aD (ih (.c _) (.S _::K) _ _ _ _ h cd (hp.sub pS))
   ·exact gq (ih (.c _) (.B _::K) _ _ _ _ h cd (hp.sub pB))
   ·exact dI (ih .n _ _ _ _ _ h cd hp)
   ·cases h;exact c8 (J6 K s hp)
   ·exact oT (ih (.x _) _ _ _ _ _ h cd hp)
   ·next id ops dr=>
    split at h
    ·cases h;exact hp
    ·next as A=>
     obtain⟨hb,h⟩:=lx h;split at h
     ·next s1 l1 e=>
      rw[akX]at h;obtain⟨n,e2,h2,h3⟩:=aaG h cd;have hk:=ih .n _ _ _ _ _ e2 h2 hp;have dL:=wL (P:=P) (ops:=ops) (dr:=dr) (K:=ir P r N0 Q K .normal) ops.toList 0 s l1 e h3 hk;cases dr with
      |false=>exact ff dL
      |true=>
       have hl:rQ ops.toList.toArray=true:=by simpa using hb
       have:=Mk (P:=P) (r:=r) (N0:=N0) (Q:=ir P r N0 Q K) (s:=s) (id:=id) (l:=ops.toList) hm hl (by simpa using dL);show bH P r N0 (.region id ops true) (ir P r N0 Q K) s
       simpa using this
     ·cases h
   ·next o x y=>
    split at h
    ·cases h;exact hp
    ·next as A=>
     split at h
     ·next b e=>
      obtain⟨n,e2,h2,h3⟩:=aaG h cd;have h4:=OK.HB (h3 (_,_) ap7);have hk:=ih (.c _) _ _ _ _ _ e2 h2 hp;exact S6 h4 (λe=>by subst e;exact hk) (λe=>by subst e;exact hk)
     ·cases h
   ·split at h
    ·cases h;exact hp
    ·cases h
end
def wK:WO->aqP Fr
 |some (.at _ K _,_)=>K
 |_=>[]
def wS:WO->St
 |some (.at _ _ s,_)=>s
 |_=>⟨0,[],[]⟩
def kP(k:Nat):aqP Fr->aqP (St->Prop)
 |[]=>[]
 | .F k' f::K=>bif k'==k then f::kP k K else kP k K
 |_::K=>kP k K
theorem FI{k:Nat}{f:St->Prop}:∀{K:aqP Fr},Fr.F k f∈K->f∈kP k K
 |[],h=>by cases h
 | .S _::K,h=>by
   rcases aqv.1 h with h|h
   ·cases h
   ·exact FI (K:=K) h
 | .B _::K,h=>by
   rcases aqv.1 h with h|h
   ·cases h
   ·exact FI (K:=K) h
 | .F k' g::K,h=>by
   rcases aqv.1 h with h|h
   ·cases h;simp [kP]
   ·unfold kP;cases k'==k with
    |true=>exact aqa _ (FI h)
    |false=>exact FI h
def tz:WO->aqR (aqP (In×cg))
 |some (.at _ _ _,l)=>some l
 |_=>none
def lX(live:aqP Nat)(m:Nat):WO->aqR (St×aqP (In×cg))
 |some (.at (.loop _) _ s,l)=>(ko s live m).map (·,l)
 |_=>none
def EB(live:aqP Nat)(m:Nat)(ks:aqP Nat)(kn:aqP (Nat×Nat)):WO->aqR (St×aqP (In×cg))
 |some (.at (.loop _) _ s,l)=>(mO s live m ks kn).map (·,l)
 |_=>none
def Dd:WO->aqR (aqP (In×cg))
 |some (.at _ (.S _::_) _,l)=>some l
 |_=>none
def qw(k:Nat)(live:aqP Nat)(m:Nat):WO->aqR (St×aqP (In×cg))
 |some (.fin k' s,l)=>bif k'==k then(ko s live m).map (·,l)else none
 |_=>none
def Mh(k:Nat)(live:aqP Nat)(m:Nat)(ks:aqP Nat)(kn:aqP (Nat×Nat)):WO->aqR (St×aqP (In×cg))
 |some (.fin k' s,l)=>bif k'==k then(mO s live m ks kn).map (·,l)else none
 |_=>none
def sH(P:aqS)(rs:aqP ResultVar):WO->aqR (AV×aqP (In×cg))
 |some (.ret s,l)=>(yr P rs s).map (·,l)
 |some (.nrm s,l)=>(yr P rs s).map (·,l)
 |_=>none
def LX(P:aqS)(rs:aqP ResultVar)(m:Nat):WO->aqR ((AV×aqP aq)×aqP (In×cg))
 |some (.ret s,l)=>(yi P rs m s).map (·,l)
 |some (.nrm s,l)=>(yi P rs m s).map (·,l)
 |_=>none
def Az:aqP Fr->aqR (Code×aqP Fr)
 | .S y::K=>some (y,K)
 | .B _::K=>Az K
 |_=>none
def Iu(P:aqS)(keep:aqP Nat)(as:aqP (Nat×cg)):WO->aqR (aqP (Nat×AV)×aqP aq×aqP (In×cg))
 |some (.at (.region _ ops dr) K s,_)=>bif (!dr||rQ ops)&&(Az K).isSome then rV P dr ops.toList as keep s else none
 |_=>none
def gV(k:Nat)(f:St->Prop)(s:St):WO->WO
 |some (.at (.loop b) K _,_)=>some (.at b (.F k f::K) s,[])
 |_=>none
def HW(k:Nat)(f:St->Prop):WO->WO
 |some (.at c (.S _::K) s,_)=>some (.at c (.F k f::K) s,[])
 |_=>none
def LI(s:St):WO->WO
 |some (.at _ (.S y::K) _,_)=>some (.at y K s,[])
 |_=>none
def uZ(Δ:aqP (Nat×AV))(h':aqP aq):WO->WO
 |some (.at _ K s,_)=>match Az K with
  |some (y,K')=>some (.at y K' ⟨s.n,Δ++s.t,h'⟩,[])
  |none=>none
 |_=>none
def abe(f:St->St):WO->WO
 |some (.at c K s,l)=>some (.at c K (f s),l)
 |_=>none
def XA:Nat:=4000
def wk(P:aqS)(w:WO)(ay:aqP (aqP (Nat×Ob P))):WO:=
 match w with
 |some (.at c K s,_)=>m8 P XA (.c c) K (ay.map jn) s
 |_=>none
def dX{P:aqS}(ay:aqP (aqP (Nat×Ob P))):aqP (In×cg):=ay.flatMap jI
theorem apE{P:aqS}(ay:aqP (aqP (Nat×Ob P))):gr P (dX ay):=λp hp=>by
 obtain⟨l,_,h⟩:=List.mem_flatMap.1 hp;exact pP l p h
theorem tA{α β:Type}{x:aqR α}{l:β}{y:α}{m:β}(h:x.map (·,l)=some (y,m)):x=some y/\l=m:=by
 cases x with
 |none=>cases h
 |some z=>cases h;exact⟨rfl,rfl⟩
def CZ(P:aqS)(r:aqR Nat)(N0:Nat)(Q:Exit->St->Prop):WO->Prop
 |some (.at c K s,_)=>bH P r N0 c (ir P r N0 Q K) s
 |_=>True
structure GW(P:Program)(r:Option Nat)(N0:Nat)(Q:Exit->St->Prop)(w:WO):Prop where
 run:CZ P r N0 Q w
section
variable {P:aqS} {r:aqR Nat} {N0:Nat} {Q:Exit->St->Prop} {w0:WO}
theorem po{ay:aqP (aqP (Nat×Ob P))}(hm:P.follows .mixedOrders=true){w:WR}(e:wk P w0 ay=some (w,dX ay))(hp:∀K,(∀k f,Fr.F k f∈K->Fr.F k f∈wK w0)->CW P r N0 Q K w):GW P r N0 Q w0:=by
 constructor
 unfold wk at e;split at e
 ·next c K s l=>exact T6 hm XA (.c c) K _ s w _ e (apE ay) (hp K λk f h=>h)
 ·cases e
theorem gw(hm:P.follows .mixedOrders=true)(ay:aqP (aqP (Nat×Ob P)))(k:GW P r N0 Q (wk P w0 ay))(e:tz (wk P w0 ay)=some (dX ay):=by kernel_rfl):GW P r N0 Q w0:=by
 generalize hw:wk P w0 ay=w at e k;unfold tz at e;split at e
 ·cases e;exact po hm hw λK _=>k.run
 ·cases e
theorem afI(hm:P.follows .mixedOrders=true){fn:Func}{R:AV}(ay:aqP (aqP (Nat×Ob P)))(e:sH P fn.results.toList (wk P w0 ay)=some (R,dX ay)):GW P r N0 (lu P fn R) w0:=by
 generalize hw:wk P w0 ay=w at e;unfold sH at e;split at e
 ·obtain⟨e1,rfl⟩:=tA e;exact po hm hw λK _=>e1
 ·obtain⟨e1,rfl⟩:=tA e;exact po hm hw λK _=>e1
 ·cases e
theorem afG(hm:P.follows .mixedOrders=true){fn:Func}{m:Nat}{R:AV}{H:aqP aq}(ay:aqP (aqP (Nat×Ob P)))(e:LX P fn.results.toList m (wk P w0 ay)=some ((R,H),dX ay)):GW P r N0 (uo P fn m R H) w0:=by
 generalize hw:wk P w0 ay=w at e;unfold LX at e;split at e
 ·obtain⟨e1,rfl⟩:=tA e;exact po hm hw λK _=>e1
 ·obtain⟨e1,rfl⟩:=tA e;exact po hm hw λK _=>e1
 ·cases e
theorem wr(hm:P.follows .mixedOrders=true){fn:Func}{R:AV}(ay:aqP (aqP (Nat×Ob P)))(e:sH P fn.results.toList (wk P w0 ay)=some (R,dX ay):=by kernel_rfl):GW P r N0 (lu P fn R) w0:=afI hm ay e
theorem nc(hm:P.follows .mixedOrders=true){fn:Func}{m:Nat}{R:AV}{H:aqP aq}(ay:aqP (aqP (Nat×Ob P)))(e:LX P fn.results.toList m (wk P w0 ay)=some ((R,H),dX ay):=by kernel_rfl):GW P r N0 (uo P fn m R H) w0:=afG hm ay e
structure Lk{ι:Type}(k:Nat)(live:List Nat)(m:Nat)(st:ι->St)(I:ι->Prop)(μ:ι->Nat)(i0:ι)(f:St->Prop):Prop where
 h:∀s' i',ko s' live m=some (st i')->I i'->μ i'<μ i0->f s'
structure HN{ι:Type}(k:Nat)(live:List Nat)(m:Nat)(ks:List Nat)(kn:List (Nat×Nat))(st:ι->St)(I:ι->Prop)(μ:ι->Nat)(i0:ι)(f:St->Prop):Prop where
 h:∀s' i',js m (s'.h.take m)->mO s' live m ks kn=some (st i')->I i'->μ i'<μ i0->f s'
structure zA{ι:Type}(k:Nat)(live:List Nat)(m:Nat)(st:ι->St)(I:ι->Prop)(f:St->Prop):Prop where
 h:∀s' i',ko s' live m=some (st i')->I i'->f s'
theorem N5(hm:P.follows .mixedOrders=true){k:Nat}{s1:St}{f:St->Prop}(ay:aqP (aqP (Nat×Ob P)))(e1:kP k (wK w0)=[f])(e:wk P w0 ay=some (.fin k s1,dX ay))(hf:f s1):GW P r N0 Q w0:=
 po hm e λK hK g hg=>by
  have:=FI (hK k g hg);rw[e1,List.mem_singleton]at this;subst this;exact hf
theorem S8(hm:P.follows .mixedOrders=true){ι:Type}{live:aqP Nat}{m k:Nat}{st:ι->St}{I:ι->Prop}{μ:ι->Nat}{i0:ι}{f:St->Prop}(hf:Lk k live m st I μ i0 f)(i:ι)(ay:aqP (aqP (Nat×Ob P)))(hI:I i)(hμ:μ i<μ i0:=by exact aqN _)(e1:kP k (wK w0)=[f]:=by kernel_rfl)(e:qw k live m (wk P w0 ay)=some (st i,dX ay):=by kernel_rfl):GW P r N0 Q w0:=by
 generalize hw:wk P w0 ay=w at e;unfold qw at e;split at e
 ·next k' s' l=>
  obtain⟨hb,e⟩:=lx e;obtain⟨e2,rfl⟩:=tA e;rw[beq_iff_eq]at hb;subst hb;exact N5 hm ay e1 hw (hf.h _ i e2 hI hμ)
 ·cases e
def vM:aqP aq->aqP (aqP (aqP AV))
 |[]=>[]
 | .vec _ _ cs::l=>cs::vM l
 |_::l=>vM l
structure VE(m:Nat) where
 x:List (List AV)
 ok:∀e k,(aq.vec e k x).Bn m
def VE.Nf{m:Nat}(xs:aqP (aqP D)):VE m:=⟨cp xs,λ_ _=>(mc (m:=m) (l:=[]) jU).1⟩
theorem KD{m:Nat}:∀(l:aqP aq)(ij:aqP (VE m)),vM l=ij.map VE.x->js m l
 |[],_,_=>jU
 |B::l,ij,h=>by
  cases B with
  |vec e k cs=>
   cases ij with
   |nil=>cases h
   |cons v vs=>
    have J:cs=v.x:=(List.cons.inj h).1;subst J;exact⟨v.ok e k,KD l vs (List.cons.inj h).2⟩
  |_=>exact⟨trivial,KD l ij h⟩
def wx(m:Nat):WO->aqP (aqP (aqP AV))
 |some (.fin _ s,_)=>vM (s.h.take m)
 |some (.at _ _ s,_)=>vM (s.h.take m)
 |_=>[]
theorem Xe(hm:P.follows .mixedOrders=true){ι:Type}{live:aqP Nat}{m k:Nat}{ks:aqP Nat}{kn:aqP (Nat×Nat)}{st:ι->St}{I:ι->Prop}{μ:ι->Nat}{i0:ι}{f:St->Prop}(hf:HN k live m ks kn st I μ i0 f)(i:ι)(ay:aqP (aqP (Nat×Ob P)))(hI:I i)(hμ:μ i<μ i0:=by exact aqN _)(e1:kP k (wK w0)=[f]:=by kernel_rfl)(ij:aqP (VE m):=[])(e0:wx m (wk P w0 ay)=ij.map VE.x:=by kernel_rfl)(e:Mh k live m ks kn (wk P w0 ay)=some (st i,dX ay):=by kernel_rfl):GW P r N0 Q w0:=by
 generalize hw:wk P w0 ay=w at e e0;unfold Mh at e;split at e
 ·next k' s' l=>
  obtain⟨hb,e⟩:=lx e;obtain⟨e2,rfl⟩:=tA e;rw[beq_iff_eq]at hb;subst hb;exact N5 hm ay e1 hw (hf.h _ i (KD _ ij e0) e2 hI hμ)
 ·cases e
theorem lJ(hm:P.follows .mixedOrders=true){ι:Type}{live:aqP Nat}{m k:Nat}{st:ι->St}{I:ι->Prop}{f:St->Prop}(hf:zA k live m st I f)(i:ι)(ay:aqP (aqP (Nat×Ob P)))(hI:I i)(e1:kP k (wK w0)=[f]:=by kernel_rfl)(e:qw k live m (wk P w0 ay)=some (st i,dX ay):=by kernel_rfl):GW P r N0 Q w0:=by
 generalize hw:wk P w0 ay=w at e;unfold qw at e;split at e
 ·next k' s' l=>
  obtain⟨hb,e⟩:=lx e;obtain⟨e2,rfl⟩:=tA e;rw[beq_iff_eq]at hb;subst hb;exact N5 hm ay e1 hw (hf.h _ i e2 hI)
 ·cases e
theorem R9(hm:P.follows .mixedOrders=true){ι:Type}(k:Nat)(ay:aqP (aqP (Nat×Ob P)))(live:aqP Nat)(m:Nat)(st:ι->St)(I:ι->Prop)(μ:ι->Nat)(i0:ι)(hI:I i0)
 (body:∀i,I i->∀f:St->Prop,Lk k live m st I μ i f->GW P r N0 Q (gV k f (st i) (wk P w0 ay)))
 (hN:N0<=m:=by exact ap9 rfl) (e:lX live m (wk P w0 ay)=some (st i0,dX ay):=by kernel_rfl):GW P r N0 Q w0:=by
 generalize hw:wk P w0 ay=w at e body;unfold lX at e;split at e
 ·next b K' s' l=>
  obtain⟨e2,rfl⟩:=tA e;refine po hm hw λK _=> ?_;refine Ot live m st I μ i0 hN e2 hI λi hi=> ?_;exact(body i hi _ ⟨λs' i' J h2 h3=>⟨i',J,h2,h3⟩⟩).run
 ·cases e
theorem Y7(hm:P.follows .mixedOrders=true){ι:Type}(k:Nat)(ay:aqP (aqP (Nat×Ob P)))(live:aqP Nat)(m:Nat)(ks:aqP Nat)(kn:aqP (Nat×Nat))(st:ι->St)(I:ι->Prop)(μ:ι->Nat)(i0:ι)(hI:I i0)
 (body:∀i,I i->∀f:St->Prop,HN k live m ks kn st I μ i f->GW P r N0 Q (gV k f (st i) (wk P w0 ay)))
 (hN:N0<=m:=by exact ap9 rfl) (ij:aqP (VE m):=[]) (e0:wx m (wk P w0 ay)=ij.map VE.x:=by kernel_rfl) (e:EB live m ks kn (wk P w0 ay)=some (st i0,dX ay):=by kernel_rfl):GW P r N0 Q w0:=by
 generalize hw:wk P w0 ay=w at e e0 body;unfold EB at e;split at e
 ·next b K' s' l=>
  obtain⟨e2,rfl⟩:=tA e;refine po hm hw λK _=> ?_;refine Ty live m ks kn st I μ i0 hN ⟨KD _ ij e0,e2⟩ hI λi hi=> ?_;exact(body i hi _ ⟨λs' i' h0 J h2 h3=>⟨i',⟨h0,J⟩,h2,h3⟩⟩).run
 ·cases e
theorem L5(hm:P.follows .mixedOrders=true){ι:Type}(k:Nat)(ay:aqP (aqP (Nat×Ob P)))(live:aqP Nat)(m:Nat)(st:ι->St)(I:ι->Prop)
 (br:∀f:St->Prop,zA k live m st I f->GW P r N0 Q (HW k f (wk P w0 ay)))
 (rest:∀i,I i->GW P r N0 Q (LI (st i) (wk P w0 ay))) (hN:N0<=m:=by exact ap9 rfl) (e:Dd (wk P w0 ay)=some (dX ay):=by kernel_rfl):GW P r N0 Q w0:=by
 generalize hw:wk P w0 ay=w at e br rest;unfold Dd at e;split at e
 ·cases e
  refine po hm hw λK _=> ?_;exact GX live m st I hN (br _ ⟨λs' i' J h2=>⟨i',J,h2⟩⟩).run λi hi=>(rest i hi).run
 ·cases e
theorem Hv:∀{K:aqP Fr}{y:Code}{K':aqP Fr}{s:St},Az K=some (y,K')->bH P r N0 y (ir P r N0 Q K') s->ir P r N0 Q K .normal s
 |[],_,_,_,h,_=>by cases h
 | .S y::K,_,_,_,h,k=>by cases h;exact k
 | .B _::K,_,_,s,h,k=>Hv (K:=K) (s:=s) h k
 | .F _ _::K,_,_,_,h,_=>by cases h
theorem ah6(hm:P.follows .mixedOrders=true)(Δ:aqP (Nat×AV))(h':aqP aq)(e:∃ay:aqP (Nat×Ob P),Iu P (Δ.map (·.1)) (jn ay) (wk P w0 [])=some (Δ,h',jI ay))(k:GW P r N0 Q (uZ Δ h' (wk P w0 [])))(e0:tz (wk P w0 [])=some []:=by kernel_rfl):GW P r N0 Q w0:=by
 generalize hw:wk P w0 []=w at e k e0;obtain⟨ay,e⟩:=e;unfold Iu at e;split at e
 ·next id ops dr K' s' l=>
  obtain⟨hb,e⟩:=lx e;rw[ap3]at hb;cases e0
  refine po hm hw λK _=> ?_;obtain⟨s1,J,h2,h3,h4⟩:=LD e;obtain⟨p,hp⟩:=Option.isSome_iff_exists.1 hb.2;obtain⟨y,K2⟩:=p;have hk:ir P r N0 Q K' .normal s1:=by
   refine Hv hp (I0 (s:=s1) (s':=⟨s'.n,Δ++s'.t,h'⟩) h2.symm h3.symm h4 ?_);have k:=k.run;simp only[uZ,hp]at k;exact k
  show bH P r N0 (.region id ops dr) (ir P r N0 Q K') s';have dL:=wL (P:=P) (ops:=ops.toList.toArray) (dr:=dr) (K:=ir P r N0 Q K' .normal) ops.toList 0 s' _ J (pP ay) hk;cases dr with
  |false=>exact ff (by simpa using dL)
  |true=>
   have hl:rQ ops.toList.toArray=true:=by simpa using hb.1
   have:=Mk (P:=P) (r:=r) (N0:=N0) (Q:=ir P r N0 Q K') (s:=s') (id:=id) (l:=ops.toList) hm hl (by simpa using dL)
   simpa using this
 ·cases e
def ZN(P:aqS)(keep:aqP Nat)(as:aqP (Nat×cg)):WO->aqR (aqP (aqP (Nat×AV)×aqP aq×aqP (In×cg)))
 |some (.at (.region _ ops true) K s,_)=>bif (Az K).isSome then Ad P ops.toList as keep s else none
 |_=>none
theorem N1(m:Nat)(hm:P.follows .mixedOrders=true)(Δ:aqP (Nat×AV))(h':aqP aq)(e:∃ay:aqP (Nat×Ob P),ZN P (Δ.map (·.1)) (jn ay) (wk P w0 [])=some (List.replicate m (Δ,h',jI ay)))(k:GW P r N0 Q (uZ Δ h' (wk P w0 [])))(e0:tz (wk P w0 [])=some []:=by kernel_rfl):GW P r N0 Q w0:=by
 generalize hw:wk P w0 []=w at e k e0;obtain⟨ay,e⟩:=e;unfold ZN at e;split at e
 ·next id ops K' s' l=>
  obtain⟨hb,e⟩:=lx e;cases e0
  refine po hm hw λK _=> ?_;obtain⟨p,hp⟩:=Option.isSome_iff_exists.1 hb;obtain⟨y,K2⟩:=p;show bH P r N0 (.region id ops true) (ir P r N0 Q K') s';have:=rte (r:=r) (N0:=N0) (Q:=ir P r N0 Q K') (id:=id) (ol:=ops.toList) (n:=s'.n) (t:=s'.t) (h:=s'.h) m hm ay Δ h' e (Hv hp (by
   have k:=k.run;simp only[uZ,hp]at k;exact k))
  simpa using this
 ·cases e
def W7(P:aqS)(keep:aqP Nat)(as:aqP (Nat×cg)):WO->aqR (aqP (Nat×AV)×aqP aq×aqP (In×cg))
 |some (.at (.region _ ops true) K s,_)=>bif (Az K).isSome&&F6 true ops (List.range ops.toList.length)&&DP as 0 ops.toList then rV P false ops.toList as keep s else none
 |_=>none
theorem Ba(hm:P.follows .mixedOrders=true)(ay:aqP (Nat×Ob P))(Δ:aqP (Nat×AV))(h':aqP aq)(k:GW P r N0 Q (uZ Δ h' (wk P w0 [])))(e:W7 P (Δ.map (·.1)) (jn ay) (wk P w0 [])=some (Δ,h',jI ay):=by kernel_rfl)(e0:tz (wk P w0 [])=some []:=by kernel_rfl):GW P r N0 Q w0:=by
 generalize hw:wk P w0 []=w at e k e0;unfold W7 at e;split at e
 ·next id ops K' s' l=>
  obtain⟨hb,e⟩:=lx e;rw[ap3,ap3]at hb;cases e0
  refine po hm hw λK _=> ?_;obtain⟨p,hp⟩:=Option.isSome_iff_exists.1 hb.1.1;obtain⟨y,K2⟩:=p;show bH P r N0 (.region id ops true) (ir P r N0 Q K') s';have hk:bH P r N0 y (ir P r N0 Q K2) ⟨s'.n,Δ++s'.t,h'⟩:=by
   have k:=k.run;simp only[uZ,hp]at k;exact k
  obtain⟨s1,J,h2,h3,h4⟩:=LD e;have zg:ir P r N0 Q K' .normal s1:=Hv hp (I0 (s:=s1) (s':=⟨s'.n,Δ++s'.t,h'⟩) h2.symm h3.symm h4 hk);have hl:F6 true ops.toList.toArray (List.range ops.toList.length)=true:=by simpa using hb.1.2
  have:bH P r N0 (.region id ops.toList.toArray true) (ir P r N0 Q K') s':=by
   refine ads (m:=true) (List.range ops.toList.length) hm (by simp) hl ?_;rw[UX];exact OV ops.toList 0 _ _ J (pP ay) hb.2 zg
  simpa using this
 ·cases e
def Pt(b:Nat):aq->aqP (Nat×Nat×Nat×Nat)
 | .cells cs=>AV.vR b cs
 | .lp .. =>[(1,0,0,0)]
 | .it .. =>[(1,0,0,0)]
 | .e9 _ cs=>AV.vR b cs
 |_=>[]
structure VM(b L kk:Nat)(ys:List (List D)) where
 x:List (List AV)
 y:List (List AV)
 ok:ys.length=L->y=x.map (·.map (AV.dz b kk ys))
def VM.Nf{b L kk:Nat}{ys:aqP (aqP D)}(zs:aqP (aqP D)):VM b L kk ys:=⟨cp zs,cp zs,λ_=>(adL (λd=>by simp [AV.dz]) zs).symm⟩
def qC(b:Nat)(ys:aqP (aqP D)):aqP aq->aqP (aqP (aqP AV))->aqP aq
 |[],_=>[]
 |B::l,vs=>match B with
  | .vec e k cs=>match vs with
    |v::vs=> .vec e k v::qC b ys l vs
    |[]=> .vec e k cs::qC b ys l []
  | .cells cs=> .cells (AV.oH b ys cs)::qC b ys l vs
  | .e9 T cs=> .e9 T (AV.oH b ys cs)::qC b ys l vs
  |B=>B::qC b ys l vs
theorem aap{b L kk:Nat}{ys:aqP (aqP D)}(hL:ys.length=L):∀(h:aqP aq)(vs:aqP (VM b L kk ys)),vM h=vs.map VM.x->(∀q∈h.flatMap (Pt b),q=(0,ys.length,ys.length,kk))->qC b ys h (vs.map VM.y)=h.map (aq.lU (AV.dz b kk ys))
 |[],_,_,_=>rfl
 |B::l,vs,hv,ho=>by
  have hl:∀vs:aqP (VM b L kk ys),vM l=vs.map VM.x->qC b ys l (vs.map VM.y)=l.map (aq.lU (AV.dz b kk ys)):=λvs hv=>aap hL l vs hv λq hq=>ho q (by rw[List.flatMap_cons];exact List.mem_append_right _ hq);have hb:∀q∈Pt b B,q=(0,ys.length,ys.length,kk):=λq hq=>ho q (by rw[List.flatMap_cons];exact List.mem_append_left _ hq);cases B with
  |vec e k cs=>
   cases vs with
   |nil=>cases hv
   |cons v vs=>
    have hv1:cs=v.x:=(List.cons.inj hv).1;have e1:(aq.vec e k cs).lU (AV.dz b kk ys)= .vec e k v.y:=by rw[v.ok hL,hv1];rfl
    show aq.vec e k v.y::qC b ys l (vs.map VM.y)=aq.lU (AV.dz b kk ys) (.vec e k cs)::l.map _;rw[hl vs (List.cons.inj hv).2,e1]
  |cells cs=>
   have e1:(aq.cells cs).lU (AV.dz b kk ys)= .cells (AV.oH b ys cs):=by
    rw[<-BN cs hb,yw];rfl
   show aq.cells (AV.oH b ys cs)::qC b ys l (vs.map VM.y)=aq.lU (AV.dz b kk ys) (.cells cs)::l.map _;rw[hl vs hv,e1]
  |front e k n=>exact congrArg (aq.front e k n::·) (hl vs hv)
  |iP e q=>exact congrArg (aq.iP e q::·) (hl vs hv)
  |map kv=>exact congrArg (aq.map kv::·) (hl vs hv)
  |ja kv=>exact congrArg (aq.ja kv::·) (hl vs hv)
  |gone=>exact congrArg (aq.gone::·) (hl vs hv)
  |lp ls p as bd cs=>have:=congrArg Prod.fst (hb (1,0,0,0) ap7);cases this
  |it sn cs=>have:=congrArg Prod.fst (hb (1,0,0,0) ap7);cases this
  |e9 T0 cs=>
   have e1:(aq.e9 T0 cs).lU (AV.dz b kk ys)= .e9 T0 (AV.oH b ys cs):=by
    rw[<-BN cs hb,yw];rfl
   show aq.e9 T0 (AV.oH b ys cs)::qC b ys l (vs.map VM.y)=aq.lU (AV.dz b kk ys) (.e9 T0 cs)::l.map _;rw[hl vs hv,e1]
theorem alM{c:Code}{s:St}(live:aqP Nat)(b:Nat)(xs:aqP (aqP D)){e k L:Nat}(h':aqP aq)(hb:s.h[b]?=some (.vec e k (cp xs)))(jK:∀c∈xs,c.all D.AW=true)(hL:xs.length=L)
 (ho:∀q∈live.flatMap λi=>(bp s.t i).uQ b,q=(0,xs.length,xs.length,k)) (hh:h'=s.h.map (aq.lU (AV.dz b k xs))) (K:bH P r N0 c Q ⟨s.n,live.map (λi=>(i,(bp s.t i).mlt b xs)),h'.set b .gone⟩):bH P r N0 c Q s:=by
 constructor
 intro G w a n hs hN;obtain⟨G',hE,e1,cE⟩:=hs.Z5 xs hb jK;refine wpIn_mono (K.run G' w a n (cE.less rfl (by rw[hh]) λi=> ?_) (by rw[e1];exact hN)) λ_ _ _ hn=>hn.trans (hE.less hN);show bp (live.map (λi=>(i,(bp s.t i).mlt b xs))) i=bp (s.t.map λp=>(p.1,p.2.dz b k xs)) i\/_;rw[tO (λk=>(bp s.t k).mlt b xs),Ip (AV.dz b k xs) (by simp [AV.dz])];split
 ·next hi=>
  left
  refine(abr _ λq hq=>ho q ?_).symm;exact List.mem_flatMap.2 ⟨i,hi,hq⟩
 ·exact .inr rfl
def al8(live:aqP Nat)(b:Nat)(s:St):aqP (Nat×Nat×Nat×Nat):=(live.flatMap λi=>(bp s.t i).uQ b)++s.h.flatMap (Pt b)
def amQ(live:aqP Nat)(b:Nat)(ys:aqP (aqP D))(vs:aqP (aqP (aqP AV)))(s:St):St:=⟨s.n,live.map (λi=>(i,(bp s.t i).mlt b ys)),(qC b ys s.h vs).set b .gone⟩
theorem apy(live:aqP Nat)(b:Nat){xs:aqP (aqP D)}(ys:aqP (aqP D))(L c e k:Nat)(vs:aqP (VM b L k ys))(hL:xs.length=L)(hy:ys=xs)(jK:∀c∈xs,c.all D.AW=true)(K:GW P r N0 Q (abe (amQ live b ys (vs.map VM.y)) w0))(hb:(wS w0).h[b]?=some (.vec e k (cp xs)):=by kernel_rfl)(ho:al8 live b (wS w0)=List.replicate c (0,L,L,k):=by kernel_rfl)(hv:vM (wS w0).h=vs.map VM.x:=by kernel_rfl):GW P r N0 Q w0:=by
 subst hy;constructor
 unfold CZ;split
 ·next c K' s l=>
  have oG:=aex hL ho;exact alM live b ys _ hb jK hL (λq hq=>oG q (List.mem_append_left _ hq)) (aap hL s.h vs hv λq hq=>oG q (List.mem_append_right _ hq)) K.run
 ·trivial
theorem ZZ{m:Nat}:([]:aqP aq).all (aq.aE m)=true:=rfl
theorem zS{B:aq}{l:aqP aq}{m:Nat}(h:B.aE m=true)(k:l.all (aq.aE m)=true):(B::l).all (aq.aE m)=true:=by rw[aqL,h,k];rfl
theorem abp{e k m:Nat}{xs:aqP (aqP D)}:(aq.vec e k (cp xs)).aE m=true:=Wp xs
theorem amU{m n:Nat}{T:aqP (Nat×AV)}{LP:aq}{next:aqP aq->Prop}{Q:Exit->St->Prop}{s:St}(hs:aqP aq)(hl:hs.length=m)(hb:hs.all (aq.aE (m+1))=true)(hc:js (m+1) (s.h.take (m+1))/\mO s [] (m+1) [] []=some ⟨s.n,[],hs++[LP]⟩)(hn:next hs):Cv m n T LP next Q .normal s:=⟨hs,hl,hb,⟨λh=>h.mO hc.1 hc.2⟩,hn⟩
theorem ajb(k:Nat)(xs:aqP (aqP D))(hx:(bp (wS w0).t k).fW=some xs)(h:vW (.sl xs)->GW P r N0 Q w0):GW P r N0 Q w0:=by
 constructor
 unfold CZ;split
 ·next c K s l=>exact yT k xs hx λhl=>(h hl).run
 ·trivial
theorem UF(b i:Nat)(xs:aqP (aqP D))(hx:(((wS w0).h[b]?).bind λB=>match B with| .cells cs=>(cs[i]?).bind AV.fW|_=>none)=some xs)(h:vW (.sl xs)->GW P r N0 Q w0):GW P r N0 Q w0:=by
 constructor
 unfold CZ;split
 ·next c K s l=>exact akJ b i xs hx λhl=>(h hl).run
 ·trivial
def adS(k e sz:Nat)(xs:aqP (aqP D))(s:St):St:=⟨s.n,(k, .own s.h.length xs)::s.t,s.h++[.front e sz xs.length]⟩
def T2(xs:aqP (aqP D)):AV->Bool
 | .d (.v (.slice none 0 0))=>xs.isEmpty
 |_=>false
theorem aoC{xs:aqP (aqP D)}{x:AV}(h:T2 xs x=true):x= .d (.v (.slice none 0 0))/\xs=[]:=by
 unfold T2 at h;split at h
 ·exact⟨rfl,List.isEmpty_iff.1 h⟩
 ·cases h
theorem vH(k e sz:Nat)(xs:aqP (aqP D))(hx:bp (wS w0).t k= .full xs\/T2 xs (bp (wS w0).t k)=true)(h:GW P r N0 Q (abe (adS k e sz xs) w0)):GW P r N0 Q w0:=by
 constructor
 unfold CZ;split
 ·next c K s l=>exact Jp k e sz xs (hx.imp id aoC) h.run
 ·trivial
end
theorem bc{α:Type}{c:Bool}{a b x:α}{G:Prop}(h:(bif c then a else b)=x)(t:c=true->a=x->G)(f:c=false->b=x->G):G:=by
 cases c with
 |true=>exact t rfl h
 |false=>exact f rfl h
theorem sj{α:Type}{a b:α}(h:some a=some b):a=b:=aqk h
theorem qg{α:Type}{c:Bool}{x:aqR α}{r:α}(h:(bif c then x else none)=some r):c=true/\x=some r:=by
 cases c with
 |true=>exact⟨rfl,h⟩
 |false=>cases h
def AG(fn:Func)(args:aqP AV)(h:aqP aq):WO:=some (.at (fn.body.getD .skip) [] {n:=args.length+(fn.ntmps-args.length),t:=l5 0 args,h:=h},[])
theorem aeN{P:aqS}{f:FuncId}{fn:Func}{args:aqP AV}{R:AV}(hf:P.funcs[f]?=some fn)(hb:fn.body.isSome=true)(hn:(fn.name== "runtime.NumGoroutine")=false)
 (hw:GW P none 0 (lu P fn R) (AG fn args [])):gi P f args (·=R):=by
 obtain⟨c,hc⟩:=Option.isSome_iff_exists.1 hb;refine sw hf hc hn ?_;have:fn.body.getD .skip=c:=by rw[hc];rfl
 rw[<-this];exact hw.run
theorem aj3{P:aqS}{f:FuncId}{fn:Func}{args:aqP AV}{h H:aqP aq}{R:AV}(m:Nat)(hf:P.funcs[f]?=some fn)(hb:fn.body.isSome=true)(hn:(fn.name== "runtime.NumGoroutine")=false)(hm:h.length<=m)
 (hw:GW P none h.length (uo P fn m R H) (AG fn args h)):cV P f args h λr1 J=>r1=R/\J=H:=by
 obtain⟨c,hc⟩:=Option.isSome_iff_exists.1 hb;refine rK m hf hc hn hm ?_;have:fn.body.getD .skip=c:=by rw[hc];rfl
 rw[<-this];exact hw.run
section zY
variable {P:aqS}
def oL{α:Type}{f:aqP α->aqP (aqP D)}(l:aqP α)(h:(f l).length=l.length):Ob P:=⟨_,_, .len h⟩
def oE{xs:aqP (aqP D)}{k:Nat}{c:aqP D}(h:xs[k]?=some c):Ob P:=⟨_,_, .el (xs:=xs) (i:=(k:Int)) (Int.natCast_nonneg _) h⟩
def oq{a b:AV}(h:a=b):Ob P:=⟨_,_, .eq h⟩
def os(ks:aqP Nat)(o:Ob P)(l:aqP (Nat×Ob P)):aqP (Nat×Ob P):=ks.foldr (λk t=>(k,o)::t) l
noncomputable def soI(x:Nat×Ob P)(l:aqP (Nat×Ob P)):aqP (Nat×Ob P):=List.rec [x] (λy t r=>bif Nat.ble x.1 y.1 then x::y::t else y::r) l
noncomputable def so(l:aqP (Nat×Ob P)):aqP (Nat×Ob P):=l.foldr soI []
theorem Bb{xs:aqP (aqP D)}{n:Nat}(e:xs.length=n)(h:vW (.sl xs)):n<=maxLen:=e▸Iv h
end zY
inductive eo(P:Program):TypeId->List D->Prop
 |bool {t:TypeId} (b:Bool) (h:P.underlying t=some .bool):eo P t [.v (.bool b)]
 |int {t:TypeId} {k:IntKind} (n:Int) (h:P.underlying t=some (.int k)) (w:(Lit.int k n).wf=true):eo P t [.v (.int k n)]
 |str {t:TypeId} (s:ByteArray) (h:P.underlying t=some .string) (w:s.size<=maxLen):eo P t [.v (.string s)]
 |sl {t e:TypeId} (xs:List (List D)) (h:P.underlying t=some (.slice e)) (w:xs.length<=140737488355328) (hx:∀x∈xs,eo P e x):eo P t [.sl xs]
 |struct {t:TypeId} {fs:Array Field} (parts:List (List D)) (h:P.underlying t=some (.struct fs)) (hl:parts.length=fs.size) (hx:∀(i:Nat)(f:Field)(x:List D),fs[i]?=some f->parts[i]?=some x->eo P f.type x):eo P t parts.flatten
section
variable {P:aqS} {t:TypeId} {xs:aqP D}
theorem eo.akY(h:eo P t xs)(ht:P.underlying t=some .bool):∃b,xs=[.v (.bool b)]:=by
 cases h with
 |bool b h=>exact⟨b,rfl⟩
 |int n h=>rw[ht]at h;cases h
 |str s h=>rw[ht]at h;cases h
 |sl l h=>rw[ht]at h;cases h
 |struct p h=>rw[ht]at h;cases h
theorem eo.ov{k:IntKind}(h:eo P t xs)(ht:P.underlying t=some (.int k)):∃n,xs=[.v (.int k n)]/\k.min<=n/\n<=k.max:=by
 cases h with
 |bool b h=>rw[ht]at h;cases h
 |int n h w=>
  rw[ht]at h;cases h;unfold Lit.wf at w;simp only[ap3,decide_eq_true_eq]at w;exact⟨n,rfl,w⟩
 |str s h=>rw[ht]at h;cases h
 |sl l h=>rw[ht]at h;cases h
 |struct p h=>rw[ht]at h;cases h
theorem eo.tS(h:eo P t xs)(ht:P.underlying t=some .string):∃s,xs=[.v (.string s)]/\s.size<=maxLen:=by
 cases h with
 |bool b h=>rw[ht]at h;cases h
 |int n h=>rw[ht]at h;cases h
 |str s h w=>exact⟨s,rfl,w⟩
 |sl l h=>rw[ht]at h;cases h
 |struct p h=>rw[ht]at h;cases h
theorem eo.nR{e:TypeId}(h:eo P t xs)(ht:P.underlying t=some (.slice e)):∃l,xs=[.sl l]/\l.length<=140737488355328/\∀x∈l,eo P e x:=by
 cases h with
 |bool b h=>rw[ht]at h;cases h
 |int n h=>rw[ht]at h;cases h
 |str s h=>rw[ht]at h;cases h
 |sl l h w hx=>rw[ht]at h;cases h;exact⟨l,rfl,w,hx⟩
 |struct p h=>rw[ht]at h;cases h
theorem eo.ny{fs:Array Field}(h:eo P t xs)(ht:P.underlying t=some (.struct fs)):∃parts:aqP (aqP D),xs=parts.flatten/\parts.length=fs.size/\∀(i:Nat)(f:Field)(x:aqP D),fs[i]?=some f->parts[i]?=some x->eo P f.type x:=by
 cases h with
 |bool b h=>rw[ht]at h;cases h
 |int n h=>rw[ht]at h;cases h
 |str s h=>rw[ht]at h;cases h
 |sl l h=>rw[ht]at h;cases h
 |struct p h hl hx=>rw[ht]at h;cases h;exact⟨p,rfl,hl,hx⟩
theorem nj{α:Type}{f:α->aqP D}{Q:α->Prop}:∀l:aqP (aqP D),(∀x∈l,∃a,x=f a/\Q a)->∃r:aqP α,l=r.map f/\∀a∈r,Q a
 |[],_=>⟨[],rfl,λ_ h=>by cases h⟩
 |x::l,h=>by
  obtain⟨a,rfl,ha⟩:=h x ap7;obtain⟨r,rfl,hr⟩:=nj l λy hy=>h y (aqa _ hy);refine⟨a::r,rfl,λb hb=> ?_⟩;rcases aqv.1 hb with rfl|hb
  ·exact ha
  ·exact hr b hb
end
def Oq(P:aqS)(S:aqP TypeId):Bool:=S.all λt=>match P.underlying t with
 |some .bool|some (.int _)|some .string=>true
 |some (.slice e)=>S.contains e&&(decide (0<P.cellsOf e)&&decide (0<P.bytesOf e))
 |some (.struct fs)=>P.consecB fs.toList 0 (P.cellsOf t)&&fs.toList.all λf=>S.contains f.type
 |_=>false
def jV(S:Nat->Nat->Prop)(w:aqU)(cs:aqP aqT)(xs:aqP D):Prop:=xs.length=cs.length/\∀(i:Nat)(u:aqT)(x:D),cs[i]?=some u->xs[i]?=some x->dw S w u x/\u.oneCell'=true
theorem jV.nil{S:Nat->Nat->Prop}{w:aqU}:jV S w [] []:=⟨rfl,λi u x h=>by simp at h⟩
theorem jV.one{S:Nat->Nat->Prop}{w:aqU}{u:aqT}{x:D}(h:dw S w u x)(J:u.oneCell'=true):jV S w [u] [x]:=⟨rfl,λi v y hv hy=>by
 cases i with
 |zero=>cases hv;cases hy;exact⟨h,J⟩
 |succ i=>simp at hv⟩
theorem jV.app{S:Nat->Nat->Prop}{w:aqU}{a b:aqP aqT}{x y:aqP D}(h:jV S w a x)(k:jV S w b y):jV S w (a++b) (x++y):=by
 refine⟨by simp [h.1,k.1],λi u z hu hz=> ?_⟩;by_cases hi:i<a.length
 ·rw[aqb hi]at hu;rw[aqb (by rw[h.1];exact hi)]at hz;exact h.2 i u z hu hz
 ·rw[aqh (by omega)]at hu;rw[aqh (by rw[h.1];omega),h.1]at hz;exact k.2 _ u z hu hz
theorem Uh{α:Type}{Q:Nat->α->Prop}:∀n:Nat,(∀i,i<n->∃x,Q i x)->∃l:aqP α,l.length=n/\∀i x,l[i]?=some x->Q i x
 |0,_=>⟨[],rfl,λi x h=>by simp at h⟩
 |n+1,h=>by
  obtain⟨l,J,h2⟩:=Uh n λi hi=>h i (by omega);obtain⟨x,hx⟩:=h n (by omega);refine⟨l++[x],by simp [J],λi y hy=> ?_⟩;by_cases hi:i<l.length
  ·rw[aqb hi]at hy;exact h2 i y hy
  ·rw[aqh (by omega)]at hy;have:i-l.length=0:=by
     by_cases e:i-l.length=0
     ·exact e
     ·rw[aqx (by simp;omega)]at hy;cases hy
   rw[this]at hy;cases hy;have:i=n:=by omega
   rw[this];exact hx
theorem adH{a:Addr}(h:a.spot=none)(n:Nat):a.add n=⟨a.block,a.off+n,none⟩:=by
 unfold Addr.add;split
 ·next e=>subst e;cases a;simp only at h;subst h;rfl
 ·rfl
section
variable {H:Type} {enc:TypeId×aqT->H} {P:aqS} {W:aqU} {Ts:aqP TypeId}
abbrev rI(W:aqU):Nat->Nat->Prop:=λb _=>b<W.heap.size
theorem ahO{S:Nat->Nat->Prop}{w:aqU}:dw S w (.slice none 0 0) (.sl []):=
 .sl none 0 0 0 0 [] (λ_ _=>undef) (λh=>absurd rfl h) (aqc _) (by simp) (λ_ h=>by cases h) (λi j hi=>by simp at hi) (λi j x d hx=>by simp at hx)
theorem YY{e:TypeId}:∀{l:aqP (DataW H)}{d:DataW H},d∈l->∀n∈d.weights P e,n∈DataW.weightsAll P e l
 |[],_,h,_,_=>by cases h
 |x::l,d,h,n,hn=>by
  simp only[DataW.weightsAll,aqD];rcases aqv.1 h with rfl|h
  ·exact .inl hn
  ·exact .inr (YY h n hn)
theorem Zr{fuel:Nat}(IH:∀(t:TypeId)(cs:aqP aqT)(d:DataW H)(ps:aqP MemPlace),t∈Ts->(∀n∈d.weights P t,n<=reachBytes)->DataW.trod enc P W 0 (λ_=>true) true fuel t cs=some (d,ps)->∃xs,eo P t xs/\jV (rI W) W cs xs)(cs:aqP aqT):
 ∀(fs:aqP Field)(off:Nat)(ys:aqP (DataW H×aqP MemPlace)),P.consecB fs off cs.length=true->(∀f∈fs,f.type∈Ts)->(∀n∈DataW.weightsEach P (fs.map (·.type)) (ys.map (·.1)),n<=reachBytes)->
  fs.mapM (λf=>DataW.trod enc P W 0 (λ_=>true) true fuel f.type ((cs.drop f.offset).take (P.cellsOf f.type)))=some ys->
  ∃parts:aqP (aqP D),parts.length=fs.length/\(∀(i:Nat)(f:Field)(x:aqP D),fs[i]?=some f->parts[i]?=some x->eo P f.type x)/\jV (rI W) W (cs.drop off) parts.flatten
 |[],off,ys,hc,_,_,_=>by
  simp only[Program.consecB,beq_iff_eq]at hc;refine⟨[],rfl,λi f x h=>by simp at h,?_⟩;rw[List.drop_eq_nil_iff.2 (by omega)];exact jV.nil
 |f::fs,off,ys,hc,hS,hw,hm=>by
  simp only[Program.consecB,ap3,beq_iff_eq]at hc;obtain⟨alF,hc⟩:=hc;rw[List.mapM_cons]at hm;cases hx:DataW.trod enc P W 0 (λ_=>true) true fuel f.type ((cs.drop f.offset).take (P.cellsOf f.type))with
  |none=>simp [hx]at hm
  |some p=>
   cases mr:fs.mapM (λf=>DataW.trod enc P W 0 (λ_=>true) true fuel f.type ((cs.drop f.offset).take (P.cellsOf f.type)))with
   |none=>simp [hx,mr]at hm
   |some ps=>
    obtain⟨d,q⟩:=p;obtain rfl:(d,q)::ps=ys:=by simpa [hx,mr]using hm
    simp only[aqq,DataW.weightsEach,aqD]at hw;obtain⟨x,J,h2⟩:=IH f.type _ d q (hS f ap7) (λn hn=>hw n (.inl hn)) hx;obtain⟨parts,k1,k2,k3⟩:=Zr IH cs fs (off+P.cellsOf f.type) ps hc (λg hg=>hS g (aqa _ hg)) (λn hn=>hw n (.inr hn)) mr;refine⟨x::parts,by simp [k1],λi g y hg hy=> ?_,?_⟩
    ·cases i with
     |zero=>cases hg;cases hy;exact J
     |succ i=>exact k2 i g y (by simpa using hg) (by simpa using hy)
    ·rw[List.flatten_cons];rw[alF]at h2;have:=h2.app k3
     rwa [take_drop_step]at this
theorem ZT(hT:Oq P Ts=true):∀(fuel:Nat)(t:TypeId)(cs:aqP aqT)(d:DataW H)(ps:aqP MemPlace),t∈Ts->(∀n∈d.weights P t,n<=reachBytes)->DataW.trod enc P W 0 (λ_=>true) true fuel t cs=some (d,ps)->∃xs,eo P t xs/\jV (rI W) W cs xs
 |0,t,cs,d,ps,_,_,h=>by simp [DataW.trod]at h
 |fuel+1,t,cs,d,ps,ht,sY,h=>by
  have IH:=ZT hT fuel;have ni:=aqr.1 hT t ht;unfold DataW.trod at h;split at h
  ·next b e=>exact⟨_, .bool b e,jV.one (.v _) rfl⟩
  ·next k k' n e=>
   split at h
   ·next hk=>obtain⟨rfl,hw⟩:=hk;exact⟨_, .int n e hw,jV.one (.v _) rfl⟩
   ·cases h
  ·next e=>rw[e]at ni;cases ni
  ·next s e=>
   split at h
   ·next hw=>exact⟨_, .str s e hw,jV.one (.v _) rfl⟩
   ·cases h
  ·next e=>rw[e]at ni;cases ni
  ·next e=>rw[e]at ni;cases ni
  ·next e e1=>exact⟨_, .sl [] e1 (Nat.zero_le _) (λx hx=>absurd hx aqH),jV.one ahO rfl⟩
  ·next e a len cap e1=>
   rw[e1]at ni;simp only[ap3,List.contains_iff_mem,decide_eq_true_eq]at ni;obtain⟨hme,M3,qQ⟩:=ni;simp only at h;split at h
   ·next hb=>
    obtain⟨_,lC,yk⟩:=hb;rw[Option.bind_eq_some_iff]at h;obtain⟨elems,F1,BD⟩:=h;rw[Option.map_eq_some_iff]at BD;obtain⟨rest,_,BD⟩:=BD;cases BD
    simp only[DataW.weights,e1,aqv,aqD,ap6]at sY;have hlen:elems.length=len:=by simpa using mapM_some_length F1
    have hQ:∀i,i<len->∃x:aqP D,eo P e x/\∃cC,W.cells? 0 (a.add (i*P.cellsOf e)) (P.cellsOf e)=some cC/\jV (rI W) W cC x:=λi hi=>by
     have J:=mapM_some_get F1 i i (by simp [hi]);rw[ap5 (by omega)]at J;rw[Option.bind_eq_some_iff]at J;obtain⟨cC,h2,h3⟩:=J;obtain⟨x,h4,h5⟩:=IH e cC elems[i].1 elems[i].2 hme (λn hn=>sY n (.inr (.inl (YY (List.mem_map.2 ⟨_,List.getElem_mem _,rfl⟩) n hn)))) h3;exact⟨x,h4,cC,h2,h5⟩
    obtain⟨xs,wz,V5⟩:=Uh len hQ;have Zj:xs≠ []->a.spot=none:=λcG=>by
     have h0:0<len:=by cases xs with|nil=>exact(cG rfl).elim|cons x l=>simp at wz;omega
     obtain⟨x,_,cC,h2,_⟩:=hQ 0 h0;obtain⟨_,h3,h4⟩:=World.cells?_some h2;have h5:=h4 0 M3;rw[Nat.zero_mul]at h5;have e0:(a.add 0).add 0=a:=by simp [Addr.add]
     rw[e0,ap5 (by omega)]at h5;unfold World.cell? at h5;split at h5
     ·split at h5
      ·cases h5
      ·next hn=>simpa using hn
     ·cases h5
    have iu:∀i x,xs[i]?=some x->x.length=P.cellsOf e/\∀j,j<P.cellsOf e->∃u,W.cell? ⟨a.block,a.off+i*P.cellsOf e+j,none⟩=some u/\u.oneCell'=true/\∀d,x[j]?=some d->dw (rI W) W u d:=λi x hx=>by
     obtain⟨_,cC,h2,h3⟩:=V5 i x hx;obtain⟨_,h4,h5⟩:=World.cells?_some h2;have hs:=Zj (λe=>by rw[e]at hx;simp at hx);refine⟨h3.1.trans h4,λj hj=> ?_⟩;have h6:=h5 j hj;rw[adH hs,adH rfl,ap5 (by omega)]at h6;have hjx:j<x.length:=by rw[h3.1,h4];exact hj
     have hd:x[j]?=some x[j]:=ap5 hjx;have h7:=h3.2 j _ _ (ap5 (by omega)) hd;exact⟨_,h6,h7.2,λd jf=>by rw[hd]at jf;cases jf;exact h7.1⟩
    have amF:xs.length<=140737488355328:=by
     have J:=sY _ (.inl rfl);have h2:(elems.length+rest.length)*1<=(elems.length+rest.length)*P.bytesOf e:=Nat.mul_le_mul_left _ qQ;have h3:reachBytes<=140737488355328:=by decide
     omega
    refine⟨[.sl xs], .sl xs e1 amF (λx hx=> ?_),jV.one ?_ rfl⟩
    ·obtain⟨i,hi,rfl⟩:=List.mem_iff_getElem.1 hx;exact(V5 i _ (ap5 hi)).1
    ·rw[<-wz];refine .sl (some a) a.block a.off cap (P.cellsOf e) xs (λi j=>(W.cell? ⟨a.block,a.off+i*P.cellsOf e+j,none⟩).getD undef) (λcG=> ?_) (by omega) yk (λx hx=> ?_) (λi j hi hj=> ?_) λi j x d hx hd=> ?_
     ·have:=Zj cG;cases a;simp only at this;subst this;rfl
     ·obtain⟨i,hi,rfl⟩:=List.mem_iff_getElem.1 hx;exact(iu i _ (ap5 hi)).1
     ·obtain⟨u,J,h2,_⟩:=(iu i _ (ap5 hi)).2 j hj;refine⟨World.block_lt_of_cell? W ⟨a.block,a.off+i*P.cellsOf e+j,none⟩ J,?_,?_⟩
      ·rw[J];rfl
      ·rw[J];exact h2
     ·obtain⟨hl,hc⟩:=iu i x hx;obtain⟨u,J,_,h3⟩:=hc j (by rw[<-hl];exact(ap1.1 hd).1);simp only[J,Option.getD_some];exact h3 d hd
   ·cases h
  ·next cC fs e1=>
   rw[e1]at ni;simp only[ap3,aqr,List.contains_iff_mem]at ni;split at h
   ·next hl=>
    rw[Option.map_eq_some_iff]at h;obtain⟨ys,hm,BD⟩:=h;cases BD
    simp only[DataW.weights,e1]at sY;obtain⟨parts,k1,k2,k3⟩:=Zr IH _ fs.toList 0 ys (by rw[hl];exact ni.1) ni.2 sY hm;exact⟨_, .struct parts e1 (by simpa using k1) (λi f x hf=>k2 i f x (by simpa using hf)),by simpa using k3⟩
   ·cases h
  all_goals first|(cases h;done)|(exfalso;revert ni;(next e=>rw[e];intro h0;cases h0))
theorem NS{t:TypeId}{v:aqT}{d:DataW H}{ps:aqP MemPlace}(hT:Oq P Ts=true)(hm:t∈Ts)(hw:∀n∈d.weights P t,n<=reachBytes)(h:DataW.Trod enc P W 0 (λ_=>true) true t v d ps):∃xs,eo P t xs/\jV (rI W) W v.cells.toList xs:=
 let ⟨fuel,h⟩:=h
 ZT hT fuel t _ d ps hm hw h
theorem apJ{t:TypeId}{fs:Array Field}{v:aqT}{r:Reach}{base:Nat}(ht:P.underlying t=some (.struct fs))(h:Value.okWide P W r base t v):∃cs,v= .agg cs:=by
 unfold Value.okWide at h;rw[ht]at h;obtain⟨cs,rfl,_⟩:=h;exact⟨cs,rfl⟩
theorem aiD{G:Gh}(hS:G.S=rI W){cs:Array aqT}{xs:aqP D}(h:jV (rI W) W cs.toList xs):aH G W (.agg cs) (.agg (xs.map .d)):=by
 refine .agg cs _ (by rw[ap6,h.1,aqy]) λi u c hu hc=> ?_;rw[ap8]at hc;cases hx:xs[i]? with
 |none=>rw[hx]at hc;cases hc
 |some x=>
  rw[hx]at hc;cases hc
  exact .d (hS▸(h.2 i u x (by rw[aqo];exact hu) hx).1)
theorem aa6{G:Gh}(hS:G.S=rI W){v:aqT}{x:D}(h:jV (rI W) W #[v].toList [x]):aH G W v (.d x):= .d (hS▸(h.2 0 v x rfl rfl).1)
end
end Go.Proofs.YtpeecnpmcbnahaaGreatDoor
