/-
  Part 4 of the proof: AbsWk, OpenD.
-/
import Derived.Test.YtfdhojiehjfghaaGreatDoorPs3
import Derived.ProofKit
import Derived.DataOpen
import Derived.SizedLaws
namespace Go.Proofs.YtfdhojiehjfghaaGreatDoor
open Go.RowKit
set_option linter.unusedSimpArgs false
set_option linter.unusedVariables false
def Gl{α:Type}(x:AV)(k:AV->α):α:=
 match x with
 | .d y=>k (.d y)
 | .agg cs=>k (.agg cs)
 | .aQ cs=>k (.aQ cs)
 | .ptr n o=>fN n λn=>fN o λo=>k (.ptr n o)
 | .own n xs=>fN n λn=>k (.own n xs)
 | .fn f cs=>k (.fn f cs)
 | .mp n=>fN n λn=>k (.mp n)
 |x=>k x
theorem X9{α:Type}(x:AV)(k:AV->α):Gl x k=k x:=by cases x<;>simp [Gl,zX]
def fT{α:Type}:anD (Nat×AV)->(anD (Nat×AV)->α)->α
 |[],k=>k []
 |(d,x)::l,k=>fN d λd=>Gl x λx=>fT l λl=>k ((d,x)::l)
theorem SL{α:Type}:∀(l:anD (Nat×AV))(k:anD (Nat×AV)->α),fT l k=k l
 |[],k=>rfl
 |(d,x)::l,k=>by rw[fT,zX,X9,SL l]
def fC{α:Type}:anD AV->(anD AV->α)->α
 |[],k=>k []
 |x::l,k=>Gl x λx=>fC l λl=>k (x::l)
theorem Ve{α:Type}:∀(l:anD AV)(k:anD AV->α),fC l k=k l
 |[],k=>rfl
 |x::l,k=>by rw[fC,X9,Ve l]
def fH{α:Type}:anD ao->(anD ao->α)->α
 |[],k=>k []
 | .cells cs::l,k=>fC cs λcs=>fH l λl=>k (.cells cs::l)
 | .front e z n::l,k=>fH l λl=>k (.front e z n::l)
 | .map kv::l,k=>fH l λl=>k (.map kv::l)
 | .gone::l,k=>fH l λl=>k (.gone::l)
 |B::l,k=>fH l λl=>k (B::l)
theorem pk{α:Type}:∀(l:anD ao)(k:anD ao->α),fH l k=k l
 |[],k=>rfl
 | .cells cs::l,k=>by rw[fH,Ve,pk l]
 | .front e z n::l,k=>by rw[fH,pk l]
 | .map kv::l,k=>by rw[fH,pk l]
 | .gone::l,k=>by rw[fH,pk l]
 | .iI .. ::l,k=>by rw[fH,pk l]<;>simp
 | .vec .. ::l,k=>by rw[fH,pk l]<;>simp
 | .lp .. ::l,k=>by rw[fH,pk l]<;>simp
 | .it .. ::l,k=>by rw[fH,pk l]<;>simp
 | .dM .. ::l,k=>by rw[fH,pk l]<;>simp
 | .byt .. ::l,k=>by rw[fH,pk l]<;>simp
def Pf{α:Type}(s:St)(k:St->α):α:=fN s.n λn=>fT s.t λt=>fH s.h λh=>k ⟨n,t,h⟩
theorem af8{α:Type}(s:St)(k:St->α):Pf s k=k s:=by unfold Pf;rw[zX,SL,pk]
inductive Fr
 |S (y:Code)
 |B (id:Nat)
 |F (k:Nat) (f:St->Prop)
def gj(P:anG)(r:anF Nat)(N0:Nat)(Q:Exit->St->Prop):anD Fr->Exit->St->Prop
 |[]=>Q
 | .S y::K=>ig (λs=>bj P r N0 y (gj P r N0 Q K) s) (gj P r N0 Q K)
 | .B id::K=>qm id (gj P r N0 Q K)
 | .F _ f::K=>ig f (gj P r N0 Q K)
inductive Md
 |c (c:Code)
 |n
 |x (id:Nat)
inductive WR
 |at (c:Code) (K:List Fr) (s:St)
 |ret (s:St)
 |nrm (s:St)
 |fin (k:Nat) (s:St)
abbrev WO:=anF (WR×anD (In×bB))
def Kh(l:anD (In×bB)):WO->WO
 |some (w,m)=>some (w,l++m)
 |none=>none
def mm(P:anG):Nat->Md->anD Fr->anD (anD (Nat×bB))->St->WO
 |0,_,_,_,_=>none
 |F+1,m,K,A,s=>match m with
  | .n=>match K with
    |[]=>some (.nrm s,[])
    | .S y::K=>mm P F (.c y) K A s
    | .B _::K=>mm P F .n K A s
    | .F k _::_=>some (.fin k s,[])
  | .x id=>match K with
    |[]=>none
    | .S _::K=>mm P F (.x id) K A s
    | .B qY::K=>mm P F (bif id==qY then .n else .x id) K A s
    | .F _ _::K=>mm P F (.x id) K A s
  | .c c=>match c with
    | .seq a b=>mm P F (.c a) (.S b::K) A s
    | .block id b=>mm P F (.c b) (.B id::K) A s
    | .skip=>mm P F .n K A s
    | .ret=>some (.ret s,[])
    | .exit id=>mm P F (.x id) K A s
    | .region id ops dr=>match A with
      |[]=>some (.at (.region id ops dr) K s,[])
      |as::A=>bif !dr||vf ops then match nW P ops dr ops.toList 0 as s with
         |some (s1,l)=>Pf s1 λs1=>Kh l (mm P F .n K A s1)
         |none=>none
       else none
    | .cond o x y=>match A with
      |[]=>some (.at (.cond o x y) K s,[])
      |as::A=>match ij as 0 with
       | .bit b=>Kh [(.bit (ev s o), .bit b)] (mm P F (.c (bif b then x else y)) K A s)
       |_=>none
    |c=>match A with
     |[]=>some (.at c K s,[])
     |_=>none
section
variable {P:anG} {r:anF Nat} {N0:Nat} {Q:Exit->St->Prop}
theorem He:∀(K:anD Fr)(s:St),Q .ret s->gj P r N0 Q K .ret s
 |[],_,h=>h
 | .S _::K,s,h=>He K s h
 | .B _::K,s,h=>He K s h
 | .F _ _::K,s,h=>He K s h
def agn(P:anG)(r:anF Nat)(N0:Nat)(Q:Exit->St->Prop)(m:Md)(K:anD Fr)(s:St):Prop:=
 match m with
 | .c c=>bj P r N0 c (gj P r N0 Q K) s
 | .n=>gj P r N0 Q K .normal s
 | .x id=>gj P r N0 Q K (.exit id) s
def Cs(P:anG)(r:anF Nat)(N0:Nat)(Q:Exit->St->Prop)(K0:anD Fr):WR->Prop
 | .at c K s=>bj P r N0 c (gj P r N0 Q K) s
 | .ret s=>Q .ret s
 | .nrm s=>Q .normal s
 | .fin k s=>∀f,Fr.F k f∈K0->f s
theorem Cs.sub{K K':anD Fr}(h:∀k f,Fr.F k f∈K'->Fr.F k f∈K):∀{w:WR},Cs P r N0 Q K w->Cs P r N0 Q K' w
 | .at _ _ _,hp=>hp
 | .ret _,hp=>hp
 | .nrm _,hp=>hp
 | .fin k _,hp=>λf hf=>hp f (h k f hf)
theorem Yy{l m:anD (In×bB)}{x:WO}{w:WR}(h:Kh l x=some (w,m))(bA:fA P m):∃n,x=some (w,n)/\fA P n/\fA P l:=by
 unfold Kh at h;split at h
 ·next w' n=>
  cases h
  exact⟨n,rfl,λp hp=>bA p (List.mem_append_right _ hp),λp hp=>bA p (List.mem_append_left _ hp)⟩
 ·cases h
theorem Yb(hm:P.follows .mixedOrders=true):∀(F:Nat)(m:Md)(K:anD Fr)(A:anD (anD (Nat×bB)))(s:St)(w:WR)(l:anD (In×bB)),mm P F m K A s=some (w,l)->fA P l->Cs P r N0 Q K w->agn P r N0 Q m K s
 |0,_,_,_,_,_,_,h,_,_=>by simp [mm]at h
 |F+1,m,K,A,s,w,l,h,bA,hp=>by
  have ih:=Yb hm F;have tl:∀{x:Fr}{K:anD Fr},∀k f,Fr.F k f∈K->Fr.F k f∈x::K:=λ_ _ h=>amW _ h;have pS:∀{y:Code}{K:anD Fr},∀k f,Fr.F k f∈Fr.S y::K->Fr.F k f∈K:=λk f h=>by
   rcases ani.1 h with h|h
   ·cases h
   ·exact h
  have pB:∀{y:Nat}{K:anD Fr},∀k f,Fr.F k f∈Fr.B y::K->Fr.F k f∈K:=λk f h=>by
   rcases ani.1 h with h|h
   ·cases h
   ·exact h
  unfold mm at h;cases m with
  |n=>
   cases K with
   |nil=>cases h;exact hp
   |cons x K=>
    cases x with
    |S y=>exact ih (.c y) K _ _ _ _ h bA (hp.sub tl)
    |B id=>exact ih .n K _ _ _ _ h bA (hp.sub tl)
    |F k f=>cases h;exact hp _ amT
  |x id=>
   cases K with
   |nil=>cases h
   |cons x K=>
    cases x with
    |S y=>exact ih (.x id) K _ _ _ _ h bA (hp.sub tl)
    |B qY=>
     show(bif id==qY then gj P r N0 Q K .normal s else gj P r N0 Q K (.exit id) s);simp only at h;cases e:id==qY with
     |true=>rw[e]at h;exact ih .n K _ _ _ _ h bA (hp.sub tl)
     |false=>rw[e]at h;exact ih (.x id) K _ _ _ _ h bA (hp.sub tl)
    |F k f=>exact ih (.x id) K _ _ _ _ h bA (hp.sub tl)
  |c c=>
   simp only at h;split at h
   ·exact aR (ih (.c _) (.S _::K) _ _ _ _ h bA (hp.sub pS))
   ·exact la (ih (.c _) (.B _::K) _ _ _ _ h bA (hp.sub pB))
   ·exact fj (ih .n _ _ _ _ _ h bA hp)
   ·cases h;exact dz (He K s hp)
   ·exact x9 (ih (.x _) _ _ _ _ _ h bA hp)
   ·next id ops dr=>
    split at h
    ·cases h;exact hp
    ·next as A=>
     obtain⟨hb,h⟩:=kF h;split at h
     ·next s1 l1 e=>
      rw[af8]at h;obtain⟨n,e2,h2,h3⟩:=Yy h bA;have hk:=ih .n _ _ _ _ _ e2 h2 hp;have de:=AH (P:=P) (ops:=ops) (dr:=dr) (K:=gj P r N0 Q K .normal) ops.toList 0 s l1 e h3 hk;cases dr with
      |false=>exact fQ de
      |true=>
       have hl:vf ops.toList.toArray=true:=by simpa using hb
       have:=NU (P:=P) (r:=r) (N0:=N0) (Q:=gj P r N0 Q K) (s:=s) (id:=id) (l:=ops.toList) hm hl (by simpa using de);show bj P r N0 (.region id ops true) (gj P r N0 Q K) s
       simpa using this
     ·cases h
   ·next o x y=>
    split at h
    ·cases h;exact hp
    ·next as A=>
     split at h
     ·next b e=>
      obtain⟨n,e2,h2,h3⟩:=Yy h bA;have h4:=OK.HK (h3 (_,_) amT);have hk:=ih (.c _) _ _ _ _ _ e2 h2 hp;exact M4 h4 (λe=>by subst e;exact hk) (λe=>by subst e;exact hk)
     ·cases h
   ·split at h
    ·cases h;exact hp
    ·cases h
end
def wK:WO->anD Fr
 |some (.at _ K _,_)=>K
 |_=>[]
def wS:WO->St
 |some (.at _ _ s,_)=>s
 |_=>⟨0,[],[]⟩
def jb(k:Nat):anD Fr->anD (St->Prop)
 |[]=>[]
 | .F k' f::K=>bif k'==k then f::jb k K else jb k K
 |_::K=>jb k K
theorem E0{k:Nat}{f:St->Prop}:∀{K:anD Fr},Fr.F k f∈K->f∈jb k K
 |[],h=>by cases h
 | .S _::K,h=>by
   rcases ani.1 h with h|h
   ·cases h
   ·exact E0 (K:=K) h
 | .B _::K,h=>by
   rcases ani.1 h with h|h
   ·cases h
   ·exact E0 (K:=K) h
 | .F k' g::K,h=>by
   rcases ani.1 h with h|h
   ·cases h;simp [jb]
   ·unfold jb;cases k'==k with
    |true=>exact amW _ (E0 h)
    |false=>exact E0 h
def oP:WO->anF (anD (In×bB))
 |some (.at _ _ _,l)=>some l
 |_=>none
def mS(live:anD Nat)(m:Nat):WO->anF (St×anD (In×bB))
 |some (.at (.loop _) _ s,l)=>(jA s live m).map (·,l)
 |_=>none
def AY(live:anD Nat)(m:Nat)(ks:anD Nat)(kn:anD (Nat×Nat)):WO->anF (St×anD (In×bB))
 |some (.at (.loop _) _ s,l)=>(mv s live m ks kn).map (·,l)
 |_=>none
def oy:WO->anF (anD (In×bB))
 |some (.at _ (.S _::_) _,l)=>some l
 |_=>none
def pL(k:Nat)(live:anD Nat)(m:Nat):WO->anF (St×anD (In×bB))
 |some (.fin k' s,l)=>bif k'==k then(jA s live m).map (·,l)else none
 |_=>none
def wO(k:Nat)(live:anD Nat)(m:Nat)(ks:anD Nat)(kn:anD (Nat×Nat)):WO->anF (St×anD (In×bB))
 |some (.fin k' s,l)=>bif k'==k then(mv s live m ks kn).map (·,l)else none
 |_=>none
def sT(P:anG)(rs:anD ResultVar):WO->anF (AV×anD (In×bB))
 |some (.ret s,l)=>(xM P rs s).map (·,l)
 |some (.nrm s,l)=>(xM P rs s).map (·,l)
 |_=>none
def FZ(P:anG)(rs:anD ResultVar)(m:Nat):WO->anF ((AV×anD ao)×anD (In×bB))
 |some (.ret s,l)=>(xH P rs m s).map (·,l)
 |some (.nrm s,l)=>(xH P rs m s).map (·,l)
 |_=>none
def yW:anD Fr->anF (Code×anD Fr)
 | .S y::K=>some (y,K)
 | .B _::K=>yW K
 |_=>none
def Ib(P:anG)(keep:anD Nat)(as:anD (Nat×bB)):WO->anF (anD (Nat×AV)×anD ao×anD (In×bB))
 |some (.at (.region _ ops dr) K s,_)=>bif (!dr||vf ops)&&(yW K).isSome then rm P dr ops.toList as keep s else none
 |_=>none
def gk(k:Nat)(f:St->Prop)(s:St):WO->WO
 |some (.at (.loop b) K _,_)=>some (.at b (.F k f::K) s,[])
 |_=>none
def rj(k:Nat)(f:St->Prop):WO->WO
 |some (.at c (.S _::K) s,_)=>some (.at c (.F k f::K) s,[])
 |_=>none
def qy(s:St):WO->WO
 |some (.at _ (.S y::K) _,_)=>some (.at y K s,[])
 |_=>none
def rz(Δ:anD (Nat×AV))(h':anD ao):WO->WO
 |some (.at _ K s,_)=>match yW K with
  |some (y,K')=>some (.at y K' ⟨s.n,Δ++s.t,h'⟩,[])
  |none=>none
 |_=>none
def Zm(f:St->St):WO->WO
 |some (.at c K s,l)=>some (.at c K (f s),l)
 |_=>none
def UX:Nat:=4000
def wk(P:anG)(w:WO)(az:anD (anD (Nat×Ob P))):WO:=
 match w with
 |some (.at c K s,_)=>mm P UX (.c c) K (az.map iD) s
 |_=>none
def cZ{P:anG}(az:anD (anD (Nat×Ob P))):anD (In×bB):=az.flatMap iS
theorem al4{P:anG}(az:anD (anD (Nat×Ob P))):fA P (cZ az):=λp hp=>by
 obtain⟨l,_,h⟩:=List.mem_flatMap.1 hp;exact ru l p h
theorem qL{α β:Type}{x:anF α}{l:β}{y:α}{m:β}(h:x.map (·,l)=some (y,m)):x=some y/\l=m:=by
 cases x with
 |none=>cases h
 |some z=>cases h;exact⟨rfl,rfl⟩
def Fi(P:anG)(r:anF Nat)(N0:Nat)(Q:Exit->St->Prop):WO->Prop
 |some (.at c K s,_)=>bj P r N0 c (gj P r N0 Q K) s
 |_=>True
structure GW(P:Program)(r:Option Nat)(N0:Nat)(Q:Exit->St->Prop)(w:WO):Prop where
 run:Fi P r N0 Q w
section
variable {P:anG} {r:anF Nat} {N0:Nat} {Q:Exit->St->Prop} {w0:WO}
theorem nu{az:anD (anD (Nat×Ob P))}(hm:P.follows .mixedOrders=true){w:WR}(e:wk P w0 az=some (w,cZ az))(hp:∀K,(∀k f,Fr.F k f∈K->Fr.F k f∈wK w0)->Cs P r N0 Q K w):GW P r N0 Q w0:=by
 constructor
 unfold wk at e;split at e
 ·next c K s l=>exact Yb hm UX (.c c) K _ s w _ e (al4 az) (hp K λk f h=>h)
 ·cases e
theorem ft(hm:P.follows .mixedOrders=true)(az:anD (anD (Nat×Ob P)))(k:GW P r N0 Q (wk P w0 az))(e:oP (wk P w0 az)=some (cZ az):=by kernel_rfl):GW P r N0 Q w0:=by
 generalize hw:wk P w0 az=w at e k;unfold oP at e;split at e
 ·cases e;exact nu hm hw λK _=>k.run
 ·cases e
theorem aiy(hm:P.follows .mixedOrders=true){fn:Func}{R:AV}(az:anD (anD (Nat×Ob P)))(e:sT P fn.results.toList (wk P w0 az)=some (R,cZ az)):GW P r N0 (j9 P fn R) w0:=by
 generalize hw:wk P w0 az=w at e;unfold sT at e;split at e
 ·obtain⟨e1,rfl⟩:=qL e;exact nu hm hw λK _=>e1
 ·obtain⟨e1,rfl⟩:=qL e;exact nu hm hw λK _=>e1
 ·cases e
theorem Z2(hm:P.follows .mixedOrders=true){fn:Func}{m:Nat}{R:AV}{H:anD ao}(az:anD (anD (Nat×Ob P)))(e:FZ P fn.results.toList m (wk P w0 az)=some ((R,H),cZ az)):GW P r N0 (vo P fn m R H) w0:=by
 generalize hw:wk P w0 az=w at e;unfold FZ at e;split at e
 ·obtain⟨e1,rfl⟩:=qL e;exact nu hm hw λK _=>e1
 ·obtain⟨e1,rfl⟩:=qL e;exact nu hm hw λK _=>e1
 ·cases e
theorem wr(hm:P.follows .mixedOrders=true){fn:Func}{R:AV}(az:anD (anD (Nat×Ob P)))(e:sT P fn.results.toList (wk P w0 az)=some (R,cZ az):=by kernel_rfl):GW P r N0 (j9 P fn R) w0:=aiy hm az e
theorem iV(hm:P.follows .mixedOrders=true){fn:Func}{m:Nat}{R:AV}{H:anD ao}(az:anD (anD (Nat×Ob P)))(e:FZ P fn.results.toList m (wk P w0 az)=some ((R,H),cZ az):=by kernel_rfl):GW P r N0 (vo P fn m R H) w0:=Z2 hm az e
structure Jx{ι:Type}(k:Nat)(live:List Nat)(m:Nat)(st:ι->St)(I:ι->Prop)(μ:ι->Nat)(i0:ι)(f:St->Prop):Prop where
 h:∀s' i',jA s' live m=some (st i')->I i'->μ i'<μ i0->f s'
structure Kl{ι:Type}(k:Nat)(live:List Nat)(m:Nat)(ks:List Nat)(kn:List (Nat×Nat))(st:ι->St)(I:ι->Prop)(μ:ι->Nat)(i0:ι)(f:St->Prop):Prop where
 h:∀s' i',VDm m (s'.h.take m)->mv s' live m ks kn=some (st i')->I i'->μ i'<μ i0->f s'
structure sZ{ι:Type}(k:Nat)(live:List Nat)(m:Nat)(st:ι->St)(I:ι->Prop)(f:St->Prop):Prop where
 h:∀s' i',jA s' live m=some (st i')->I i'->f s'
structure Fv{ι:Type}(k:Nat)(live:List Nat)(m:Nat)(ks:List Nat)(kn:List (Nat×Nat))(st:ι->St)(I:ι->Prop)(f:St->Prop):Prop where
 h:∀s' i',VDm m (s'.h.take m)->mv s' live m ks kn=some (st i')->I i'->f s'
theorem Gw(hm:P.follows .mixedOrders=true){k:Nat}{s1:St}{f:St->Prop}(az:anD (anD (Nat×Ob P)))(e1:jb k (wK w0)=[f])(e:wk P w0 az=some (.fin k s1,cZ az))(hf:f s1):GW P r N0 Q w0:=
 nu hm e λK hK g hg=>by
  have:=E0 (hK k g hg);rw[e1,List.mem_singleton]at this;subst this;exact hf
theorem Ec(hm:P.follows .mixedOrders=true){ι:Type}{live:anD Nat}{m k:Nat}{st:ι->St}{I:ι->Prop}{μ:ι->Nat}{i0:ι}{f:St->Prop}(hf:Jx k live m st I μ i0 f)(i:ι)(az:anD (anD (Nat×Ob P)))(hI:I i)(hμ:μ i<μ i0:=by exact anB _)(e1:jb k (wK w0)=[f]:=by kernel_rfl)(e:pL k live m (wk P w0 az)=some (st i,cZ az):=by kernel_rfl):GW P r N0 Q w0:=by
 generalize hw:wk P w0 az=w at e;unfold pL at e;split at e
 ·next k' s' l=>
  obtain⟨hb,e⟩:=kF e;obtain⟨e2,rfl⟩:=qL e;rw[beq_iff_eq]at hb;subst hb;exact Gw hm az e1 hw (hf.h _ i e2 hI hμ)
 ·cases e
def tu:anD ao->anD (anD (anD AV))
 |[]=>[]
 | .vec _ _ cs::l=>cs::tu l
 |_::l=>tu l
structure VE(m:Nat) where
 x:List (List AV)
 ok:∀e k,(ao.vec e k x).Az m
def VE.mz{m:Nat}(xs:anD (anD D)):VE m:=⟨bG xs,λ_ _=>(vX (m:=m) (l:=[]) pf).1⟩
def VE.row{m:Nat}(xs:anD (anD D))(i:Nat)(r:anD AV)(h1:r.map (AV.aV m)=r:=by kernel_rfl)(h2:r.all (AV.aH m)=true:=by kernel_rfl):VE m:=⟨(bG xs).set i r,λ_ _=>(vmR (m:=m) (l:=[]) h1 h2 pf).1⟩
theorem Fy{m:Nat}:∀(l:anD ao)(ee:anD (VE m)),tu l=ee.map VE.x->VDm m l
 |[],_,_=>pf
 |B::l,ee,h=>by
  cases B with
  |vec e k cs=>
   cases ee with
   |nil=>cases h
   |cons v vs=>
    have h1:cs=v.x:=(List.cons.inj h).1;subst h1;exact⟨v.ok e k,Fy l vs (List.cons.inj h).2⟩
  |_=>exact⟨trivial,Fy l ee h⟩
def qt(m:Nat):WO->anD (anD (anD AV))
 |some (.fin _ s,_)=>tu (s.h.take m)
 |some (.at _ _ s,_)=>tu (s.h.take m)
 |_=>[]
theorem Fq(hm:P.follows .mixedOrders=true){ι:Type}{live:anD Nat}{m k:Nat}{ks:anD Nat}{kn:anD (Nat×Nat)}{st:ι->St}{I:ι->Prop}{μ:ι->Nat}{i0:ι}{f:St->Prop}(hf:Kl k live m ks kn st I μ i0 f)(i:ι)(az:anD (anD (Nat×Ob P)))(hI:I i)(hμ:μ i<μ i0:=by exact anB _)(e1:jb k (wK w0)=[f]:=by kernel_rfl)(ee:anD (VE m):=[])(e0:qt m (wk P w0 az)=ee.map VE.x:=by kernel_rfl)(e:wO k live m ks kn (wk P w0 az)=some (st i,cZ az):=by kernel_rfl):GW P r N0 Q w0:=by
 generalize hw:wk P w0 az=w at e e0;unfold wO at e;split at e
 ·next k' s' l=>
  obtain⟨hb,e⟩:=kF e;obtain⟨e2,rfl⟩:=qL e;rw[beq_iff_eq]at hb;subst hb;exact Gw hm az e1 hw (hf.h _ i (Fy _ ee e0) e2 hI hμ)
 ·cases e
theorem lf(hm:P.follows .mixedOrders=true){ι:Type}{live:anD Nat}{m k:Nat}{st:ι->St}{I:ι->Prop}{f:St->Prop}(hf:sZ k live m st I f)(i:ι)(az:anD (anD (Nat×Ob P)))(hI:I i)(e1:jb k (wK w0)=[f]:=by kernel_rfl)(e:pL k live m (wk P w0 az)=some (st i,cZ az):=by kernel_rfl):GW P r N0 Q w0:=by
 generalize hw:wk P w0 az=w at e;unfold pL at e;split at e
 ·next k' s' l=>
  obtain⟨hb,e⟩:=kF e;obtain⟨e2,rfl⟩:=qL e;rw[beq_iff_eq]at hb;subst hb;exact Gw hm az e1 hw (hf.h _ i e2 hI)
 ·cases e
theorem KC(hm:P.follows .mixedOrders=true){ι:Type}(k:Nat)(az:anD (anD (Nat×Ob P)))(live:anD Nat)(m:Nat)(st:ι->St)(I:ι->Prop)(μ:ι->Nat)(i0:ι)(hI:I i0)
 (body:∀i,I i->∀f:St->Prop,Jx k live m st I μ i f->GW P r N0 Q (gk k f (st i) (wk P w0 az)))
 (hN:N0<=m:=by exact amV rfl) (e:mS live m (wk P w0 az)=some (st i0,cZ az):=by kernel_rfl):GW P r N0 Q w0:=by
 generalize hw:wk P w0 az=w at e body;unfold mS at e;split at e
 ·next b K' s' l=>
  obtain⟨e2,rfl⟩:=qL e;refine nu hm hw λK _=> ?_;refine TT live m st I μ i0 hN e2 hI λi hi=> ?_;exact(body i hi _ ⟨λs' i' h1 h2 h3=>⟨i',h1,h2,h3⟩⟩).run
 ·cases e
theorem Bg(hm:P.follows .mixedOrders=true){ι:Type}(k:Nat)(az:anD (anD (Nat×Ob P)))(live:anD Nat)(m:Nat)(ks:anD Nat)(kn:anD (Nat×Nat))(st:ι->St)(I:ι->Prop)(μ:ι->Nat)(i0:ι)(hI:I i0)
 (body:∀i,I i->∀f:St->Prop,Kl k live m ks kn st I μ i f->GW P r N0 Q (gk k f (st i) (wk P w0 az)))
 (hN:N0<=m:=by exact amV rfl) (ee:anD (VE m):=[]) (e0:qt m (wk P w0 az)=ee.map VE.x:=by kernel_rfl) (e:AY live m ks kn (wk P w0 az)=some (st i0,cZ az):=by kernel_rfl):GW P r N0 Q w0:=by
 generalize hw:wk P w0 az=w at e e0 body;unfold AY at e;split at e
 ·next b K' s' l=>
  obtain⟨e2,rfl⟩:=qL e;refine nu hm hw λK _=> ?_;refine ajq live m ks kn st I μ i0 hN ⟨Fy _ ee e0,e2⟩ hI λi hi=> ?_;exact(body i hi _ ⟨λs' i' h0 h1 h2 h3=>⟨i',⟨h0,h1⟩,h2,h3⟩⟩).run
 ·cases e
theorem Dq(hm:P.follows .mixedOrders=true){ι:Type}(k:Nat)(az:anD (anD (Nat×Ob P)))(live:anD Nat)(m:Nat)(st:ι->St)(I:ι->Prop)
 (br:∀f:St->Prop,sZ k live m st I f->GW P r N0 Q (rj k f (wk P w0 az)))
 (rest:∀i,I i->GW P r N0 Q (qy (st i) (wk P w0 az))) (hN:N0<=m:=by exact amV rfl) (e:oy (wk P w0 az)=some (cZ az):=by kernel_rfl):GW P r N0 Q w0:=by
 generalize hw:wk P w0 az=w at e br rest;unfold oy at e;split at e
 ·cases e
  refine nu hm hw λK _=> ?_;exact M5 live m st I hN (br _ ⟨λs' i' h1 h2=>⟨i',h1,h2⟩⟩).run λi hi=>(rest i hi).run
 ·cases e
theorem ah7(hm:P.follows .mixedOrders=true){ι:Type}{live:anD Nat}{m k:Nat}{ks:anD Nat}{kn:anD (Nat×Nat)}{st:ι->St}{I:ι->Prop}{f:St->Prop}(hf:Fv k live m ks kn st I f)(i:ι)(az:anD (anD (Nat×Ob P)))(hI:I i)(ee:anD (VE m):=[])(e0:qt m (wk P w0 az)=ee.map VE.x:=by kernel_rfl)(e1:jb k (wK w0)=[f]:=by kernel_rfl)(e:wO k live m ks kn (wk P w0 az)=some (st i,cZ az):=by kernel_rfl):GW P r N0 Q w0:=by
 generalize hw:wk P w0 az=w at e e0;unfold wO at e;split at e
 ·next k' s' l=>
  obtain⟨hb,e⟩:=kF e;obtain⟨e2,rfl⟩:=qL e;rw[beq_iff_eq]at hb;subst hb;exact Gw hm az e1 hw (hf.h _ i (Fy _ ee e0) e2 hI)
 ·cases e
theorem Xu(hm:P.follows .mixedOrders=true){ι:Type}(k:Nat)(az:anD (anD (Nat×Ob P)))(live:anD Nat)(m:Nat)(ks:anD Nat)(kn:anD (Nat×Nat))(st:ι->St)(I:ι->Prop)
 (br:∀f:St->Prop,Fv k live m ks kn st I f->GW P r N0 Q (rj k f (wk P w0 az)))
 (rest:∀i,I i->GW P r N0 Q (qy (st i) (wk P w0 az))) (hN:N0<=m:=by exact amV rfl) (e:oy (wk P w0 az)=some (cZ az):=by kernel_rfl):GW P r N0 Q w0:=by
 generalize hw:wk P w0 az=w at e br rest;unfold oy at e;split at e
 ·cases e
  refine nu hm hw λK _=> ?_;exact agM live m ks kn st I hN (br _ ⟨λs' i' h0 h1 h2=>⟨i',⟨h0,h1⟩,h2⟩⟩).run λi hi=>(rest i hi).run
 ·cases e
theorem Gi:∀{K:anD Fr}{y:Code}{K':anD Fr}{s:St},yW K=some (y,K')->bj P r N0 y (gj P r N0 Q K') s->gj P r N0 Q K .normal s
 |[],_,_,_,h,_=>by cases h
 | .S y::K,_,_,_,h,k=>by cases h;exact k
 | .B _::K,_,_,s,h,k=>Gi (K:=K) (s:=s) h k
 | .F _ _::K,_,_,_,h,_=>by cases h
theorem ale(hm:P.follows .mixedOrders=true)(Δ:anD (Nat×AV))(h':anD ao)(e:∃az:anD (Nat×Ob P),Ib P (Δ.map (·.1)) (iD az) (wk P w0 [])=some (Δ,h',iS az))(k:GW P r N0 Q (rz Δ h' (wk P w0 [])))(e0:oP (wk P w0 [])=some []:=by kernel_rfl):GW P r N0 Q w0:=by
 generalize hw:wk P w0 []=w at e k e0;obtain⟨az,e⟩:=e;unfold Ib at e;split at e
 ·next id ops dr K' s' l=>
  obtain⟨hb,e⟩:=kF e;rw[amP]at hb;cases e0
  refine nu hm hw λK _=> ?_;obtain⟨s1,h1,h2,h3,h4⟩:=IW e;obtain⟨p,hp⟩:=Option.isSome_iff_exists.1 hb.2;obtain⟨y,K2⟩:=p;have hk:gj P r N0 Q K' .normal s1:=by
   refine Gi hp (Ha (s:=s1) (s':=⟨s'.n,Δ++s'.t,h'⟩) h2.symm h3.symm h4 ?_);have k:=k.run;simp only[rz,hp]at k;exact k
  show bj P r N0 (.region id ops dr) (gj P r N0 Q K') s';have de:=AH (P:=P) (ops:=ops.toList.toArray) (dr:=dr) (K:=gj P r N0 Q K' .normal) ops.toList 0 s' _ h1 (ru az) hk;cases dr with
  |false=>exact fQ (by simpa using de)
  |true=>
   have hl:vf ops.toList.toArray=true:=by simpa using hb.1
   have:=NU (P:=P) (r:=r) (N0:=N0) (Q:=gj P r N0 Q K') (s:=s') (id:=id) (l:=ops.toList) hm hl (by simpa using de)
   simpa using this
 ·cases e
def Gg(P:anG)(keep:anD Nat)(as:anD (Nat×bB)):WO->anF (anD (anD (Nat×AV)×anD ao×anD (In×bB)))
 |some (.at (.region _ ops true) K s,_)=>bif (yW K).isSome then yF P ops.toList as keep s else none
 |_=>none
theorem yw(m:Nat)(hm:P.follows .mixedOrders=true)(Δ:anD (Nat×AV))(h':anD ao)(e:∃az:anD (Nat×Ob P),Gg P (Δ.map (·.1)) (iD az) (wk P w0 [])=some (List.replicate m (Δ,h',iS az)))(k:GW P r N0 Q (rz Δ h' (wk P w0 [])))(e0:oP (wk P w0 [])=some []:=by kernel_rfl):GW P r N0 Q w0:=by
 generalize hw:wk P w0 []=w at e k e0;obtain⟨az,e⟩:=e;unfold Gg at e;split at e
 ·next id ops K' s' l=>
  obtain⟨hb,e⟩:=kF e;cases e0
  refine nu hm hw λK _=> ?_;obtain⟨p,hp⟩:=Option.isSome_iff_exists.1 hb;obtain⟨y,K2⟩:=p;show bj P r N0 (.region id ops true) (gj P r N0 Q K') s';have:=rte (r:=r) (N0:=N0) (Q:=gj P r N0 Q K') (id:=id) (ol:=ops.toList) (n:=s'.n) (t:=s'.t) (h:=s'.h) m hm az Δ h' e (Gi hp (by
   have k:=k.run;simp only[rz,hp]at k;exact k))
  simpa using this
 ·cases e
def XI(P:anG)(keep:anD Nat)(as:anD (Nat×bB)):WO->anF (anD (Nat×AV)×anD ao×anD (In×bB))
 |some (.at (.region _ ops true) K s,_)=>bif (yW K).isSome&&Cp true ops (List.range ops.toList.length)&&BQ as 0 ops.toList then rm P false ops.toList as keep s else none
 |_=>none
theorem sE(hm:P.follows .mixedOrders=true)(az:anD (Nat×Ob P))(Δ:anD (Nat×AV))(h':anD ao)(k:GW P r N0 Q (rz Δ h' (wk P w0 [])))(e:XI P (Δ.map (·.1)) (iD az) (wk P w0 [])=some (Δ,h',iS az):=by kernel_rfl)(e0:oP (wk P w0 [])=some []:=by kernel_rfl):GW P r N0 Q w0:=by
 generalize hw:wk P w0 []=w at e k e0;unfold XI at e;split at e
 ·next id ops K' s' l=>
  obtain⟨hb,e⟩:=kF e;rw[amP,amP]at hb;cases e0
  refine nu hm hw λK _=> ?_;obtain⟨p,hp⟩:=Option.isSome_iff_exists.1 hb.1.1;obtain⟨y,K2⟩:=p;show bj P r N0 (.region id ops true) (gj P r N0 Q K') s';have hk:bj P r N0 y (gj P r N0 Q K2) ⟨s'.n,Δ++s'.t,h'⟩:=by
   have k:=k.run;simp only[rz,hp]at k;exact k
  obtain⟨s1,h1,h2,h3,h4⟩:=IW e;have ry:gj P r N0 Q K' .normal s1:=Gi hp (Ha (s:=s1) (s':=⟨s'.n,Δ++s'.t,h'⟩) h2.symm h3.symm h4 hk);have hl:Cp true ops.toList.toArray (List.range ops.toList.length)=true:=by simpa using hb.1.2
  have:bj P r N0 (.region id ops.toList.toArray true) (gj P r N0 Q K') s':=by
   refine TM (m:=true) (List.range ops.toList.length) hm (by simp) hl ?_;rw[T8];exact QZ ops.toList 0 _ _ h1 (ru az) hb.2 ry
  simpa using this
 ·cases e
def Ox(b:Nat):ao->anD (Nat×Nat×Nat×Nat)
 | .cells cs=>AV.qO b cs
 | .lp .. =>[(1,0,0,0)]
 | .it .. =>[(1,0,0,0)]
 | .dM _ cs=>AV.qO b cs
 |_=>[]
structure VM(b L kk:Nat)(ys:List (List D)) where
 x:List (List AV)
 y:List (List AV)
 ok:ys.length=L->y=x.map (·.map (AV.cG b kk ys))
def VM.mz{b L kk:Nat}{ys:anD (anD D)}(zs:anD (anD D)):VM b L kk ys:=⟨bG zs,bG zs,λ_=>(Fz (λd=>by simp [AV.cG]) zs).symm⟩
def VM.rw{b L kk:Nat}{ys:anD (anD D)}(zs:anD (anD D))(i:Nat)(cs bV:anD AV)(c:Nat)(h:AV.qO b cs=List.replicate c (0,L,L,kk):=by kernel_rfl)(e:AV.lL b ys cs=bV:=by kernel_rfl):VM b L kk ys:=
 ⟨(bG zs).set i cs,(bG zs).set i bV,λhL=>by rw[List.map_set,Fz (λd=>by simp [AV.cG]),<-sk,uU _ (LZ hL h),e]⟩
def VM.row{b L kk:Nat}{ys:anD (anD D)}{α:Type}(f:α->anD D)(E:anD α)(i:Nat)(cs:anD AV)(y:α)(c:Nat)(h:AV.qO b cs=List.replicate c (0,L,L,kk):=by kernel_rfl)(e:AV.lL b ys cs=(f y).map AV.d:=by kernel_rfl):VM b L kk ys:=
 ⟨(bG (E.map f)).set i cs,bG ((E.set i y).map f),λhL=>by
   have h1:((bG (E.map f)).set i cs).map (·.map (AV.cG b kk ys))=(bG (E.map f)).set i (cs.map (AV.cG b kk ys)):=by rw[List.map_set,Fz (λd=>by simp [AV.cG])]
   have h2:cs.map (AV.cG b kk ys)=(f y).map AV.d:=by rw[<-sk,uU _ (LZ hL h),e]
   rw[h1,h2];exact(aef rfl).symm⟩
def oV(b:Nat)(ys:anD (anD D)):anD ao->anD (anD (anD AV))->anD ao
 |[],_=>[]
 |B::l,vs=>match B with
  | .vec e k cs=>match vs with
    |v::vs=> .vec e k v::oV b ys l vs
    |[]=> .vec e k cs::oV b ys l []
  | .cells cs=> .cells (AV.lL b ys cs)::oV b ys l vs
  | .dM T cs=> .dM T (AV.lL b ys cs)::oV b ys l vs
  |B=>B::oV b ys l vs
theorem Sq{b L kk:Nat}{ys:anD (anD D)}(hL:ys.length=L):∀(h:anD ao)(vs:anD (VM b L kk ys)),tu h=vs.map VM.x->(∀q∈h.flatMap (Ox b),q=(0,ys.length,ys.length,kk))->oV b ys h (vs.map VM.y)=h.map (ao.lC (AV.cG b kk ys))
 |[],_,_,_=>rfl
 |B::l,vs,hv,ho=>by
  have hl:∀vs:anD (VM b L kk ys),tu l=vs.map VM.x->oV b ys l (vs.map VM.y)=l.map (ao.lC (AV.cG b kk ys)):=λvs hv=>Sq hL l vs hv λq hq=>ho q (by rw[List.flatMap_cons];exact List.mem_append_right _ hq);have hb:∀q∈Ox b B,q=(0,ys.length,ys.length,kk):=λq hq=>ho q (by rw[List.flatMap_cons];exact List.mem_append_left _ hq);cases B with
  |vec e k cs=>
   cases vs with
   |nil=>cases hv
   |cons v vs=>
    have hv1:cs=v.x:=(List.cons.inj hv).1;have e1:(ao.vec e k cs).lC (AV.cG b kk ys)= .vec e k v.y:=by rw[v.ok hL,hv1];rfl
    show ao.vec e k v.y::oV b ys l (vs.map VM.y)=ao.lC (AV.cG b kk ys) (.vec e k cs)::l.map _;rw[hl vs (List.cons.inj hv).2,e1]
  |cells cs=>
   have e1:(ao.cells cs).lC (AV.cG b kk ys)= .cells (AV.lL b ys cs):=by
    rw[<-uU cs hb,sk];rfl
   show ao.cells (AV.lL b ys cs)::oV b ys l (vs.map VM.y)=ao.lC (AV.cG b kk ys) (.cells cs)::l.map _;rw[hl vs hv,e1]
  |front e k n=>exact congrArg (ao.front e k n::·) (hl vs hv)
  |byt e q=>exact congrArg (ao.byt e q::·) (hl vs hv)
  |map kv=>exact congrArg (ao.map kv::·) (hl vs hv)
  |iI kv=>exact congrArg (ao.iI kv::·) (hl vs hv)
  |gone=>exact congrArg (ao.gone::·) (hl vs hv)
  |lp ls p as bd cs=>have:=congrArg Prod.fst (hb (1,0,0,0) amT);cases this
  |it sn cs=>have:=congrArg Prod.fst (hb (1,0,0,0) amT);cases this
  |dM T0 cs=>
   have e1:(ao.dM T0 cs).lC (AV.cG b kk ys)= .dM T0 (AV.lL b ys cs):=by
    rw[<-uU cs hb,sk];rfl
   show ao.dM T0 (AV.lL b ys cs)::oV b ys l (vs.map VM.y)=ao.lC (AV.cG b kk ys) (.dM T0 cs)::l.map _;rw[hl vs hv,e1]
theorem ads{c:Code}{s:St}(live:anD Nat)(b:Nat)(xs:anD (anD D)){e k L:Nat}(h':anD ao)(hb:s.h[b]?=some (.vec e k (bG xs)))(iO:∀c∈xs,c.all D.zA=true)(hL:xs.length=L)
 (ho:∀q∈live.flatMap λi=>(aY s.t i).tR b,q=(0,xs.length,xs.length,k)) (hh:h'=s.h.map (ao.lC (AV.cG b k xs))) (K:bj P r N0 c Q ⟨s.n,live.map (λi=>(i,(aY s.t i).mlt b xs)),h'.set b .gone⟩):bj P r N0 c Q s:=by
 constructor
 intro G w a n hs hN;obtain⟨G',hE,e1,bP⟩:=hs.Yu xs hb iO;refine wpIn_mono (K.run G' w a n (bP.less rfl (by rw[hh]) λi=> ?_) (by rw[e1];exact hN)) λ_ _ _ hn=>hn.trans (hE.less hN);show aY (live.map (λi=>(i,(aY s.t i).mlt b xs))) i=aY (s.t.map λp=>(p.1,p.2.cG b k xs)) i\/_;rw[sb (λk=>(aY s.t k).mlt b xs),IV (AV.cG b k xs) (by simp [AV.cG])];split
 ·next hi=>
  left
  refine(Zl _ λq hq=>ho q ?_).symm;exact List.mem_flatMap.2 ⟨i,hi,hq⟩
 ·exact .inr rfl
def aiJ(live:anD Nat)(b:Nat)(s:St):anD (Nat×Nat×Nat×Nat):=(live.flatMap λi=>(aY s.t i).tR b)++s.h.flatMap (Ox b)
def ZW(live:anD Nat)(b:Nat)(ys:anD (anD D))(vs:anD (anD (anD AV)))(s:St):St:=⟨s.n,live.map (λi=>(i,(aY s.t i).mlt b ys)),(oV b ys s.h vs).set b .gone⟩
theorem JQ(live:anD Nat)(b:Nat){xs:anD (anD D)}(ys:anD (anD D))(L c e k:Nat)(vs:anD (VM b L k ys))(hL:xs.length=L)(hy:ys=xs)(iO:∀c∈xs,c.all D.zA=true)(K:GW P r N0 Q (Zm (ZW live b ys (vs.map VM.y)) w0))(hb:(wS w0).h[b]?=some (.vec e k (bG xs)):=by kernel_rfl)(ho:aiJ live b (wS w0)=List.replicate c (0,L,L,k):=by kernel_rfl)(hv:tu (wS w0).h=vs.map VM.x:=by kernel_rfl):GW P r N0 Q w0:=by
 subst hy;constructor
 unfold Fi;split
 ·next c K' s l=>
  have gN:=LZ hL ho;exact ads live b ys _ hb iO hL (λq hq=>gN q (List.mem_append_left _ hq)) (Sq hL s.h vs hv λq hq=>gN q (List.mem_append_right _ hq)) K.run
 ·trivial
theorem afI(k:Nat)(xs:anD (anD D))(hx:(aY (wS w0).t k).eY=some xs)(h:tG (.sl xs)->GW P r N0 Q w0):GW P r N0 Q w0:=by
 constructor
 unfold Fi;split
 ·next c K s l=>exact EE k xs hx λhl=>(h hl).run
 ·trivial
theorem YC(b i:Nat)(xs:anD (anD D))(hx:(((wS w0).h[b]?).bind λB=>match B with| .cells cs=>(cs[i]?).bind AV.eY|_=>none)=some xs)(h:tG (.sl xs)->GW P r N0 Q w0):GW P r N0 Q w0:=by
 constructor
 unfold Fi;split
 ·next c K s l=>exact afr b i xs hx λhl=>(h hl).run
 ·trivial
def Jf(b i e sz:Nat)(xs:anD (anD D))(s:St):St:=match s.h[b]? with
 |some (.cells cs)=>⟨s.n,s.t,(s.h++[ao.front e sz xs.length]).set b (ao.cells (cs.set i (AV.own s.h.length xs)))⟩
 |_=>s
def RC(xs:anD (anD D)):AV->Bool
 | .d (.v (.slice none 0 0))=>xs.isEmpty
 |_=>false
theorem akG{xs:anD (anD D)}{x:AV}(h:RC xs x=true):x= .d (.v (.slice none 0 0))/\xs=[]:=by
 unfold RC at h;split at h
 ·exact⟨rfl,List.isEmpty_iff.1 h⟩
 ·cases h
def Kw(b i:Nat)(s:St):AV:=match s.h[b]? with
 |some (.cells cs)=>(cs[i]?).getD .dead
 |_=> .dead
theorem RG{b i:Nat}{s:St}{x:AV}(h:Kw b i s=x)(hx:x≠ .dead):∃cs,s.h[b]?=some (.cells cs)/\cs[i]?=some x:=by
 unfold Kw at h;split at h
 ·next cs hb=>
  refine⟨cs,hb,?_⟩;cases hq:cs[i]? with
  |none=>rw[hq]at h;exact absurd h.symm hx
  |some y=>rw[hq]at h;rw[<-h];rfl
 ·exact absurd h.symm hx
theorem VL(b i e sz:Nat)(xs:anD (anD D))(hx:Kw b i (wS w0)= .full xs\/RC xs (Kw b i (wS w0))=true)(h:GW P r N0 Q (Zm (Jf b i e sz xs) w0)):GW P r N0 Q w0:=by
 constructor
 unfold Fi;split
 ·next c K s l=>
  have h':bj P r N0 c (gj P r N0 Q K) (Jf b i e sz xs s):=h.run;rcases hx with hx|hx
  ·obtain⟨cs,h1,h2⟩:=RG hx (λh=>by cases h);unfold Jf at h';rw[show s.h[b]?=some (.cells cs)from h1]at h';exact T7 b i e sz xs h1 (.inl h2) h'
  ·obtain⟨h3,rfl⟩:=akG hx;obtain⟨cs,h1,h2⟩:=RG h3 (λh=>by cases h);unfold Jf at h';rw[show s.h[b]?=some (.cells cs)from h1]at h';exact T7 b i e sz [] h1 (.inr ⟨h2,rfl⟩) h'
 ·trivial
end
theorem bc{α:Type}{c:Bool}{a b x:α}{G:Prop}(h:(bif c then a else b)=x)(t:c=true->a=x->G)(f:c=false->b=x->G):G:=by
 cases c with
 |true=>exact t rfl h
 |false=>exact f rfl h
theorem sj{α:Type}{a b:α}(h:some a=some b):a=b:=am6 h
theorem lN{α:Type}{c:Bool}{x:anF α}{r:α}(h:(bif c then x else none)=some r):c=true/\x=some r:=by
 cases c with
 |true=>exact⟨rfl,h⟩
 |false=>cases h
def yJ(fn:Func)(args:anD AV)(h:anD ao):WO:=some (.at (fn.body.getD .skip) [] {n:=args.length+(fn.ntmps-args.length),t:=lk 0 args,h:=h},[])
theorem ag3{P:anG}{f:FuncId}{fn:Func}{args:anD AV}{R:AV}(hf:P.funcs[f]?=some fn)(hb:fn.body.isSome=true)(hn:(fn.name== "runtime.NumGoroutine")=false)
 (hw:GW P none 0 (j9 P fn R) (yJ fn args [])):gn P f args (·=R):=by
 obtain⟨c,hc⟩:=Option.isSome_iff_exists.1 hb;refine Ar hf hc hn ?_;have:fn.body.getD .skip=c:=by rw[hc];rfl
 rw[<-this];exact hw.run
theorem aaQ{P:anG}{f:FuncId}{fn:Func}{args:anD AV}{h H:anD ao}{R:AV}(m:Nat)(hf:P.funcs[f]?=some fn)(hb:fn.body.isSome=true)(hn:(fn.name== "runtime.NumGoroutine")=false)(hm:h.length<=m)
 (hw:GW P none h.length (vo P fn m R H) (yJ fn args h)):cp P f args h λr1 h1=>r1=R/\h1=H:=by
 obtain⟨c,hc⟩:=Option.isSome_iff_exists.1 hb;refine zD m hf hc hn hm ?_;have:fn.body.getD .skip=c:=by rw[hc];rfl
 rw[<-this];exact hw.run
section aih
variable {P:anG}
def oL{α:Type}{f:anD α->anD (anD D)}(l:anD α)(h:(f l).length=l.length):Ob P:=⟨_,_, .len h⟩
def oE{xs:anD (anD D)}{k:Nat}{c:anD D}(h:xs[k]?=some c):Ob P:=⟨_,_, .el (xs:=xs) (i:=(k:Int)) (Int.natCast_nonneg _) h⟩
def oq{a b:AV}(h:a=b):Ob P:=⟨_,_, .eq h⟩
def os(ks:anD Nat)(o:Ob P)(l:anD (Nat×Ob P)):anD (Nat×Ob P):=ks.foldr (λk t=>(k,o)::t) l
noncomputable def soI(x:Nat×Ob P)(l:anD (Nat×Ob P)):anD (Nat×Ob P):=List.rec [x] (λy t r=>bif Nat.ble x.1 y.1 then x::y::t else y::r) l
noncomputable def so(l:anD (Nat×Ob P)):anD (Nat×Ob P):=l.foldr soI []
theorem Km{xs:anD (anD D)}{n:Nat}(e:xs.length=n)(h:tG (.sl xs)):n<=maxLen:=e▸Ht h
end aih
inductive eo(P:Program):TypeId->List D->Prop
 |bool {t:TypeId} (b:Bool) (h:P.underlying t=some .bool):eo P t [.v (.bool b)]
 |int {t:TypeId} {k:IntKind} (n:Int) (h:P.underlying t=some (.int k)) (w:(Lit.int k n).wf=true):eo P t [.v (.int k n)]
 |str {t:TypeId} (s:ByteArray) (h:P.underlying t=some .string) (w:s.size<=maxLen):eo P t [.v (.string s)]
 |sl {t e:TypeId} (xs:List (List D)) (h:P.underlying t=some (.slice e)) (w:xs.length<=140737488355328) (hx:∀x∈xs,eo P e x):eo P t [.sl xs]
 |struct {t:TypeId} {fs:Array Field} (parts:List (List D)) (h:P.underlying t=some (.struct fs)) (hl:parts.length=fs.size) (hx:∀(i:Nat)(f:Field)(x:List D),fs[i]?=some f->parts[i]?=some x->eo P f.type x):eo P t parts.flatten
section
variable {P:anG} {t:TypeId} {xs:anD D}
theorem eo.nV{k:IntKind}(h:eo P t xs)(ht:P.underlying t=some (.int k)):∃n,xs=[.v (.int k n)]/\k.min<=n/\n<=k.max:=by
 cases h with
 |bool b h=>rw[ht]at h;cases h
 |int n h w=>
  rw[ht]at h;cases h;unfold Lit.wf at w;simp only[amP,decide_eq_true_eq]at w;exact⟨n,rfl,w⟩
 |str s h=>rw[ht]at h;cases h
 |sl l h=>rw[ht]at h;cases h
 |struct p h=>rw[ht]at h;cases h
theorem eo.DY(h:eo P t xs)(ht:P.underlying t=some .string):∃s,xs=[.v (.string s)]/\s.size<=maxLen:=by
 cases h with
 |bool b h=>rw[ht]at h;cases h
 |int n h=>rw[ht]at h;cases h
 |str s h w=>exact⟨s,rfl,w⟩
 |sl l h=>rw[ht]at h;cases h
 |struct p h=>rw[ht]at h;cases h
theorem eo.ux{e:TypeId}(h:eo P t xs)(ht:P.underlying t=some (.slice e)):∃l,xs=[.sl l]/\l.length<=140737488355328/\∀x∈l,eo P e x:=by
 cases h with
 |bool b h=>rw[ht]at h;cases h
 |int n h=>rw[ht]at h;cases h
 |str s h=>rw[ht]at h;cases h
 |sl l h w hx=>rw[ht]at h;cases h;exact⟨l,rfl,w,hx⟩
 |struct p h=>rw[ht]at h;cases h
theorem eo.sC{fs:Array Field}(h:eo P t xs)(ht:P.underlying t=some (.struct fs)):∃parts:anD (anD D),xs=parts.flatten/\parts.length=fs.size/\∀(i:Nat)(f:Field)(x:anD D),fs[i]?=some f->parts[i]?=some x->eo P f.type x:=by
 cases h with
 |bool b h=>rw[ht]at h;cases h
 |int n h=>rw[ht]at h;cases h
 |str s h=>rw[ht]at h;cases h
 |sl l h=>rw[ht]at h;cases h
 |struct p h hl hx=>rw[ht]at h;cases h;exact⟨p,rfl,hl,hx⟩
theorem sY{α:Type}{f:α->anD D}{Q:α->Prop}:∀l:anD (anD D),(∀x∈l,∃a,x=f a/\Q a)->∃r:anD α,l=r.map f/\∀a∈r,Q a
 |[],_=>⟨[],rfl,λ_ h=>by cases h⟩
 |x::l,h=>by
  obtain⟨a,rfl,ha⟩:=h x amT;obtain⟨r,rfl,hr⟩:=sY l λy hy=>h y (amW _ hy);refine⟨a::r,rfl,λb hb=> ?_⟩;rcases ani.1 hb with rfl|hb
  ·exact ha
  ·exact hr b hb
end
def Ph(P:anG)(S:anD TypeId):Bool:=S.all λt=>match P.underlying t with
 |some .bool|some (.int _)|some .string=>true
 |some (.slice e)=>S.contains e&&(decide (0<P.cellsOf e)&&decide (0<P.bytesOf e))
 |some (.struct fs)=>P.consecB fs.toList 0 (P.cellsOf t)&&fs.toList.all λf=>S.contains f.type
 |_=>false
def je(S:Nat->Nat->Prop)(w:anI)(cs:anD anH)(xs:anD D):Prop:=xs.length=cs.length/\∀(i:Nat)(u:anH)(x:D),cs[i]?=some u->xs[i]?=some x->cX S w u x/\u.oneCell'=true
theorem je.nil{S:Nat->Nat->Prop}{w:anI}:je S w [] []:=⟨rfl,λi u x h=>by simp at h⟩
theorem je.one{S:Nat->Nat->Prop}{w:anI}{u:anH}{x:D}(h:cX S w u x)(h1:u.oneCell'=true):je S w [u] [x]:=⟨rfl,λi v y hv hy=>by
 cases i with
 |zero=>cases hv;cases hy;exact⟨h,h1⟩
 |succ i=>simp at hv⟩
theorem je.app{S:Nat->Nat->Prop}{w:anI}{a b:anD anH}{x y:anD D}(h:je S w a x)(k:je S w b y):je S w (a++b) (x++y):=by
 refine⟨by simp [h.1,k.1],λi u z hu hz=> ?_⟩;by_cases hi:i<a.length
 ·rw[amX hi]at hu;rw[amX (by rw[h.1];exact hi)]at hz;exact h.2 i u z hu hz
 ·rw[am3 (by omega)]at hu;rw[am3 (by rw[h.1];omega),h.1]at hz;exact k.2 _ u z hu hz
theorem UU{α:Type}{Q:Nat->α->Prop}:∀n:Nat,(∀i,i<n->∃x,Q i x)->∃l:anD α,l.length=n/\∀i x,l[i]?=some x->Q i x
 |0,_=>⟨[],rfl,λi x h=>by simp at h⟩
 |n+1,h=>by
  obtain⟨l,h1,h2⟩:=UU n λi hi=>h i (by omega);obtain⟨x,hx⟩:=h n (by omega);refine⟨l++[x],by simp [h1],λi y hy=> ?_⟩;by_cases hi:i<l.length
  ·rw[amX hi]at hy;exact h2 i y hy
  ·rw[am3 (by omega)]at hy;have:i-l.length=0:=by
     by_cases e:i-l.length=0
     ·exact e
     ·rw[ank (by simp;omega)]at hy;cases hy
   rw[this]at hy;cases hy;have:i=n:=by omega
   rw[this];exact hx
theorem Zw{a:Addr}(h:a.spot=none)(n:Nat):a.add n=⟨a.block,a.off+n,none⟩:=by
 unfold Addr.add;split
 ·next e=>subst e;cases a;simp only at h;subst h;rfl
 ·rfl
section
variable {H:Type} {enc:TypeId×anH->H} {P:anG} {W:anI} {Ts:anD TypeId}
abbrev qI(W:anI):Nat->Nat->Prop:=λb _=>b<W.heap.size
theorem aik{S:Nat->Nat->Prop}{w:anI}:cX S w (.slice none 0 0) (.sl []):=
 .sl none 0 0 0 0 [] (λ_ _=>undef) (λh=>absurd rfl h) (amY _) (by simp) (λ_ h=>by cases h) (λi j hi=>by simp at hi) (λi j x d hx=>by simp at hx)
theorem R4{e:TypeId}:∀{l:anD (DataW H)}{d:DataW H},d∈l->∀n∈d.weights P e,n∈DataW.weightsAll P e l
 |[],_,h,_,_=>by cases h
 |x::l,d,h,n,hn=>by
  simp only[DataW.weightsAll,anq];rcases ani.1 h with rfl|h
  ·exact .inl hn
  ·exact .inr (R4 h n hn)
theorem Te{fuel:Nat}(IH:∀(t:TypeId)(cs:anD anH)(d:DataW H)(ps:anD MemPlace),t∈Ts->(∀n∈d.weights P t,n<=reachBytes)->DataW.trod enc P W 0 (λ_=>true) true fuel t cs=some (d,ps)->∃xs,eo P t xs/\je (qI W) W cs xs)(cs:anD anH):
 ∀(fs:anD Field)(off:Nat)(ys:anD (DataW H×anD MemPlace)),P.consecB fs off cs.length=true->(∀f∈fs,f.type∈Ts)->(∀n∈DataW.weightsEach P (fs.map (·.type)) (ys.map (·.1)),n<=reachBytes)->
  fs.mapM (λf=>DataW.trod enc P W 0 (λ_=>true) true fuel f.type ((cs.drop f.offset).take (P.cellsOf f.type)))=some ys->
  ∃parts:anD (anD D),parts.length=fs.length/\(∀(i:Nat)(f:Field)(x:anD D),fs[i]?=some f->parts[i]?=some x->eo P f.type x)/\je (qI W) W (cs.drop off) parts.flatten
 |[],off,ys,hc,_,_,_=>by
  simp only[Program.consecB,beq_iff_eq]at hc;refine⟨[],rfl,λi f x h=>by simp at h,?_⟩;rw[List.drop_eq_nil_iff.2 (by omega)];exact je.nil
 |f::fs,off,ys,hc,hS,hw,hm=>by
  simp only[Program.consecB,amP,beq_iff_eq]at hc;obtain⟨abo,hc⟩:=hc;rw[List.mapM_cons]at hm;cases hx:DataW.trod enc P W 0 (λ_=>true) true fuel f.type ((cs.drop f.offset).take (P.cellsOf f.type))with
  |none=>simp [hx]at hm
  |some p=>
   cases k9:fs.mapM (λf=>DataW.trod enc P W 0 (λ_=>true) true fuel f.type ((cs.drop f.offset).take (P.cellsOf f.type)))with
   |none=>simp [hx,k9]at hm
   |some ps=>
    obtain⟨d,q⟩:=p;obtain rfl:(d,q)::ps=ys:=by simpa [hx,k9]using hm
    simp only[anc,DataW.weightsEach,anq]at hw;obtain⟨x,h1,h2⟩:=IH f.type _ d q (hS f amT) (λn hn=>hw n (.inl hn)) hx;obtain⟨parts,k1,k2,k3⟩:=Te IH cs fs (off+P.cellsOf f.type) ps hc (λg hg=>hS g (amW _ hg)) (λn hn=>hw n (.inr hn)) k9;refine⟨x::parts,by simp [k1],λi g y hg hy=> ?_,?_⟩
    ·cases i with
     |zero=>cases hg;cases hy;exact h1
     |succ i=>exact k2 i g y (by simpa using hg) (by simpa using hy)
    ·rw[List.flatten_cons];rw[abo]at h2;have:=h2.app k3
     rwa [take_drop_step]at this
theorem TO(hT:Ph P Ts=true):∀(fuel:Nat)(t:TypeId)(cs:anD anH)(d:DataW H)(ps:anD MemPlace),t∈Ts->(∀n∈d.weights P t,n<=reachBytes)->DataW.trod enc P W 0 (λ_=>true) true fuel t cs=some (d,ps)->∃xs,eo P t xs/\je (qI W) W cs xs
 |0,t,cs,d,ps,_,_,h=>by simp [DataW.trod]at h
 |fuel+1,t,cs,d,ps,ht,rI,h=>by
  have IH:=TO hT fuel;have mq:=ane.1 hT t ht;unfold DataW.trod at h;split at h
  ·next b e=>exact⟨_, .bool b e,je.one (.v _) rfl⟩
  ·next k k' n e=>
   split at h
   ·next hk=>obtain⟨rfl,hw⟩:=hk;exact⟨_, .int n e hw,je.one (.v _) rfl⟩
   ·cases h
  ·next e=>rw[e]at mq;cases mq
  ·next s e=>
   split at h
   ·next hw=>exact⟨_, .str s e hw,je.one (.v _) rfl⟩
   ·cases h
  ·next e=>rw[e]at mq;cases mq
  ·next e=>rw[e]at mq;cases mq
  ·next e e1=>exact⟨_, .sl [] e1 (Nat.zero_le _) (λx hx=>absurd hx anu),je.one aik rfl⟩
  ·next e a len cap e1=>
   rw[e1]at mq;simp only[amP,List.contains_iff_mem,decide_eq_true_eq]at mq;obtain⟨hme,Pz,pH⟩:=mq;simp only at h;split at h
   ·next hb=>
    obtain⟨_,kQ,vR⟩:=hb;rw[Option.bind_eq_some_iff]at h;obtain⟨elems,ET,zl⟩:=h;rw[Option.map_eq_some_iff]at zl;obtain⟨rest,_,zl⟩:=zl;cases zl
    simp only[DataW.weights,e1,ani,anq,amS]at rI;have hlen:elems.length=len:=by simpa using mapM_some_length ET
    have hQ:∀i,i<len->∃x:anD D,eo P e x/\∃bV,W.cells? 0 (a.add (i*P.cellsOf e)) (P.cellsOf e)=some bV/\je (qI W) W bV x:=λi hi=>by
     have h1:=mapM_some_get ET i i (by simp [hi]);rw[amR (by omega)]at h1;rw[Option.bind_eq_some_iff]at h1;obtain⟨bV,h2,h3⟩:=h1;obtain⟨x,h4,h5⟩:=IH e bV elems[i].1 elems[i].2 hme (λn hn=>rI n (.inr (.inl (R4 (List.mem_map.2 ⟨_,List.getElem_mem _,rfl⟩) n hn)))) h3;exact⟨x,h4,bV,h2,h5⟩
    obtain⟨xs,wF,Us⟩:=UU len hQ;have Ua:xs≠ []->a.spot=none:=λck=>by
     have h0:0<len:=by cases xs with|nil=>exact(ck rfl).elim|cons x l=>simp at wF;omega
     obtain⟨x,_,bV,h2,_⟩:=hQ 0 h0;obtain⟨_,h3,h4⟩:=World.cells?_some h2;have h5:=h4 0 Pz;rw[Nat.zero_mul]at h5;have e0:(a.add 0).add 0=a:=by simp [Addr.add]
     rw[e0,amR (by omega)]at h5;unfold World.cell? at h5;split at h5
     ·split at h5
      ·cases h5
      ·next hn=>simpa using hn
     ·cases h5
    have ie:∀i x,xs[i]?=some x->x.length=P.cellsOf e/\∀j,j<P.cellsOf e->∃u,W.cell? ⟨a.block,a.off+i*P.cellsOf e+j,none⟩=some u/\u.oneCell'=true/\∀d,x[j]?=some d->cX (qI W) W u d:=λi x hx=>by
     obtain⟨_,bV,h2,h3⟩:=Us i x hx;obtain⟨_,h4,h5⟩:=World.cells?_some h2;have hs:=Ua (λe=>by rw[e]at hx;simp at hx);refine⟨h3.1.trans h4,λj hj=> ?_⟩;have h6:=h5 j hj;rw[Zw hs,Zw rfl,amR (by omega)]at h6;have hjx:j<x.length:=by rw[h3.1,h4];exact hj
     have hd:x[j]?=some x[j]:=amR hjx;have h7:=h3.2 j _ _ (amR (by omega)) hd;exact⟨_,h6,h7.2,λd jB=>by rw[hd]at jB;cases jB;exact h7.1⟩
    have akw:xs.length<=140737488355328:=by
     have h1:=rI _ (.inl rfl);have h2:(elems.length+rest.length)*1<=(elems.length+rest.length)*P.bytesOf e:=Nat.mul_le_mul_left _ pH;have h3:reachBytes<=140737488355328:=by decide
     omega
    refine⟨[.sl xs], .sl xs e1 akw (λx hx=> ?_),je.one ?_ rfl⟩
    ·obtain⟨i,hi,rfl⟩:=List.mem_iff_getElem.1 hx;exact(Us i _ (amR hi)).1
    ·rw[<-wF];refine .sl (some a) a.block a.off cap (P.cellsOf e) xs (λi j=>(W.cell? ⟨a.block,a.off+i*P.cellsOf e+j,none⟩).getD undef) (λck=> ?_) (by omega) vR (λx hx=> ?_) (λi j hi hj=> ?_) λi j x d hx hd=> ?_
     ·have:=Ua ck;cases a;simp only at this;subst this;rfl
     ·obtain⟨i,hi,rfl⟩:=List.mem_iff_getElem.1 hx;exact(ie i _ (amR hi)).1
     ·obtain⟨u,h1,h2,_⟩:=(ie i _ (amR hi)).2 j hj;refine⟨World.block_lt_of_cell? W ⟨a.block,a.off+i*P.cellsOf e+j,none⟩ h1,?_,?_⟩
      ·rw[h1];rfl
      ·rw[h1];exact h2
     ·obtain⟨hl,hc⟩:=ie i x hx;obtain⟨u,h1,_,h3⟩:=hc j (by rw[<-hl];exact(amN.1 hd).1);simp only[h1,Option.getD_some];exact h3 d hd
   ·cases h
  ·next bV fs e1=>
   rw[e1]at mq;simp only[amP,ane,List.contains_iff_mem]at mq;split at h
   ·next hl=>
    rw[Option.map_eq_some_iff]at h;obtain⟨ys,hm,zl⟩:=h;cases zl
    simp only[DataW.weights,e1]at rI;obtain⟨parts,k1,k2,k3⟩:=Te IH _ fs.toList 0 ys (by rw[hl];exact mq.1) mq.2 rI hm;exact⟨_, .struct parts e1 (by simpa using k1) (λi f x hf=>k2 i f x (by simpa using hf)),by simpa using k3⟩
   ·cases h
  all_goals first|(cases h;done)|(exfalso;revert mq;(next e=>rw[e];intro h0;cases h0))
theorem Qv{t:TypeId}{v:anH}{d:DataW H}{ps:anD MemPlace}(hT:Ph P Ts=true)(hm:t∈Ts)(hw:∀n∈d.weights P t,n<=reachBytes)(h:DataW.Trod enc P W 0 (λ_=>true) true t v d ps):∃xs,eo P t xs/\je (qI W) W v.cells.toList xs:=
 let ⟨fuel,h⟩:=h
 TO hT fuel t _ d ps hm hw h
theorem amn{t:TypeId}{fs:Array Field}{v:anH}{r:Reach}{base:Nat}(ht:P.underlying t=some (.struct fs))(h:Value.okWide P W r base t v):∃cs,v= .agg cs:=by
 unfold Value.okWide at h;rw[ht]at h;obtain⟨cs,rfl,_⟩:=h;exact⟨cs,rfl⟩
theorem aj0{G:Gh}(hS:G.S=qI W){cs:Array anH}{xs:anD D}(h:je (qI W) W cs.toList xs):aE G W (.agg cs) (.agg (xs.map .d)):=by
 refine .agg cs _ (by rw[amS,h.1,anl]) λi u c hu hc=> ?_;rw[amU]at hc;cases hx:xs[i]? with
 |none=>rw[hx]at hc;cases hc
 |some x=>
  rw[hx]at hc;cases hc
  exact .d (hS▸(h.2 i u x (by rw[ana];exact hu) hx).1)
theorem UK{G:Gh}(hS:G.S=qI W){v:anH}{x:D}(h:je (qI W) W #[v].toList [x]):aE G W v (.d x):= .d (hS▸(h.2 0 v x rfl rfl).1)
end
end Go.Proofs.YtfdhojiehjfghaaGreatDoor
