/-
  Part 4 of the proof: AbsWk, OpenD.
-/
import Derived.Test.YtnnapanbbbcalaaGreatDoorPr3
import Derived.ProofKit
import Derived.DataOpen
import Derived.SizedLaws
namespace Go.Proofs.YtnnapanbbbcalaaGreatDoor
open Go.RowKit
set_option linter.unusedSimpArgs false
set_option linter.unusedVariables false
def Jb{α:Type}(x:AV)(k:AV->α):α:=
 match x with
 | .d y=>k (.d y)
 | .agg cs=>k (.agg cs)
 | .aW cs=>k (.aW cs)
 | .ptr n o=>fN n λn=>fN o λo=>k (.ptr n o)
 | .own n xs=>fN n λn=>k (.own n xs)
 | .fn f cs=>k (.fn f cs)
 | .mp n=>fN n λn=>k (.mp n)
 |x=>k x
theorem Xn{α:Type}(x:AV)(k:AV->α):Jb x k=k x:=by cases x<;>simp [Jb,xp]
def fT{α:Type}:ak4 (Nat×AV)->(ak4 (Nat×AV)->α)->α
 |[],k=>k []
 |(d,x)::l,k=>fN d λd=>Jb x λx=>fT l λl=>k ((d,x)::l)
theorem QG{α:Type}:∀(l:ak4 (Nat×AV))(k:ak4 (Nat×AV)->α),fT l k=k l
 |[],k=>rfl
 |(d,x)::l,k=>by rw[fT,xp,Xn,QG l]
def fC{α:Type}:ak4 AV->(ak4 AV->α)->α
 |[],k=>k []
 |x::l,k=>Jb x λx=>fC l λl=>k (x::l)
theorem W8{α:Type}:∀(l:ak4 AV)(k:ak4 AV->α),fC l k=k l
 |[],k=>rfl
 |x::l,k=>by rw[fC,Xn,W8 l]
def fH{α:Type}:ak4 ao->(ak4 ao->α)->α
 |[],k=>k []
 | .cells cs::l,k=>fC cs λcs=>fH l λl=>k (.cells cs::l)
 | .front e z n::l,k=>fH l λl=>k (.front e z n::l)
 | .map kv::l,k=>fH l λl=>k (.map kv::l)
 | .gone::l,k=>fH l λl=>k (.gone::l)
 |B::l,k=>fH l λl=>k (B::l)
theorem oJ{α:Type}:∀(l:ak4 ao)(k:ak4 ao->α),fH l k=k l
 |[],k=>rfl
 | .cells cs::l,k=>by rw[fH,W8,oJ l]
 | .front e z n::l,k=>by rw[fH,oJ l]
 | .map kv::l,k=>by rw[fH,oJ l]
 | .gone::l,k=>by rw[fH,oJ l]
 | .ie .. ::l,k=>by rw[fH,oJ l]<;>simp
 | .vec .. ::l,k=>by rw[fH,oJ l]<;>simp
 | .lp .. ::l,k=>by rw[fH,oJ l]<;>simp
 | .it .. ::l,k=>by rw[fH,oJ l]<;>simp
 | .eO .. ::l,k=>by rw[fH,oJ l]<;>simp
 | .byt .. ::l,k=>by rw[fH,oJ l]<;>simp
def K4{α:Type}(s:St)(k:St->α):α:=fN s.n λn=>fT s.t λt=>fH s.h λh=>k ⟨n,t,h⟩
theorem agj{α:Type}(s:St)(k:St->α):K4 s k=k s:=by unfold K4;rw[xp,QG,oJ]
inductive Fr
 |S (y:Code)
 |B (id:Nat)
 |F (k:Nat) (f:St->Prop)
def gY(P:ak7)(r:ak6 Nat)(N0:Nat)(Q:Exit->St->Prop):ak4 Fr->Exit->St->Prop
 |[]=>Q
 | .S y::K=>hO (λs=>bD P r N0 y (gY P r N0 Q K) s) (gY P r N0 Q K)
 | .B id::K=>po id (gY P r N0 Q K)
 | .F _ f::K=>hO f (gY P r N0 Q K)
inductive Md
 |c (c:Code)
 |n
 |x (id:Nat)
inductive WR
 |at (c:Code) (K:List Fr) (s:St)
 |ret (s:St)
 |nrm (s:St)
 |fin (k:Nat) (s:St)
abbrev WO:=ak6 (WR×ak4 (In×cb))
def It(l:ak4 (In×cb)):WO->WO
 |some (w,m)=>some (w,l++m)
 |none=>none
def l6(P:ak7):Nat->Md->ak4 Fr->ak4 (ak4 (Nat×cb))->St->WO
 |0,_,_,_,_=>none
 |F+1,m,K,A,s=>match m with
  | .n=>match K with
    |[]=>some (.nrm s,[])
    | .S y::K=>l6 P F (.c y) K A s
    | .B _::K=>l6 P F .n K A s
    | .F k _::_=>some (.fin k s,[])
  | .x id=>match K with
    |[]=>none
    | .S _::K=>l6 P F (.x id) K A s
    | .B pL::K=>l6 P F (bif id==pL then .n else .x id) K A s
    | .F _ _::K=>l6 P F (.x id) K A s
  | .c c=>match c with
    | .seq a b=>l6 P F (.c a) (.S b::K) A s
    | .block id b=>l6 P F (.c b) (.B id::K) A s
    | .skip=>l6 P F .n K A s
    | .ret=>some (.ret s,[])
    | .exit id=>l6 P F (.x id) K A s
    | .region id ops dr=>match A with
      |[]=>some (.at (.region id ops dr) K s,[])
      |as::A=>bif !dr||qk ops then match nW P ops dr ops.toList 0 as s with
         |some (s1,l)=>K4 s1 λs1=>It l (l6 P F .n K A s1)
         |none=>none
       else none
    | .cond o x y=>match A with
      |[]=>some (.at (.cond o x y) K s,[])
      |as::A=>match iy as 0 with
       | .bit b=>It [(.bit (ev s o), .bit b)] (l6 P F (.c (bif b then x else y)) K A s)
       |_=>none
    |c=>match A with
     |[]=>some (.at c K s,[])
     |_=>none
section
variable {P:ak7} {r:ak6 Nat} {N0:Nat} {Q:Exit->St->Prop}
theorem IG:∀(K:ak4 Fr)(s:St),Q .ret s->gY P r N0 Q K .ret s
 |[],_,h=>h
 | .S _::K,s,h=>IG K s h
 | .B _::K,s,h=>IG K s h
 | .F _ _::K,s,h=>IG K s h
def ajS(P:ak7)(r:ak6 Nat)(N0:Nat)(Q:Exit->St->Prop)(m:Md)(K:ak4 Fr)(s:St):Prop:=
 match m with
 | .c c=>bD P r N0 c (gY P r N0 Q K) s
 | .n=>gY P r N0 Q K .normal s
 | .x id=>gY P r N0 Q K (.exit id) s
def Dr(P:ak7)(r:ak6 Nat)(N0:Nat)(Q:Exit->St->Prop)(K0:ak4 Fr):WR->Prop
 | .at c K s=>bD P r N0 c (gY P r N0 Q K) s
 | .ret s=>Q .ret s
 | .nrm s=>Q .normal s
 | .fin k s=>∀f,Fr.F k f∈K0->f s
theorem Dr.sub{K K':ak4 Fr}(h:∀k f,Fr.F k f∈K'->Fr.F k f∈K):∀{w:WR},Dr P r N0 Q K w->Dr P r N0 Q K' w
 | .at _ _ _,hp=>hp
 | .ret _,hp=>hp
 | .nrm _,hp=>hp
 | .fin k _,hp=>λf hf=>hp f (h k f hf)
theorem Ps{l m:ak4 (In×cb)}{x:WO}{w:WR}(h:It l x=some (w,m))(ca:fY P m):∃n,x=some (w,n)/\fY P n/\fY P l:=by
 unfold It at h;split at h
 ·next w' n=>
  cases h
  exact⟨n,rfl,λp hp=>ca p (List.mem_append_right _ hp),λp hp=>ca p (List.mem_append_left _ hp)⟩
 ·cases h
theorem R1(hm:P.follows .mixedOrders=true):∀(F:Nat)(m:Md)(K:ak4 Fr)(A:ak4 (ak4 (Nat×cb)))(s:St)(w:WR)(l:ak4 (In×cb)),l6 P F m K A s=some (w,l)->fY P l->Dr P r N0 Q K w->ajS P r N0 Q m K s
 |0,_,_,_,_,_,_,h,_,_=>by simp [l6]at h
 |F+1,m,K,A,s,w,l,h,ca,hp=>by
  have ih:=R1 hm F;have tl:∀{x:Fr}{K:ak4 Fr},∀k f,Fr.F k f∈K->Fr.F k f∈x::K:=λ_ _ h=>akp _ h;have pS:∀{y:Code}{K:ak4 Fr},∀k f,Fr.F k f∈Fr.S y::K->Fr.F k f∈K:=λk f h=>by
   rcases akK.1 h with h|h
   ·cases h
   ·exact h
  have pB:∀{y:Nat}{K:ak4 Fr},∀k f,Fr.F k f∈Fr.B y::K->Fr.F k f∈K:=λk f h=>by
   rcases akK.1 h with h|h
   ·cases h
   ·exact h
  unfold l6 at h;cases m with
  |n=>
   cases K with
   |nil=>cases h;exact hp
   |cons x K=>
    cases x with
    |S y=>exact ih (.c y) K _ _ _ _ h ca (hp.sub tl)
    |B id=>exact ih .n K _ _ _ _ h ca (hp.sub tl)
    |F k f=>cases h;exact hp _ akm
  |x id=>
   cases K with
   |nil=>cases h
   |cons x K=>
    cases x with
    |S y=>exact ih (.x id) K _ _ _ _ h ca (hp.sub tl)
    |B pL=>
     show(bif id==pL then gY P r N0 Q K .normal s else gY P r N0 Q K (.exit id) s);simp only at h;cases e:id==pL with
     |true=>rw[e]at h;exact ih .n K _ _ _ _ h ca (hp.sub tl)
     |false=>rw[e]at h;exact ih (.x id) K _ _ _ _ h ca (hp.sub tl)
    |F k f=>exact ih (.x id) K _ _ _ _ h ca (hp.sub tl)
  |c c=>
   simp only at h;split at h
   ·exact ar (ih (.c _) (.S _::K) _ _ _ _ h ca (hp.sub pS))
   ·exact dt (ih (.c _) (.B _::K) _ _ _ _ h ca (hp.sub pB))
   ·exact cx (ih .n _ _ _ _ _ h ca hp)
   ·cases h;exact cV (IG K s hp)
   ·exact kR (ih (.x _) _ _ _ _ _ h ca hp)
   ·next id ops dr=>
    split at h
    ·cases h;exact hp
    ·next as A=>
     obtain⟨hb,h⟩:=j7 h;split at h
     ·next s1 l1 e=>
      rw[agj]at h;obtain⟨n,e2,h2,h3⟩:=Ps h ca;have hk:=ih .n _ _ _ _ _ e2 h2 hp;have dO:=uo (P:=P) (ops:=ops) (dr:=dr) (K:=gY P r N0 Q K .normal) ops.toList 0 s l1 e h3 hk;cases dr with
      |false=>exact e7 dO
      |true=>
       have hl:qk ops.toList.toArray=true:=by simpa using hb
       have:=HS (P:=P) (r:=r) (N0:=N0) (Q:=gY P r N0 Q K) (s:=s) (id:=id) (l:=ops.toList) hm hl (by simpa using dO);show bD P r N0 (.region id ops true) (gY P r N0 Q K) s
       simpa using this
     ·cases h
   ·next o x y=>
    split at h
    ·cases h;exact hp
    ·next as A=>
     split at h
     ·next b e=>
      obtain⟨n,e2,h2,h3⟩:=Ps h ca;have h4:=OK.FB (h3 (_,_) akm);have hk:=ih (.c _) _ _ _ _ _ e2 h2 hp;exact Ln h4 (λe=>by subst e;exact hk) (λe=>by subst e;exact hk)
     ·cases h
   ·split at h
    ·cases h;exact hp
    ·cases h
end
def wK:WO->ak4 Fr
 |some (.at _ K _,_)=>K
 |_=>[]
def wS:WO->St
 |some (.at _ _ s,_)=>s
 |_=>⟨0,[],[]⟩
def j8(k:Nat):ak4 Fr->ak4 (St->Prop)
 |[]=>[]
 | .F k' f::K=>bif k'==k then f::j8 k K else j8 k K
 |_::K=>j8 k K
theorem Cr{k:Nat}{f:St->Prop}:∀{K:ak4 Fr},Fr.F k f∈K->f∈j8 k K
 |[],h=>by cases h
 | .S _::K,h=>by
   rcases akK.1 h with h|h
   ·cases h
   ·exact Cr (K:=K) h
 | .B _::K,h=>by
   rcases akK.1 h with h|h
   ·cases h
   ·exact Cr (K:=K) h
 | .F k' g::K,h=>by
   rcases akK.1 h with h|h
   ·cases h;simp [j8]
   ·unfold j8;cases k'==k with
    |true=>exact akp _ (Cr h)
    |false=>exact Cr h
def ri:WO->ak6 (ak4 (In×cb))
 |some (.at _ _ _,l)=>some l
 |_=>none
def lf(live:ak4 Nat)(m:Nat):WO->ak6 (St×ak4 (In×cb))
 |some (.at (.loop _) _ s,l)=>(jE s live m).map (·,l)
 |_=>none
def JL(live:ak4 Nat)(m:Nat)(ks:ak4 Nat)(kn:ak4 (Nat×Nat)):WO->ak6 (St×ak4 (In×cb))
 |some (.at (.loop _) _ s,l)=>(lQ s live m ks kn).map (·,l)
 |_=>none
def Ba:WO->ak6 (ak4 (In×cb))
 |some (.at _ (.S _::_) _,l)=>some l
 |_=>none
def pf(k:Nat)(live:ak4 Nat)(m:Nat):WO->ak6 (St×ak4 (In×cb))
 |some (.fin k' s,l)=>bif k'==k then(jE s live m).map (·,l)else none
 |_=>none
def JS(k:Nat)(live:ak4 Nat)(m:Nat)(ks:ak4 Nat)(kn:ak4 (Nat×Nat)):WO->ak6 (St×ak4 (In×cb))
 |some (.fin k' s,l)=>bif k'==k then(lQ s live m ks kn).map (·,l)else none
 |_=>none
def qx(P:ak7)(rs:ak4 ResultVar):WO->ak6 (AV×ak4 (In×cb))
 |some (.ret s,l)=>(wF P rs s).map (·,l)
 |some (.nrm s,l)=>(wF P rs s).map (·,l)
 |_=>none
def Eb(P:ak7)(rs:ak4 ResultVar)(m:Nat):WO->ak6 ((AV×ak4 ao)×ak4 (In×cb))
 |some (.ret s,l)=>(vu P rs m s).map (·,l)
 |some (.nrm s,l)=>(vu P rs m s).map (·,l)
 |_=>none
def yG:ak4 Fr->ak6 (Code×ak4 Fr)
 | .S y::K=>some (y,K)
 | .B _::K=>yG K
 |_=>none
def Et(P:ak7)(keep:ak4 Nat)(as:ak4 (Nat×cb)):WO->ak6 (ak4 (Nat×AV)×ak4 ao×ak4 (In×cb))
 |some (.at (.region _ ops dr) K s,_)=>bif (!dr||qk ops)&&(yG K).isSome then qc P dr ops.toList as keep s else none
 |_=>none
def hY(k:Nat)(f:St->Prop)(s:St):WO->WO
 |some (.at (.loop b) K _,_)=>some (.at b (.F k f::K) s,[])
 |_=>none
def GX(k:Nat)(f:St->Prop):WO->WO
 |some (.at c (.S _::K) s,_)=>some (.at c (.F k f::K) s,[])
 |_=>none
def FF(s:St):WO->WO
 |some (.at _ (.S y::K) _,_)=>some (.at y K s,[])
 |_=>none
def s9(Δ:ak4 (Nat×AV))(h':ak4 ao):WO->WO
 |some (.at _ K s,_)=>match yG K with
  |some (y,K')=>some (.at y K' ⟨s.n,Δ++s.t,h'⟩,[])
  |none=>none
 |_=>none
def VR(f:St->St):WO->WO
 |some (.at c K s,l)=>some (.at c K (f s),l)
 |_=>none
def Tu:Nat:=4000
def wk(P:ak7)(w:WO)(az:ak4 (ak4 (Nat×Ob P))):WO:=
 match w with
 |some (.at c K s,_)=>l6 P Tu (.c c) K (az.map iA) s
 |_=>none
def ep{P:ak7}(az:ak4 (ak4 (Nat×Ob P))):ak4 (In×cb):=az.flatMap iN
theorem ai4{P:ak7}(az:ak4 (ak4 (Nat×Ob P))):fY P (ep az):=λp hp=>by
 obtain⟨l,_,h⟩:=List.mem_flatMap.1 hp;exact oS l p h
theorem qu{α β:Type}{x:ak6 α}{l:β}{y:α}{m:β}(h:x.map (·,l)=some (y,m)):x=some y/\l=m:=by
 cases x with
 |none=>cases h
 |some z=>cases h;exact⟨rfl,rfl⟩
def Di(P:ak7)(r:ak6 Nat)(N0:Nat)(Q:Exit->St->Prop):WO->Prop
 |some (.at c K s,_)=>bD P r N0 c (gY P r N0 Q K) s
 |_=>True
structure GW(P:Program)(r:Option Nat)(N0:Nat)(Q:Exit->St->Prop)(w:WO):Prop where
 run:Di P r N0 Q w
section
variable {P:ak7} {r:ak6 Nat} {N0:Nat} {Q:Exit->St->Prop} {w0:WO}
theorem nh{az:ak4 (ak4 (Nat×Ob P))}(hm:P.follows .mixedOrders=true){w:WR}(e:wk P w0 az=some (w,ep az))(hp:∀K,(∀k f,Fr.F k f∈K->Fr.F k f∈wK w0)->Dr P r N0 Q K w):GW P r N0 Q w0:=by
 constructor
 unfold wk at e;split at e
 ·next c K s l=>exact R1 hm Tu (.c c) K _ s w _ e (ai4 az) (hp K λk f h=>h)
 ·cases e
theorem gp(hm:P.follows .mixedOrders=true)(az:ak4 (ak4 (Nat×Ob P)))(k:GW P r N0 Q (wk P w0 az))(e:ri (wk P w0 az)=some (ep az):=by kernel_rfl):GW P r N0 Q w0:=by
 generalize hw:wk P w0 az=w at e k;unfold ri at e;split at e
 ·cases e;exact nh hm hw λK _=>k.run
 ·cases e
theorem agH(hm:P.follows .mixedOrders=true){fn:Func}{R:AV}(az:ak4 (ak4 (Nat×Ob P)))(e:qx P fn.results.toList (wk P w0 az)=some (R,ep az)):GW P r N0 (kA P fn R) w0:=by
 generalize hw:wk P w0 az=w at e;unfold qx at e;split at e
 ·obtain⟨e1,rfl⟩:=qu e;exact nh hm hw λK _=>e1
 ·obtain⟨e1,rfl⟩:=qu e;exact nh hm hw λK _=>e1
 ·cases e
theorem aje(hm:P.follows .mixedOrders=true){fn:Func}{m:Nat}{R:AV}{H:ak4 ao}(az:ak4 (ak4 (Nat×Ob P)))(e:Eb P fn.results.toList m (wk P w0 az)=some ((R,H),ep az)):GW P r N0 (tB P fn m R H) w0:=by
 generalize hw:wk P w0 az=w at e;unfold Eb at e;split at e
 ·obtain⟨e1,rfl⟩:=qu e;exact nh hm hw λK _=>e1
 ·obtain⟨e1,rfl⟩:=qu e;exact nh hm hw λK _=>e1
 ·cases e
theorem wr(hm:P.follows .mixedOrders=true){fn:Func}{R:AV}(az:ak4 (ak4 (Nat×Ob P)))(e:qx P fn.results.toList (wk P w0 az)=some (R,ep az):=by kernel_rfl):GW P r N0 (kA P fn R) w0:=agH hm az e
theorem l8(hm:P.follows .mixedOrders=true){fn:Func}{m:Nat}{R:AV}{H:ak4 ao}(az:ak4 (ak4 (Nat×Ob P)))(e:Eb P fn.results.toList m (wk P w0 az)=some ((R,H),ep az):=by kernel_rfl):GW P r N0 (tB P fn m R H) w0:=aje hm az e
structure FP{ι:Type}(k:Nat)(live:List Nat)(m:Nat)(st:ι->St)(I:ι->Prop)(μ:ι->Nat)(i0:ι)(f:St->Prop):Prop where
 h:∀s' i',jE s' live m=some (st i')->I i'->μ i'<μ i0->f s'
structure Mc{ι:Type}(k:Nat)(live:List Nat)(m:Nat)(ks:List Nat)(kn:List (Nat×Nat))(st:ι->St)(I:ι->Prop)(μ:ι->Nat)(i0:ι)(f:St->Prop):Prop where
 h:∀s' i',iI m (s'.h.take m)->lQ s' live m ks kn=some (st i')->I i'->μ i'<μ i0->f s'
structure zT{ι:Type}(k:Nat)(live:List Nat)(m:Nat)(st:ι->St)(I:ι->Prop)(f:St->Prop):Prop where
 h:∀s' i',jE s' live m=some (st i')->I i'->f s'
theorem KD(hm:P.follows .mixedOrders=true){k:Nat}{s1:St}{f:St->Prop}(az:ak4 (ak4 (Nat×Ob P)))(e1:j8 k (wK w0)=[f])(e:wk P w0 az=some (.fin k s1,ep az))(hf:f s1):GW P r N0 Q w0:=
 nh hm e λK hK g hg=>by
  have:=Cr (hK k g hg);rw[e1,List.mem_singleton]at this;subst this;exact hf
theorem CO(hm:P.follows .mixedOrders=true){ι:Type}{live:ak4 Nat}{m k:Nat}{st:ι->St}{I:ι->Prop}{μ:ι->Nat}{i0:ι}{f:St->Prop}(hf:FP k live m st I μ i0 f)(i:ι)(az:ak4 (ak4 (Nat×Ob P)))(hI:I i)(hμ:μ i<μ i0:=by exact ak2 _)(e1:j8 k (wK w0)=[f]:=by kernel_rfl)(e:pf k live m (wk P w0 az)=some (st i,ep az):=by kernel_rfl):GW P r N0 Q w0:=by
 generalize hw:wk P w0 az=w at e;unfold pf at e;split at e
 ·next k' s' l=>
  obtain⟨hb,e⟩:=j7 e;obtain⟨e2,rfl⟩:=qu e;rw[beq_iff_eq]at hb;subst hb;exact KD hm az e1 hw (hf.h _ i e2 hI hμ)
 ·cases e
def sO:ak4 ao->ak4 (ak4 (ak4 AV))
 |[]=>[]
 | .vec _ _ cs::l=>cs::sO l
 |_::l=>sO l
structure VE(m:Nat) where
 x:List (List AV)
 ok:∀e k,(ao.vec e k x).zk m
def VE.IS{m:Nat}(xs:ak4 (ak4 D)):VE m:=⟨ck xs,λ_ _=>(kS (m:=m) (l:=[]) jr).1⟩
theorem I8{m:Nat}:∀(l:ak4 ao)(kx:ak4 (VE m)),sO l=kx.map VE.x->iI m l
 |[],_,_=>jr
 |B::l,kx,h=>by
  cases B with
  |vec e k cs=>
   cases kx with
   |nil=>cases h
   |cons v vs=>
    have J:cs=v.x:=(List.cons.inj h).1;subst J;exact⟨v.ok e k,I8 l vs (List.cons.inj h).2⟩
  |_=>exact⟨trivial,I8 l kx h⟩
def EC(m:Nat):WO->ak4 (ak4 (ak4 AV))
 |some (.fin _ s,_)=>sO (s.h.take m)
 |some (.at _ _ s,_)=>sO (s.h.take m)
 |_=>[]
theorem ab1(hm:P.follows .mixedOrders=true){ι:Type}{live:ak4 Nat}{m k:Nat}{ks:ak4 Nat}{kn:ak4 (Nat×Nat)}{st:ι->St}{I:ι->Prop}{μ:ι->Nat}{i0:ι}{f:St->Prop}(hf:Mc k live m ks kn st I μ i0 f)(i:ι)(az:ak4 (ak4 (Nat×Ob P)))(hI:I i)(hμ:μ i<μ i0:=by exact ak2 _)(e1:j8 k (wK w0)=[f]:=by kernel_rfl)(kx:ak4 (VE m):=[])(e0:EC m (wk P w0 az)=kx.map VE.x:=by kernel_rfl)(e:JS k live m ks kn (wk P w0 az)=some (st i,ep az):=by kernel_rfl):GW P r N0 Q w0:=by
 generalize hw:wk P w0 az=w at e e0;unfold JS at e;split at e
 ·next k' s' l=>
  obtain⟨hb,e⟩:=j7 e;obtain⟨e2,rfl⟩:=qu e;rw[beq_iff_eq]at hb;subst hb;exact KD hm az e1 hw (hf.h _ i (I8 _ kx e0) e2 hI hμ)
 ·cases e
theorem kM(hm:P.follows .mixedOrders=true){ι:Type}{live:ak4 Nat}{m k:Nat}{st:ι->St}{I:ι->Prop}{f:St->Prop}(hf:zT k live m st I f)(i:ι)(az:ak4 (ak4 (Nat×Ob P)))(hI:I i)(e1:j8 k (wK w0)=[f]:=by kernel_rfl)(e:pf k live m (wk P w0 az)=some (st i,ep az):=by kernel_rfl):GW P r N0 Q w0:=by
 generalize hw:wk P w0 az=w at e;unfold pf at e;split at e
 ·next k' s' l=>
  obtain⟨hb,e⟩:=j7 e;obtain⟨e2,rfl⟩:=qu e;rw[beq_iff_eq]at hb;subst hb;exact KD hm az e1 hw (hf.h _ i e2 hI)
 ·cases e
theorem D8(hm:P.follows .mixedOrders=true){ι:Type}(k:Nat)(az:ak4 (ak4 (Nat×Ob P)))(live:ak4 Nat)(m:Nat)(st:ι->St)(I:ι->Prop)(μ:ι->Nat)(i0:ι)(hI:I i0)
 (body:∀i,I i->∀f:St->Prop,FP k live m st I μ i f->GW P r N0 Q (hY k f (st i) (wk P w0 az)))
 (hN:N0<=m:=by exact ako rfl) (e:lf live m (wk P w0 az)=some (st i0,ep az):=by kernel_rfl):GW P r N0 Q w0:=by
 generalize hw:wk P w0 az=w at e body;unfold lf at e;split at e
 ·next b K' s' l=>
  obtain⟨e2,rfl⟩:=qu e;refine nh hm hw λK _=> ?_;refine LG live m st I μ i0 hN e2 hI λi hi=> ?_;exact(body i hi _ ⟨λs' i' J h2 h3=>⟨i',J,h2,h3⟩⟩).run
 ·cases e
theorem Zt(hm:P.follows .mixedOrders=true){ι:Type}(k:Nat)(az:ak4 (ak4 (Nat×Ob P)))(live:ak4 Nat)(m:Nat)(ks:ak4 Nat)(kn:ak4 (Nat×Nat))(st:ι->St)(I:ι->Prop)(μ:ι->Nat)(i0:ι)(hI:I i0)
 (body:∀i,I i->∀f:St->Prop,Mc k live m ks kn st I μ i f->GW P r N0 Q (hY k f (st i) (wk P w0 az)))
 (hN:N0<=m:=by exact ako rfl) (kx:ak4 (VE m):=[]) (e0:EC m (wk P w0 az)=kx.map VE.x:=by kernel_rfl) (e:JL live m ks kn (wk P w0 az)=some (st i0,ep az):=by kernel_rfl):GW P r N0 Q w0:=by
 generalize hw:wk P w0 az=w at e e0 body;unfold JL at e;split at e
 ·next b K' s' l=>
  obtain⟨e2,rfl⟩:=qu e;refine nh hm hw λK _=> ?_;refine LQ live m ks kn st I μ i0 hN ⟨I8 _ kx e0,e2⟩ hI λi hi=> ?_;exact(body i hi _ ⟨λs' i' h0 J h2 h3=>⟨i',⟨h0,J⟩,h2,h3⟩⟩).run
 ·cases e
theorem FX(hm:P.follows .mixedOrders=true){ι:Type}(k:Nat)(az:ak4 (ak4 (Nat×Ob P)))(live:ak4 Nat)(m:Nat)(st:ι->St)(I:ι->Prop)
 (br:∀f:St->Prop,zT k live m st I f->GW P r N0 Q (GX k f (wk P w0 az)))
 (rest:∀i,I i->GW P r N0 Q (FF (st i) (wk P w0 az))) (hN:N0<=m:=by exact ako rfl) (e:Ba (wk P w0 az)=some (ep az):=by kernel_rfl):GW P r N0 Q w0:=by
 generalize hw:wk P w0 az=w at e br rest;unfold Ba at e;split at e
 ·cases e
  refine nh hm hw λK _=> ?_;exact o9 live m st I hN (br _ ⟨λs' i' J h2=>⟨i',J,h2⟩⟩).run λi hi=>(rest i hi).run
 ·cases e
theorem Em:∀{K:ak4 Fr}{y:Code}{K':ak4 Fr}{s:St},yG K=some (y,K')->bD P r N0 y (gY P r N0 Q K') s->gY P r N0 Q K .normal s
 |[],_,_,_,h,_=>by cases h
 | .S y::K,_,_,_,h,k=>by cases h;exact k
 | .B _::K,_,_,s,h,k=>Em (K:=K) (s:=s) h k
 | .F _ _::K,_,_,_,h,_=>by cases h
theorem aeq(hm:P.follows .mixedOrders=true)(Δ:ak4 (Nat×AV))(h':ak4 ao)(e:∃az:ak4 (Nat×Ob P),Et P (Δ.map (·.1)) (iA az) (wk P w0 [])=some (Δ,h',iN az))(k:GW P r N0 Q (s9 Δ h' (wk P w0 [])))(e0:ri (wk P w0 [])=some []:=by kernel_rfl):GW P r N0 Q w0:=by
 generalize hw:wk P w0 []=w at e k e0;obtain⟨az,e⟩:=e;unfold Et at e;split at e
 ·next id ops dr K' s' l=>
  obtain⟨hb,e⟩:=j7 e;rw[aki]at hb;cases e0
  refine nh hm hw λK _=> ?_;obtain⟨s1,J,h2,h3,h4⟩:=Es e;obtain⟨p,hp⟩:=Option.isSome_iff_exists.1 hb.2;obtain⟨y,K2⟩:=p;have hk:gY P r N0 Q K' .normal s1:=by
   refine Em hp (EB (s:=s1) (s':=⟨s'.n,Δ++s'.t,h'⟩) h2.symm h3.symm h4 ?_);have k:=k.run;simp only[s9,hp]at k;exact k
  show bD P r N0 (.region id ops dr) (gY P r N0 Q K') s';have dO:=uo (P:=P) (ops:=ops.toList.toArray) (dr:=dr) (K:=gY P r N0 Q K' .normal) ops.toList 0 s' _ J (oS az) hk;cases dr with
  |false=>exact e7 (by simpa using dO)
  |true=>
   have hl:qk ops.toList.toArray=true:=by simpa using hb.1
   have:=HS (P:=P) (r:=r) (N0:=N0) (Q:=gY P r N0 Q K') (s:=s') (id:=id) (l:=ops.toList) hm hl (by simpa using dO)
   simpa using this
 ·cases e
def UA(P:ak7)(keep:ak4 Nat)(as:ak4 (Nat×cb)):WO->ak6 (ak4 (ak4 (Nat×AV)×ak4 ao×ak4 (In×cb)))
 |some (.at (.region _ ops true) K s,_)=>bif (yG K).isSome then wY P ops.toList as keep s else none
 |_=>none
theorem Pe(m:Nat)(hm:P.follows .mixedOrders=true)(Δ:ak4 (Nat×AV))(h':ak4 ao)(e:∃az:ak4 (Nat×Ob P),UA P (Δ.map (·.1)) (iA az) (wk P w0 [])=some (List.replicate m (Δ,h',iN az)))(k:GW P r N0 Q (s9 Δ h' (wk P w0 [])))(e0:ri (wk P w0 [])=some []:=by kernel_rfl):GW P r N0 Q w0:=by
 generalize hw:wk P w0 []=w at e k e0;obtain⟨az,e⟩:=e;unfold UA at e;split at e
 ·next id ops K' s' l=>
  obtain⟨hb,e⟩:=j7 e;cases e0
  refine nh hm hw λK _=> ?_;obtain⟨p,hp⟩:=Option.isSome_iff_exists.1 hb;obtain⟨y,K2⟩:=p;show bD P r N0 (.region id ops true) (gY P r N0 Q K') s';have:=rte (r:=r) (N0:=N0) (Q:=gY P r N0 Q K') (id:=id) (ol:=ops.toList) (n:=s'.n) (t:=s'.t) (h:=s'.h) m hm az Δ h' e (Em hp (by
   have k:=k.run;simp only[s9,hp]at k;exact k))
  simpa using this
 ·cases e
def Wo(P:ak7)(keep:ak4 Nat)(as:ak4 (Nat×cb)):WO->ak6 (ak4 (Nat×AV)×ak4 ao×ak4 (In×cb))
 |some (.at (.region _ ops true) K s,_)=>bif (yG K).isSome&&A9 true ops (List.range ops.toList.length)&&Cx as 0 ops.toList then qc P false ops.toList as keep s else none
 |_=>none
theorem w7(hm:P.follows .mixedOrders=true)(az:ak4 (Nat×Ob P))(Δ:ak4 (Nat×AV))(h':ak4 ao)(k:GW P r N0 Q (s9 Δ h' (wk P w0 [])))(e:Wo P (Δ.map (·.1)) (iA az) (wk P w0 [])=some (Δ,h',iN az):=by kernel_rfl)(e0:ri (wk P w0 [])=some []:=by kernel_rfl):GW P r N0 Q w0:=by
 generalize hw:wk P w0 []=w at e k e0;unfold Wo at e;split at e
 ·next id ops K' s' l=>
  obtain⟨hb,e⟩:=j7 e;rw[aki,aki]at hb;cases e0
  refine nh hm hw λK _=> ?_;obtain⟨p,hp⟩:=Option.isSome_iff_exists.1 hb.1.1;obtain⟨y,K2⟩:=p;show bD P r N0 (.region id ops true) (gY P r N0 Q K') s';have hk:bD P r N0 y (gY P r N0 Q K2) ⟨s'.n,Δ++s'.t,h'⟩:=by
   have k:=k.run;simp only[s9,hp]at k;exact k
  obtain⟨s1,J,h2,h3,h4⟩:=Es e;have tP:gY P r N0 Q K' .normal s1:=Em hp (EB (s:=s1) (s':=⟨s'.n,Δ++s'.t,h'⟩) h2.symm h3.symm h4 hk);have hl:A9 true ops.toList.toArray (List.range ops.toList.length)=true:=by simpa using hb.1.2
  have:bD P r N0 (.region id ops.toList.toArray true) (gY P r N0 Q K') s':=by
   refine SZ (m:=true) (List.range ops.toList.length) hm (by simp) hl ?_;rw[Rc];exact OB ops.toList 0 _ _ J (oS az) hb.2 tP
  simpa using this
 ·cases e
def Mh(b:Nat):ao->ak4 (Nat×Nat×Nat×Nat)
 | .cells cs=>AV.sb b cs
 | .lp .. =>[(1,0,0,0)]
 | .it .. =>[(1,0,0,0)]
 | .eO _ cs=>AV.sb b cs
 |_=>[]
structure VM(b L kk:Nat)(ys:List (List D)) where
 x:List (List AV)
 y:List (List AV)
 ok:ys.length=L->y=x.map (·.map (AV.dB b kk ys))
def VM.IS{b L kk:Nat}{ys:ak4 (ak4 D)}(zs:ak4 (ak4 D)):VM b L kk ys:=⟨ck zs,ck zs,λ_=>(Yh (λd=>by simp [AV.dB]) zs).symm⟩
def o7(b:Nat)(ys:ak4 (ak4 D)):ak4 ao->ak4 (ak4 (ak4 AV))->ak4 ao
 |[],_=>[]
 |B::l,vs=>match B with
  | .vec e k cs=>match vs with
    |v::vs=> .vec e k v::o7 b ys l vs
    |[]=> .vec e k cs::o7 b ys l []
  | .cells cs=> .cells (AV.nc b ys cs)::o7 b ys l vs
  | .eO T cs=> .eO T (AV.nc b ys cs)::o7 b ys l vs
  |B=>B::o7 b ys l vs
theorem RI{b L kk:Nat}{ys:ak4 (ak4 D)}(hL:ys.length=L):∀(h:ak4 ao)(vs:ak4 (VM b L kk ys)),sO h=vs.map VM.x->(∀q∈h.flatMap (Mh b),q=(0,ys.length,ys.length,kk))->o7 b ys h (vs.map VM.y)=h.map (ao.k9 (AV.dB b kk ys))
 |[],_,_,_=>rfl
 |B::l,vs,hv,ho=>by
  have hl:∀vs:ak4 (VM b L kk ys),sO l=vs.map VM.x->o7 b ys l (vs.map VM.y)=l.map (ao.k9 (AV.dB b kk ys)):=λvs hv=>RI hL l vs hv λq hq=>ho q (by rw[List.flatMap_cons];exact List.mem_append_right _ hq);have hb:∀q∈Mh b B,q=(0,ys.length,ys.length,kk):=λq hq=>ho q (by rw[List.flatMap_cons];exact List.mem_append_left _ hq);cases B with
  |vec e k cs=>
   cases vs with
   |nil=>cases hv
   |cons v vs=>
    have hv1:cs=v.x:=(List.cons.inj hv).1;have e1:(ao.vec e k cs).k9 (AV.dB b kk ys)= .vec e k v.y:=by rw[v.ok hL,hv1];rfl
    show ao.vec e k v.y::o7 b ys l (vs.map VM.y)=ao.k9 (AV.dB b kk ys) (.vec e k cs)::l.map _;rw[hl vs (List.cons.inj hv).2,e1]
  |cells cs=>
   have e1:(ao.cells cs).k9 (AV.dB b kk ys)= .cells (AV.nc b ys cs):=by
    rw[<-x6 cs hb,uz];rfl
   show ao.cells (AV.nc b ys cs)::o7 b ys l (vs.map VM.y)=ao.k9 (AV.dB b kk ys) (.cells cs)::l.map _;rw[hl vs hv,e1]
  |front e k n=>exact congrArg (ao.front e k n::·) (hl vs hv)
  |byt e q=>exact congrArg (ao.byt e q::·) (hl vs hv)
  |map kv=>exact congrArg (ao.map kv::·) (hl vs hv)
  |ie kv=>exact congrArg (ao.ie kv::·) (hl vs hv)
  |gone=>exact congrArg (ao.gone::·) (hl vs hv)
  |lp ls p as bd cs=>have:=congrArg Prod.fst (hb (1,0,0,0) akm);cases this
  |it sn cs=>have:=congrArg Prod.fst (hb (1,0,0,0) akm);cases this
  |eO T0 cs=>
   have e1:(ao.eO T0 cs).k9 (AV.dB b kk ys)= .eO T0 (AV.nc b ys cs):=by
    rw[<-x6 cs hb,uz];rfl
   show ao.eO T0 (AV.nc b ys cs)::o7 b ys l (vs.map VM.y)=ao.k9 (AV.dB b kk ys) (.eO T0 cs)::l.map _;rw[hl vs hv,e1]
theorem ag6{c:Code}{s:St}(live:ak4 Nat)(b:Nat)(xs:ak4 (ak4 D)){e k L:Nat}(h':ak4 ao)(hb:s.h[b]?=some (.vec e k (ck xs)))(iU:∀c∈xs,c.all D.wJ=true)(hL:xs.length=L)
 (ho:∀q∈live.flatMap λi=>(bw s.t i).sI b,q=(0,xs.length,xs.length,k)) (hh:h'=s.h.map (ao.k9 (AV.dB b k xs))) (K:bD P r N0 c Q ⟨s.n,live.map (λi=>(i,(bw s.t i).mlt b xs)),h'.set b .gone⟩):bD P r N0 c Q s:=by
 constructor
 intro G w a n hs hN;obtain⟨G',hE,e1,cM⟩:=hs.Sq xs hb iU;refine wpIn_mono (K.run G' w a n (cM.less rfl (by rw[hh]) λi=> ?_) (by rw[e1];exact hN)) λ_ _ _ hn=>hn.trans (hE.less hN);show bw (live.map (λi=>(i,(bw s.t i).mlt b xs))) i=bw (s.t.map λp=>(p.1,p.2.dB b k xs)) i\/_;rw[qC (λk=>(bw s.t k).mlt b xs),Iq (AV.dB b k xs) (by simp [AV.dB])];split
 ·next hi=>
  left
  refine(UJ _ λq hq=>ho q ?_).symm;exact List.mem_flatMap.2 ⟨i,hi,hq⟩
 ·exact .inr rfl
def Yl(live:ak4 Nat)(b:Nat)(s:St):ak4 (Nat×Nat×Nat×Nat):=(live.flatMap λi=>(bw s.t i).sI b)++s.h.flatMap (Mh b)
def aeU(live:ak4 Nat)(b:Nat)(ys:ak4 (ak4 D))(vs:ak4 (ak4 (ak4 AV)))(s:St):St:=⟨s.n,live.map (λi=>(i,(bw s.t i).mlt b ys)),(o7 b ys s.h vs).set b .gone⟩
theorem ahH(live:ak4 Nat)(b:Nat){xs:ak4 (ak4 D)}(ys:ak4 (ak4 D))(L c e k:Nat)(vs:ak4 (VM b L k ys))(hL:xs.length=L)(hy:ys=xs)(iU:∀c∈xs,c.all D.wJ=true)(K:GW P r N0 Q (VR (aeU live b ys (vs.map VM.y)) w0))(hb:(wS w0).h[b]?=some (.vec e k (ck xs)):=by kernel_rfl)(ho:Yl live b (wS w0)=List.replicate c (0,L,L,k):=by kernel_rfl)(hv:sO (wS w0).h=vs.map VM.x:=by kernel_rfl):GW P r N0 Q w0:=by
 subst hy;constructor
 unfold Di;split
 ·next c K' s l=>
  have mR:=adf hL ho;exact ag6 live b ys _ hb iU hL (λq hq=>mR q (List.mem_append_left _ hq)) (RI hL s.h vs hv λq hq=>mR q (List.mem_append_right _ hq)) K.run
 ·trivial
theorem Wz{m:Nat}:([]:ak4 ao).all (ao.aC m)=true:=rfl
theorem yt{B:ao}{l:ak4 ao}{m:Nat}(h:B.aC m=true)(k:l.all (ao.aC m)=true):(B::l).all (ao.aC m)=true:=by rw[ak0,h,k];rfl
theorem RH{e k m:Nat}{xs:ak4 (ak4 D)}:(ao.vec e k (ck xs)).aC m=true:=RR xs
theorem agS{m n:Nat}{T:ak4 (Nat×AV)}{LP:ao}{next:ak4 ao->Prop}{Q:Exit->St->Prop}{s:St}(hs:ak4 ao)(hl:hs.length=m)(hb:hs.all (ao.aC (m+1))=true)(hc:iI (m+1) (s.h.take (m+1))/\lQ s [] (m+1) [] []=some ⟨s.n,[],hs++[LP]⟩)(hn:next hs):C2 m n T LP next Q .normal s:=⟨hs,hl,hb,⟨λh=>h.lQ hc.1 hc.2⟩,hn⟩
theorem afG(k:Nat)(xs:ak4 (ak4 D))(hx:(bw (wS w0).t k).fF=some xs)(h:rV (.sl xs)->GW P r N0 Q w0):GW P r N0 Q w0:=by
 constructor
 unfold Di;split
 ·next c K s l=>exact uc k xs hx λhl=>(h hl).run
 ·trivial
theorem gw_okB(b i:Nat)(xs:ak4 (ak4 D))(hx:(((wS w0).h[b]?).bind λB=>match B with| .cells cs=>(cs[i]?).bind AV.fF|_=>none)=some xs)(h:rV (.sl xs)->GW P r N0 Q w0):GW P r N0 Q w0:=by
 constructor
 unfold Di;split
 ·next c K s l=>exact Ym b i xs hx λhl=>(h hl).run
 ·trivial
def adS(k e sz:Nat)(xs:ak4 (ak4 D))(s:St):St:=⟨s.n,(k, .own s.h.length xs)::s.t,s.h++[.front e sz xs.length]⟩
def Pn(xs:ak4 (ak4 D)):AV->Bool
 | .d (.v (.slice none 0 0))=>xs.isEmpty
 |_=>false
theorem abY{xs:ak4 (ak4 D)}{x:AV}(h:Pn xs x=true):x= .d (.v (.slice none 0 0))/\xs=[]:=by
 unfold Pn at h;split at h
 ·exact⟨rfl,List.isEmpty_iff.1 h⟩
 ·cases h
theorem mG(k e sz:Nat)(xs:ak4 (ak4 D))(hx:bw (wS w0).t k= .full xs\/Pn xs (bw (wS w0).t k)=true)(h:GW P r N0 Q (VR (adS k e sz xs) w0)):GW P r N0 Q w0:=by
 constructor
 unfold Di;split
 ·next c K s l=>exact Gn k e sz xs (hx.imp id abY) h.run
 ·trivial
end
theorem bc{α:Type}{c:Bool}{a b x:α}{G:Prop}(h:(bif c then a else b)=x)(t:c=true->a=x->G)(f:c=false->b=x->G):G:=by
 cases c with
 |true=>exact t rfl h
 |false=>exact f rfl h
theorem sj{α:Type}{a b:α}(h:some a=some b):a=b:=akz h
theorem U1{α:Type}{c:Bool}{x:ak6 α}{r:α}(h:(bif c then x else none)=some r):c=true/\x=some r:=by
 cases c with
 |true=>exact⟨rfl,h⟩
 |false=>cases h
def yN(fn:Func)(args:ak4 AV)(h:ak4 ao):WO:=some (.at (fn.body.getD .skip) [] {n:=args.length+(fn.ntmps-args.length),t:=lx 0 args,h:=h},[])
theorem abj{P:ak7}{f:FuncId}{fn:Func}{args:ak4 AV}{R:AV}(hf:P.funcs[f]?=some fn)(hb:fn.body.isSome=true)(hn:(fn.name== "runtime.NumGoroutine")=false)
 (hw:GW P none 0 (kA P fn R) (yN fn args [])):fX P f args (·=R):=by
 obtain⟨c,hc⟩:=Option.isSome_iff_exists.1 hb;refine lU hf hc hn ?_;have:fn.body.getD .skip=c:=by rw[hc];rfl
 rw[<-this];exact hw.run
theorem abK{P:ak7}{f:FuncId}{fn:Func}{args:ak4 AV}{h H:ak4 ao}{R:AV}(m:Nat)(hf:P.funcs[f]?=some fn)(hb:fn.body.isSome=true)(hn:(fn.name== "runtime.NumGoroutine")=false)(hm:h.length<=m)
 (hw:GW P none h.length (tB P fn m R H) (yN fn args h)):cZ P f args h λr1 J=>r1=R/\J=H:=by
 obtain⟨c,hc⟩:=Option.isSome_iff_exists.1 hb;refine pj m hf hc hn hm ?_;have:fn.body.getD .skip=c:=by rw[hc];rfl
 rw[<-this];exact hw.run
section G4
variable {P:ak7}
def oL{α:Type}{f:ak4 α->ak4 (ak4 D)}(l:ak4 α)(h:(f l).length=l.length):Ob P:=⟨_,_, .len h⟩
def oE{xs:ak4 (ak4 D)}{k:Nat}{c:ak4 D}(h:xs[k]?=some c):Ob P:=⟨_,_, .el (xs:=xs) (i:=(k:Int)) (Int.natCast_nonneg _) h⟩
def oq{a b:AV}(h:a=b):Ob P:=⟨_,_, .eq h⟩
def os(ks:ak4 Nat)(o:Ob P)(l:ak4 (Nat×Ob P)):ak4 (Nat×Ob P):=ks.foldr (λk t=>(k,o)::t) l
noncomputable def soI(x:Nat×Ob P)(l:ak4 (Nat×Ob P)):ak4 (Nat×Ob P):=List.rec [x] (λy t r=>bif Nat.ble x.1 y.1 then x::y::t else y::r) l
noncomputable def so(l:ak4 (Nat×Ob P)):ak4 (Nat×Ob P):=l.foldr soI []
theorem qz{xs:ak4 (ak4 D)}{n:Nat}(e:xs.length=n)(h:rV (.sl xs)):n<=maxLen:=e▸Hl h
end G4
inductive eG(P:Program):TypeId->List D->Prop
 |bool {t:TypeId} (b:Bool) (h:P.underlying t=some .bool):eG P t [.v (.bool b)]
 |int {t:TypeId} {k:IntKind} (n:Int) (h:P.underlying t=some (.int k)) (w:(Lit.int k n).wf=true):eG P t [.v (.int k n)]
 |str {t:TypeId} (s:ByteArray) (h:P.underlying t=some .string) (w:s.size<=maxLen):eG P t [.v (.string s)]
 |sl {t e:TypeId} (xs:List (List D)) (h:P.underlying t=some (.slice e)) (w:xs.length<=140737488355328) (hx:∀x∈xs,eG P e x):eG P t [.sl xs]
 |struct {t:TypeId} {fs:Array Field} (parts:List (List D)) (h:P.underlying t=some (.struct fs)) (hl:parts.length=fs.size) (hx:∀(i:Nat)(f:Field)(x:List D),fs[i]?=some f->parts[i]?=some x->eG P f.type x):eG P t parts.flatten
section
variable {P:ak7} {t:TypeId} {xs:ak4 D}
theorem eG.abq(h:eG P t xs)(ht:P.underlying t=some .bool):∃b,xs=[.v (.bool b)]:=by
 cases h with
 |bool b h=>exact⟨b,rfl⟩
 |int n h=>rw[ht]at h;cases h
 |str s h=>rw[ht]at h;cases h
 |sl l h=>rw[ht]at h;cases h
 |struct p h=>rw[ht]at h;cases h
theorem eG.nD{k:IntKind}(h:eG P t xs)(ht:P.underlying t=some (.int k)):∃n,xs=[.v (.int k n)]/\k.min<=n/\n<=k.max:=by
 cases h with
 |bool b h=>rw[ht]at h;cases h
 |int n h w=>
  rw[ht]at h;cases h;unfold Lit.wf at w;simp only[aki,decide_eq_true_eq]at w;exact⟨n,rfl,w⟩
 |str s h=>rw[ht]at h;cases h
 |sl l h=>rw[ht]at h;cases h
 |struct p h=>rw[ht]at h;cases h
theorem eG.sF(h:eG P t xs)(ht:P.underlying t=some .string):∃s,xs=[.v (.string s)]/\s.size<=maxLen:=by
 cases h with
 |bool b h=>rw[ht]at h;cases h
 |int n h=>rw[ht]at h;cases h
 |str s h w=>exact⟨s,rfl,w⟩
 |sl l h=>rw[ht]at h;cases h
 |struct p h=>rw[ht]at h;cases h
theorem eG.pW{e:TypeId}(h:eG P t xs)(ht:P.underlying t=some (.slice e)):∃l,xs=[.sl l]/\l.length<=140737488355328/\∀x∈l,eG P e x:=by
 cases h with
 |bool b h=>rw[ht]at h;cases h
 |int n h=>rw[ht]at h;cases h
 |str s h=>rw[ht]at h;cases h
 |sl l h w hx=>rw[ht]at h;cases h;exact⟨l,rfl,w,hx⟩
 |struct p h=>rw[ht]at h;cases h
theorem eG.nQ{fs:Array Field}(h:eG P t xs)(ht:P.underlying t=some (.struct fs)):∃parts:ak4 (ak4 D),xs=parts.flatten/\parts.length=fs.size/\∀(i:Nat)(f:Field)(x:ak4 D),fs[i]?=some f->parts[i]?=some x->eG P f.type x:=by
 cases h with
 |bool b h=>rw[ht]at h;cases h
 |int n h=>rw[ht]at h;cases h
 |str s h=>rw[ht]at h;cases h
 |sl l h=>rw[ht]at h;cases h
 |struct p h hl hx=>rw[ht]at h;cases h;exact⟨p,rfl,hl,hx⟩
theorem oP{α:Type}{f:α->ak4 D}{Q:α->Prop}:∀l:ak4 (ak4 D),(∀x∈l,∃a,x=f a/\Q a)->∃r:ak4 α,l=r.map f/\∀a∈r,Q a
 |[],_=>⟨[],rfl,λ_ h=>by cases h⟩
 |x::l,h=>by
  obtain⟨a,rfl,ha⟩:=h x akm;obtain⟨r,rfl,hr⟩:=oP l λy hy=>h y (akp _ hy);refine⟨a::r,rfl,λb hb=> ?_⟩;rcases akK.1 hb with rfl|hb
  ·exact ha
  ·exact hr b hb
end
def Jy(P:ak7)(S:ak4 TypeId):Bool:=S.all λt=>match P.underlying t with
 |some .bool|some (.int _)|some .string=>true
 |some (.slice e)=>S.contains e&&(decide (0<P.cellsOf e)&&decide (0<P.bytesOf e))
 |some (.struct fs)=>P.consecB fs.toList 0 (P.cellsOf t)&&fs.toList.all λf=>S.contains f.type
 |_=>false
def jd(S:Nat->Nat->Prop)(w:ak9)(cs:ak4 ak8)(xs:ak4 D):Prop:=xs.length=cs.length/\∀(i:Nat)(u:ak8)(x:D),cs[i]?=some u->xs[i]?=some x->dz S w u x/\u.oneCell'=true
theorem jd.nil{S:Nat->Nat->Prop}{w:ak9}:jd S w [] []:=⟨rfl,λi u x h=>by simp at h⟩
theorem jd.one{S:Nat->Nat->Prop}{w:ak9}{u:ak8}{x:D}(h:dz S w u x)(J:u.oneCell'=true):jd S w [u] [x]:=⟨rfl,λi v y hv hy=>by
 cases i with
 |zero=>cases hv;cases hy;exact⟨h,J⟩
 |succ i=>simp at hv⟩
theorem jd.app{S:Nat->Nat->Prop}{w:ak9}{a b:ak4 ak8}{x y:ak4 D}(h:jd S w a x)(k:jd S w b y):jd S w (a++b) (x++y):=by
 refine⟨by simp [h.1,k.1],λi u z hu hz=> ?_⟩;by_cases hi:i<a.length
 ·rw[akq hi]at hu;rw[akq (by rw[h.1];exact hi)]at hz;exact h.2 i u z hu hz
 ·rw[akw (by omega)]at hu;rw[akw (by rw[h.1];omega),h.1]at hz;exact k.2 _ u z hu hz
theorem Wf{α:Type}{Q:Nat->α->Prop}:∀n:Nat,(∀i,i<n->∃x,Q i x)->∃l:ak4 α,l.length=n/\∀i x,l[i]?=some x->Q i x
 |0,_=>⟨[],rfl,λi x h=>by simp at h⟩
 |n+1,h=>by
  obtain⟨l,J,h2⟩:=Wf n λi hi=>h i (by omega);obtain⟨x,hx⟩:=h n (by omega);refine⟨l++[x],by simp [J],λi y hy=> ?_⟩;by_cases hi:i<l.length
  ·rw[akq hi]at hy;exact h2 i y hy
  ·rw[akw (by omega)]at hy;have:i-l.length=0:=by
     by_cases e:i-l.length=0
     ·exact e
     ·rw[akM (by simp;omega)]at hy;cases hy
   rw[this]at hy;cases hy;have:i=n:=by omega
   rw[this];exact hx
theorem Yj{a:Addr}(h:a.spot=none)(n:Nat):a.add n=⟨a.block,a.off+n,none⟩:=by
 unfold Addr.add;split
 ·next e=>subst e;cases a;simp only at h;subst h;rfl
 ·rfl
section
variable {H:Type} {enc:TypeId×ak8->H} {P:ak7} {W:ak9} {Ts:ak4 TypeId}
abbrev pH(W:ak9):Nat->Nat->Prop:=λb _=>b<W.heap.size
theorem ahM{S:Nat->Nat->Prop}{w:ak9}:dz S w (.slice none 0 0) (.sl []):=
 .sl none 0 0 0 0 [] (λ_ _=>undef) (λh=>absurd rfl h) (akr _) (by simp) (λ_ h=>by cases h) (λi j hi=>by simp at hi) (λi j x d hx=>by simp at hx)
theorem V8{e:TypeId}:∀{l:ak4 (DataW H)}{d:DataW H},d∈l->∀n∈d.weights P e,n∈DataW.weightsAll P e l
 |[],_,h,_,_=>by cases h
 |x::l,d,h,n,hn=>by
  simp only[DataW.weightsAll,akS];rcases akK.1 h with rfl|h
  ·exact .inl hn
  ·exact .inr (V8 h n hn)
theorem Xp{fuel:Nat}(IH:∀(t:TypeId)(cs:ak4 ak8)(d:DataW H)(ps:ak4 MemPlace),t∈Ts->(∀n∈d.weights P t,n<=reachBytes)->DataW.trod enc P W 0 (λ_=>true) true fuel t cs=some (d,ps)->∃xs,eG P t xs/\jd (pH W) W cs xs)(cs:ak4 ak8):
 ∀(fs:ak4 Field)(off:Nat)(ys:ak4 (DataW H×ak4 MemPlace)),P.consecB fs off cs.length=true->(∀f∈fs,f.type∈Ts)->(∀n∈DataW.weightsEach P (fs.map (·.type)) (ys.map (·.1)),n<=reachBytes)->
  fs.mapM (λf=>DataW.trod enc P W 0 (λ_=>true) true fuel f.type ((cs.drop f.offset).take (P.cellsOf f.type)))=some ys->
  ∃parts:ak4 (ak4 D),parts.length=fs.length/\(∀(i:Nat)(f:Field)(x:ak4 D),fs[i]?=some f->parts[i]?=some x->eG P f.type x)/\jd (pH W) W (cs.drop off) parts.flatten
 |[],off,ys,hc,_,_,_=>by
  simp only[Program.consecB,beq_iff_eq]at hc;refine⟨[],rfl,λi f x h=>by simp at h,?_⟩;rw[List.drop_eq_nil_iff.2 (by omega)];exact jd.nil
 |f::fs,off,ys,hc,hS,hw,hm=>by
  simp only[Program.consecB,aki,beq_iff_eq]at hc;obtain⟨ajN,hc⟩:=hc;rw[List.mapM_cons]at hm;cases hx:DataW.trod enc P W 0 (λ_=>true) true fuel f.type ((cs.drop f.offset).take (P.cellsOf f.type))with
  |none=>simp [hx]at hm
  |some p=>
   cases ld:fs.mapM (λf=>DataW.trod enc P W 0 (λ_=>true) true fuel f.type ((cs.drop f.offset).take (P.cellsOf f.type)))with
   |none=>simp [hx,ld]at hm
   |some ps=>
    obtain⟨d,q⟩:=p;obtain rfl:(d,q)::ps=ys:=by simpa [hx,ld]using hm
    simp only[akF,DataW.weightsEach,akS]at hw;obtain⟨x,J,h2⟩:=IH f.type _ d q (hS f akm) (λn hn=>hw n (.inl hn)) hx;obtain⟨parts,k1,k2,k3⟩:=Xp IH cs fs (off+P.cellsOf f.type) ps hc (λg hg=>hS g (akp _ hg)) (λn hn=>hw n (.inr hn)) ld;refine⟨x::parts,by simp [k1],λi g y hg hy=> ?_,?_⟩
    ·cases i with
     |zero=>cases hg;cases hy;exact J
     |succ i=>exact k2 i g y (by simpa using hg) (by simpa using hy)
    ·rw[List.flatten_cons];rw[ajN]at h2;have:=h2.app k3
     rwa [take_drop_step]at this
theorem Wg(hT:Jy P Ts=true):∀(fuel:Nat)(t:TypeId)(cs:ak4 ak8)(d:DataW H)(ps:ak4 MemPlace),t∈Ts->(∀n∈d.weights P t,n<=reachBytes)->DataW.trod enc P W 0 (λ_=>true) true fuel t cs=some (d,ps)->∃xs,eG P t xs/\jd (pH W) W cs xs
 |0,t,cs,d,ps,_,_,h=>by simp [DataW.trod]at h
 |fuel+1,t,cs,d,ps,ht,tz,h=>by
  have IH:=Wg hT fuel;have mg:=akG.1 hT t ht;unfold DataW.trod at h;split at h
  ·next b e=>exact⟨_, .bool b e,jd.one (.v _) rfl⟩
  ·next k k' n e=>
   split at h
   ·next hk=>obtain⟨rfl,hw⟩:=hk;exact⟨_, .int n e hw,jd.one (.v _) rfl⟩
   ·cases h
  ·next e=>rw[e]at mg;cases mg
  ·next s e=>
   split at h
   ·next hw=>exact⟨_, .str s e hw,jd.one (.v _) rfl⟩
   ·cases h
  ·next e=>rw[e]at mg;cases mg
  ·next e=>rw[e]at mg;cases mg
  ·next e e1=>exact⟨_, .sl [] e1 (Nat.zero_le _) (λx hx=>absurd hx akW),jd.one ahM rfl⟩
  ·next e a len cap e1=>
   rw[e1]at mg;simp only[aki,List.contains_iff_mem,decide_eq_true_eq]at mg;obtain⟨hme,NQ,n8⟩:=mg;simp only at h;split at h
   ·next hb=>
    obtain⟨_,kG,vY⟩:=hb;rw[Option.bind_eq_some_iff]at h;obtain⟨elems,DO,xv⟩:=h;rw[Option.map_eq_some_iff]at xv;obtain⟨rest,_,xv⟩:=xv;cases xv
    simp only[DataW.weights,e1,akK,akS,akl]at tz;have hlen:elems.length=len:=by simpa using mapM_some_length DO
    have hQ:∀i,i<len->∃x:ak4 D,eG P e x/\∃cD,W.cells? 0 (a.add (i*P.cellsOf e)) (P.cellsOf e)=some cD/\jd (pH W) W cD x:=λi hi=>by
     have J:=mapM_some_get DO i i (by simp [hi]);rw[akk (by omega)]at J;rw[Option.bind_eq_some_iff]at J;obtain⟨cD,h2,h3⟩:=J;obtain⟨x,h4,h5⟩:=IH e cD elems[i].1 elems[i].2 hme (λn hn=>tz n (.inr (.inl (V8 (List.mem_map.2 ⟨_,List.getElem_mem _,rfl⟩) n hn)))) h3;exact⟨x,h4,cD,h2,h5⟩
    obtain⟨xs,uh,VI⟩:=Wf len hQ;have S3:xs≠ []->a.spot=none:=λcN=>by
     have h0:0<len:=by cases xs with|nil=>exact(cN rfl).elim|cons x l=>simp at uh;omega
     obtain⟨x,_,cD,h2,_⟩:=hQ 0 h0;obtain⟨_,h3,h4⟩:=World.cells?_some h2;have h5:=h4 0 NQ;rw[Nat.zero_mul]at h5;have e0:(a.add 0).add 0=a:=by simp [Addr.add]
     rw[e0,akk (by omega)]at h5;unfold World.cell? at h5;split at h5
     ·split at h5
      ·cases h5
      ·next hn=>simpa using hn
     ·cases h5
    have hJ:∀i x,xs[i]?=some x->x.length=P.cellsOf e/\∀j,j<P.cellsOf e->∃u,W.cell? ⟨a.block,a.off+i*P.cellsOf e+j,none⟩=some u/\u.oneCell'=true/\∀d,x[j]?=some d->dz (pH W) W u d:=λi x hx=>by
     obtain⟨_,cD,h2,h3⟩:=VI i x hx;obtain⟨_,h4,h5⟩:=World.cells?_some h2;have hs:=S3 (λe=>by rw[e]at hx;simp at hx);refine⟨h3.1.trans h4,λj hj=> ?_⟩;have h6:=h5 j hj;rw[Yj hs,Yj rfl,akk (by omega)]at h6;have hjx:j<x.length:=by rw[h3.1,h4];exact hj
     have hd:x[j]?=some x[j]:=akk hjx;have h7:=h3.2 j _ _ (akk (by omega)) hd;exact⟨_,h6,h7.2,λd jH=>by rw[hd]at jH;cases jH;exact h7.1⟩
    have abT:xs.length<=140737488355328:=by
     have J:=tz _ (.inl rfl);have h2:(elems.length+rest.length)*1<=(elems.length+rest.length)*P.bytesOf e:=Nat.mul_le_mul_left _ n8;have h3:reachBytes<=140737488355328:=by decide
     omega
    refine⟨[.sl xs], .sl xs e1 abT (λx hx=> ?_),jd.one ?_ rfl⟩
    ·obtain⟨i,hi,rfl⟩:=List.mem_iff_getElem.1 hx;exact(VI i _ (akk hi)).1
    ·rw[<-uh];refine .sl (some a) a.block a.off cap (P.cellsOf e) xs (λi j=>(W.cell? ⟨a.block,a.off+i*P.cellsOf e+j,none⟩).getD undef) (λcN=> ?_) (by omega) vY (λx hx=> ?_) (λi j hi hj=> ?_) λi j x d hx hd=> ?_
     ·have:=S3 cN;cases a;simp only at this;subst this;rfl
     ·obtain⟨i,hi,rfl⟩:=List.mem_iff_getElem.1 hx;exact(hJ i _ (akk hi)).1
     ·obtain⟨u,J,h2,_⟩:=(hJ i _ (akk hi)).2 j hj;refine⟨World.block_lt_of_cell? W ⟨a.block,a.off+i*P.cellsOf e+j,none⟩ J,?_,?_⟩
      ·rw[J];rfl
      ·rw[J];exact h2
     ·obtain⟨hl,hc⟩:=hJ i x hx;obtain⟨u,J,_,h3⟩:=hc j (by rw[<-hl];exact(akg.1 hd).1);simp only[J,Option.getD_some];exact h3 d hd
   ·cases h
  ·next cD fs e1=>
   rw[e1]at mg;simp only[aki,akG,List.contains_iff_mem]at mg;split at h
   ·next hl=>
    rw[Option.map_eq_some_iff]at h;obtain⟨ys,hm,xv⟩:=h;cases xv
    simp only[DataW.weights,e1]at tz;obtain⟨parts,k1,k2,k3⟩:=Xp IH _ fs.toList 0 ys (by rw[hl];exact mg.1) mg.2 tz hm;exact⟨_, .struct parts e1 (by simpa using k1) (λi f x hf=>k2 i f x (by simpa using hf)),by simpa using k3⟩
   ·cases h
  all_goals first|(cases h;done)|(exfalso;revert mg;(next e=>rw[e];intro h0;cases h0))
theorem Pv{t:TypeId}{v:ak8}{d:DataW H}{ps:ak4 MemPlace}(hT:Jy P Ts=true)(hm:t∈Ts)(hw:∀n∈d.weights P t,n<=reachBytes)(h:DataW.Trod enc P W 0 (λ_=>true) true t v d ps):∃xs,eG P t xs/\jd (pH W) W v.cells.toList xs:=
 let ⟨fuel,h⟩:=h
 Wg hT fuel t _ d ps hm hw h
theorem aj0{t:TypeId}{fs:Array Field}{v:ak8}{r:Reach}{base:Nat}(ht:P.underlying t=some (.struct fs))(h:Value.okWide P W r base t v):∃cs,v= .agg cs:=by
 unfold Value.okWide at h;rw[ht]at h;obtain⟨cs,rfl,_⟩:=h;exact⟨cs,rfl⟩
theorem af7{G:Gh}(hS:G.S=pH W){cs:Array ak8}{xs:ak4 D}(h:jd (pH W) W cs.toList xs):aD G W (.agg cs) (.agg (xs.map .d)):=by
 refine .agg cs _ (by rw[akl,h.1,akN]) λi u c hu hc=> ?_;rw[akn]at hc;cases hx:xs[i]? with
 |none=>rw[hx]at hc;cases hc
 |some x=>
  rw[hx]at hc;cases hc
  exact .d (hS▸(h.2 i u x (by rw[akD];exact hu) hx).1)
theorem aaA{G:Gh}(hS:G.S=pH W){v:ak8}{x:D}(h:jd (pH W) W #[v].toList [x]):aD G W v (.d x):= .d (hS▸(h.2 0 v x rfl rfl).1)
end
end Go.Proofs.YtnnapanbbbcalaaGreatDoor
