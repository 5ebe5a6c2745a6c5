/-
  Part 16 of the proof: EvIgnoresCarda.
-/
import Derived.Test.YtpeecnpmcbnahaaGreatDoorPp15
import Derived.Test.YtpeecnpmcbnahaaGreatDoorCards
import Derived.Test.YtpeecnpmcbnahaaGreatDoorTie
import Derived.SevenTiedAt
import Derived.Carry
namespace Go.Proofs.YtpeecnpmcbnahaaGreatDoor
open Go.ChangeShapes Go.WideShapes Go.ChangeAt Go.RowKit
open Go.ChangeMaps (open_string shut_string)
set_option maxRecDepth 100000
set_option linter.unusedVariables false
theorem Hj:laidOutB Tryz.prog=true:=by kernel_rfl
theorem aie(os:Os)(started:os.Started)(H:Type)(enc:TypeId×apj->H):
 ReturnsInHanded {} Tryz.checked os 3 .any (λw args=>(Rows.evalIgnoresSpec.pre enc Tryz.prog Tryz.f3 [] false w args/\laidMetH Tryz.prog tY w)/\sizedMet enc Tryz.prog Tryz.f3 (OpenSpec.ofChange Rows.evalIgnoresSpec) false w args)
  (Rows.evalIgnoresSpec.post enc Tryz.prog Tryz.f3 false true false false):=by
 refine returnsInHanded_of_change_and (C:=Tryz.checked) (X:=λw _=>laidMetH Tryz.prog tY w) (λ_ _ _ hh h=>h.of_heap hh) anE started (by kernel_rfl) Tryz.func3
  (ad2 (enc:=enc) (os:=os) false #[.agg #[.slice none 0 0, .slice none 0 0, .slice none 0 0, .slice none 0 0, .slice none 0 0], .slice none 0 0, .slice none 0 0] 8 (by kernel_rfl) (by kernel_rfl) (by kernel_rfl)) ?_
 intro W base args ds gs before aaw hW _ rN hL _;have sP:∀(j:Nat) t v,Tryz.f3.params[j]?=some t->args[j]?=some v->Value.okWide Tryz.prog W .any base t v:=aaw;have hW':=hW;obtain⟨p,q,TM,hV,rfl,hfz,j0⟩:=hW;have hA:DataW.TrodAll enc Tryz.prog W 0 (λ_=>true) true Tryz.f3.params.toList args.toList ds p:=TM;rw[Tryz.params3]at hA sP;obtain⟨v0,vs0,d0,ds0,p0,q0,sG,rfl,rfl,h0,r0⟩:=trodAll_cons hA;obtain⟨v1,vs1,d1,ds1,p1,q1,rfl,rfl,rfl,J,r1⟩:=trodAll_cons r0;obtain⟨v2,vs2,d2,ds2,p2,q2,rfl,rfl,rfl,h2,r2⟩:=trodAll_cons r1;obtain⟨rfl,rfl,rfl⟩:=trodAll_nil r2;obtain rfl:args= #[v0,v1,v2]:=by cases args;simp_all
 obtain⟨rfl,rfl⟩:=trodVars_none hV;have wt0:∀n∈d0.weights Tryz.prog 27,n<=reachBytes:=λn hn=>of_decide_eq_true (aoR.1 rN n (DataW.weights_mem_each (j:=0) (t:=27) (d:=d0) (by rw[Tryz.params3];rfl) rfl n hn));have wt1:∀n∈d1.weights Tryz.prog 28,n<=reachBytes:=λn hn=>of_decide_eq_true (aoR.1 rN n (DataW.weights_mem_each (j:=1) (t:=28) (d:=d1) (by rw[Tryz.params3];rfl) rfl n hn));have wt2:∀n∈d2.weights Tryz.prog 29,n<=reachBytes:=λn hn=>of_decide_eq_true (aoR.1 rN n (DataW.weights_mem_each (j:=2) (t:=29) (d:=d2) (by rw[Tryz.params3];rfl) rfl n hn));have lt0:∀x∈p0,x.block<W.heap.size:=by obtain⟨m,hm⟩:=h0;exact DataW.trod_lt m _ _ _ hm
 obtain⟨c0,rfl⟩:=aoe Tryz.underlying27 (sP 0 27 v0 rfl rfl);obtain⟨x0,s0,e0⟩:=Pd MN (by decide) wt0 h0;obtain⟨a0,rfl,w0⟩:=ahb s0;have lt1:∀x∈p1,x.block<W.heap.size:=by obtain⟨m,hm⟩:=J;exact DataW.trod_lt m _ _ _ hm
 obtain⟨b1,l1,c1,rfl⟩:=okWide_slice Tryz.underlying28 (sP 1 28 v1 rfl rfl);obtain⟨x1,s1,e1⟩:=Pd MN (by decide) wt1 J;obtain⟨a1,rfl,w1⟩:=ahM s1;have lt2:∀x∈p2,x.block<W.heap.size:=by obtain⟨m,hm⟩:=h2;exact DataW.trod_lt m _ _ _ hm
 obtain⟨b2,l2,c2,rfl⟩:=okWide_slice Tryz.underlying29 (sP 2 29 v2 rfl rfl);obtain⟨x2,s2,e2⟩:=Pd MN (by decide) wt2 h2;obtain⟨a2,rfl,w2⟩:=akG s2;clear TM aaw;refine(ajz (aed a0 a1 a2 w0 w1 w2) (akf hL) _ rfl λi u c hu hc=> ?_).mono λe W' ⟨he,Hw⟩=> ?_
 ·match i with
  |0=>cases hu;cases hc;exact anW rfl e0
  |1=>cases hu;cases hc;exact UB rfl e1
  |2=>cases hu;cases hc;exact UB rfl e2
  |i+3=>simp at hu
 ·subst he;exact⟨_,rfl,_,_,_,[],_,[],hW',trodAll_mk1 (shut_bool Tryz.underlying4 _),(trodAll_cons_mk (Below.trod Hj (by kernel_rfl) (of_decide_eq_true (by kernel_rfl)) h0 Hw lt0) (trodAll_cons_mk (Below.trod Hj (by kernel_rfl) (of_decide_eq_true (by kernel_rfl)) J Hw lt1) (trodAll_cons_mk (Below.trod Hj (by kernel_rfl) (of_decide_eq_true (by kernel_rfl)) h2 Hw lt2) trodAll_mk0))),rfl,Hw.frame _,λh=>by cases h⟩
end Go.Proofs.YtpeecnpmcbnahaaGreatDoor
