/-
  Part 15 of the proof: CnNormCarda.
-/
import Derived.Test.YtmkmibahjanejaaGreatDoorPp14
import Derived.Test.YtmkmibahjanejaaGreatDoorCards
import Derived.Test.YtmkmibahjanejaaGreatDoorTie
import Derived.SevenTiedAt
import Derived.Carry
namespace Go.Proofs.YtmkmibahjanejaaGreatDoor
open Go.ChangeShapes Go.WideShapes Go.ChangeAt Go.RowKit
open Go.ChangeMaps (open_string shut_string)
set_option maxRecDepth 100000
set_option linter.unusedVariables false
theorem QT:laidOutB Tryz.prog=true:=by kernel_rfl
theorem afk(os:Os)(started:os.Started)(H:Type)(enc:TypeId×agO->H):
 ReturnsInHanded {} Tryz.checked os 3 .any (λw args=>(Rows.canonNormalizeSpec.pre enc Tryz.prog Tryz.f3 [] false w args/\laidMetH Tryz.prog rY w)/\sizedMet enc Tryz.prog Tryz.f3 (OpenSpec.ofChange Rows.canonNormalizeSpec) false w args)
  (Rows.canonNormalizeSpec.post enc Tryz.prog Tryz.f3 false true false false):=by
 refine returnsInHanded_of_change_and (C:=Tryz.checked) (X:=λw _=>laidMetH Tryz.prog rY w) (λ_ _ _ hh h=>h.of_heap hh) Yw started (by kernel_rfl) Tryz.func3
  (adJ (enc:=enc) (os:=os) false #[.agg #[.slice none 0 0, .slice none 0 0, .slice none 0 0, .slice none 0 0, .slice none 0 0]] 8 (by kernel_rfl) (by kernel_rfl) (by kernel_rfl)) ?_
 intro W base args ds gs before Qs hW _ tE hL _;have uz:∀(j:Nat) t v,Tryz.f3.params[j]?=some t->args[j]?=some v->Value.okWide Tryz.prog W .any base t v:=Qs;have ZW:=hW;obtain⟨p,q,P4,hV,rfl,hfz,gC⟩:=hW;have hA:DataW.TrodAll enc Tryz.prog W 0 (λ_=>true) true Tryz.f3.params.toList args.toList ds p:=P4;rw[Tryz.params3]at hA uz;obtain⟨v0,vs0,d0,ds0,p0,q0,mY,rfl,rfl,h0,r0⟩:=trodAll_cons hA;obtain⟨rfl,rfl,rfl⟩:=trodAll_nil r0;obtain rfl:args= #[v0]:=by cases args;simp_all
 obtain⟨rfl,rfl⟩:=trodVars_none hV;have wt0:∀n∈d0.weights Tryz.prog 27,n<=reachBytes:=λn hn=>of_decide_eq_true (agm.1 tE n (DataW.weights_mem_each (j:=0) (t:=27) (d:=d0) (by rw[Tryz.params3];rfl) rfl n hn));have YM:∀x∈p0,x.block<W.heap.size:=by obtain⟨m,hm⟩:=h0;exact DataW.trod_lt m _ _ _ hm
 obtain⟨c0,rfl⟩:=afs Tryz.underlying27 (uz 0 27 v0 rfl rfl);obtain⟨x0,s0,e0⟩:=aeK WZ (by decide) wt0 h0;obtain⟨a0,rfl,w0⟩:=W6 s0;clear P4 Qs;refine(YE (Wk a0 w0) (WN hL) _ rfl λi u c hu hc=> ?_).mono λe W' ⟨he,MQ⟩=> ?_
 ·match i with
  |0=>cases hu;cases hc;exact Wx rfl e0
  |i+1=>simp at hu
 ·subst he;exact⟨_,rfl,_,_,_,[],_,[],ZW,trodAll_mk1 (shut_bool Tryz.underlying4 _),(trodAll_cons_mk (Below.trod QT (by kernel_rfl) (of_decide_eq_true (by kernel_rfl)) h0 MQ YM) trodAll_mk0),rfl,MQ.frame _,λh=>by cases h⟩
end Go.Proofs.YtmkmibahjanejaaGreatDoor
