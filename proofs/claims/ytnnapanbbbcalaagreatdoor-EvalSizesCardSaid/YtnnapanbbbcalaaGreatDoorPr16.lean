/-
  Part 16 of the proof: EvSizesCarda.
-/
import Derived.Test.YtnnapanbbbcalaaGreatDoorPr15
import Derived.Test.YtnnapanbbbcalaaGreatDoorCards
import Derived.Test.YtnnapanbbbcalaaGreatDoorTie
import Derived.SevenTiedAt
import Derived.Carry
namespace Go.Proofs.YtnnapanbbbcalaaGreatDoor
open Go.ChangeShapes Go.WideShapes Go.ChangeAt Go.RowKit
open Go.ChangeMaps (open_string shut_string)
set_option maxRecDepth 100000
set_option linter.unusedVariables false
theorem KU:laidOutB Tryz.prog=true:=by kernel_rfl
theorem adt(os:Os)(started:os.Started)(H:Type)(enc:TypeId×ak8->H):
 ReturnsInHanded {} Tryz.checked os 4 .any (λw args=>(Rows.evalSizesSpec.pre enc Tryz.prog Tryz.f4 [] false w args/\laidMetH Tryz.prog sH w)/\sizedMet enc Tryz.prog Tryz.f4 (OpenSpec.ofChange Rows.evalSizesSpec) false w args)
  (Rows.evalSizesSpec.post enc Tryz.prog Tryz.f4 false true false false):=by
 refine returnsInHanded_of_change_and (C:=Tryz.checked) (X:=λw _=>laidMetH Tryz.prog sH w) (λ_ _ _ hh h=>h.of_heap hh) aho started (by kernel_rfl) Tryz.func4
  (ajo (enc:=enc) (os:=os) false #[.agg #[.slice none 0 0, .slice none 0 0, .slice none 0 0, .slice none 0 0, .slice none 0 0], .slice none 0 0, .string ⟨#[]⟩] 8 (by kernel_rfl) (by kernel_rfl) (by kernel_rfl)) ?_
 intro W base args ds gs before Qx hW _ tz hL _;have ry:∀(j:Nat) t v,Tryz.f4.params[j]?=some t->args[j]?=some v->Value.okWide Tryz.prog W .any base t v:=Qx;have hW':=hW;obtain⟨p,q,U0,hV,rfl,hfz,jz⟩:=hW;have hA:DataW.TrodAll enc Tryz.prog W 0 (λ_=>true) true Tryz.f4.params.toList args.toList ds p:=U0;rw[Tryz.params4]at hA ry;obtain⟨v0,vs0,d0,ds0,p0,q0,qK,rfl,rfl,h0,r0⟩:=trodAll_cons hA;obtain⟨v1,vs1,d1,ds1,p1,q1,rfl,rfl,rfl,J,r1⟩:=trodAll_cons r0;obtain⟨v2,vs2,d2,ds2,p2,q2,rfl,rfl,rfl,h2,r2⟩:=trodAll_cons r1;obtain⟨rfl,rfl,rfl⟩:=trodAll_nil r2;obtain rfl:args= #[v0,v1,v2]:=by cases args;simp_all
 obtain⟨rfl,rfl⟩:=trodVars_none hV;have wt0:∀n∈d0.weights Tryz.prog 27,n<=reachBytes:=λn hn=>of_decide_eq_true (akG.1 tz n (DataW.weights_mem_each (j:=0) (t:=27) (d:=d0) (by rw[Tryz.params4];rfl) rfl n hn));have wt1:∀n∈d1.weights Tryz.prog 28,n<=reachBytes:=λn hn=>of_decide_eq_true (akG.1 tz n (DataW.weights_mem_each (j:=1) (t:=28) (d:=d1) (by rw[Tryz.params4];rfl) rfl n hn));have lt0:∀x∈p0,x.block<W.heap.size:=by obtain⟨m,hm⟩:=h0;exact DataW.trod_lt m _ _ _ hm
 obtain⟨c0,rfl⟩:=aj0 Tryz.underlying27 (ry 0 27 v0 rfl rfl);obtain⟨x0,s0,e0⟩:=Pv TU (by decide) wt0 h0;obtain⟨a0,rfl,w0⟩:=aab s0;have lt1:∀x∈p1,x.block<W.heap.size:=by obtain⟨m,hm⟩:=J;exact DataW.trod_lt m _ _ _ hm
 obtain⟨b1,l1,c1,rfl⟩:=okWide_slice Tryz.underlying28 (ry 1 28 v1 rfl rfl);obtain⟨x1,s1,e1⟩:=Pv TU (by decide) wt1 J;obtain⟨a1,rfl,w1⟩:=aiV s1;obtain⟨a2,rfl,rfl,rfl,w2⟩:=open_string Tryz.underlying9 (ry 2 9 v2 rfl rfl) h2;clear U0 Qx;refine(Zx (afN a0 a1 a2 w0 w1 w2) (ac9 hL) _ rfl λi u c hu hc=> ?_).mono λe W' ⟨he,Mq⟩=> ?_
 ·match i with
  |0=>cases hu;cases hc;exact af7 rfl e0
  |1=>cases hu;cases hc;exact aaA rfl e1
  |2=>cases hu;cases hc;exact .d (.v _)
  |i+3=>simp at hu
 ·subst he;exact⟨_,rfl,_,_,_,[],_,[],hW',trodAll_mk1 (shut_bool Tryz.underlying4 _),(trodAll_cons_mk (Below.trod KU (by kernel_rfl) (of_decide_eq_true (by kernel_rfl)) h0 Mq lt0) (trodAll_cons_mk (Below.trod KU (by kernel_rfl) (of_decide_eq_true (by kernel_rfl)) J Mq lt1) (trodAll_cons_mk (shut_string Tryz.underlying9 w2) trodAll_mk0))),rfl,Mq.frame _,λh=>by cases h⟩
end Go.Proofs.YtnnapanbbbcalaaGreatDoor
