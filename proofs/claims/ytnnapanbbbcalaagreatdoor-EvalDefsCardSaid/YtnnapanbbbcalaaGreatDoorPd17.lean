/-
  Part 17 of the proof: EvDefsCarda.
-/
import Derived.Test.YtnnapanbbbcalaaGreatDoorPd16
import Derived.Test.YtnnapanbbbcalaaGreatDoorCards
import Derived.Test.YtnnapanbbbcalaaGreatDoorTie
import Derived.SevenTiedAt
import Derived.Carry
namespace Go.Proofs.YtnnapanbbbcalaaGreatDoor
open Go.ChangeShapes Go.WideShapes Go.ChangeAt Go.RowKit
open Go.ChangeMaps (open_string shut_string)
set_option maxRecDepth 100000
set_option linter.unusedVariables false
theorem Px:laidOutB Tryz.prog=true:=by kernel_rfl
theorem ahT(os:Os)(started:os.Started)(H:Type)(enc:TypeId×kd->H):
 ReturnsInHanded {} Tryz.checked os 3 .any (λw args=>(Rows.evalDefsSpec.pre enc Tryz.prog Tryz.f3 [] false w args/\laidMetH Tryz.prog wG w)/\sizedMet enc Tryz.prog Tryz.f3 (OpenSpec.ofChange Rows.evalDefsSpec) false w args)
  (Rows.evalDefsSpec.post enc Tryz.prog Tryz.f3 false true false false):=by
 refine returnsInHanded_of_change_and (C:=Tryz.checked) (X:=λw _=>laidMetH Tryz.prog wG w) (λ_ _ _ hh h=>h.of_heap hh) asX started (by kernel_rfl) Tryz.func3
  (aqB (enc:=enc) (os:=os) false #[.agg #[.slice none 0 0,.slice none 0 0,.slice none 0 0,.slice none 0 0,.slice none 0 0],.slice none 0 0,.slice none 0 0] 8 (by kernel_rfl) (by kernel_rfl) (by kernel_rfl)) ?_
 intro W a args ds gs before M N _ o hL _;have k:∀(j:Nat) t v,Tryz.f3.params[j]?=some t->args[j]?=some v->Value.okWide Tryz.prog W .any a t v:=M;have r:=N;obtain⟨p,q,b,hV,rfl,hfz,lq⟩:=N;have P:DataW.TrodAll enc Tryz.prog W 0 (λ_=>true) true Tryz.f3.params.toList args.toList ds p:=b;rw[Tryz.params3]at P k;obtain⟨Q,vs0,R,ds0,p0,q0,uH,rfl,rfl,y,r0⟩:=trodAll_cons P;obtain⟨S,vs1,T,ds1,p1,q1,rfl,rfl,rfl,z,r1⟩:=trodAll_cons r0;obtain⟨v2,vs2,d2,ds2,p2,q2,rfl,rfl,rfl,A,r2⟩:=trodAll_cons r1;obtain⟨rfl,rfl,rfl⟩:=trodAll_nil r2;obtain rfl:args= #[Q,S,v2]:=by cases args;simp_all
 obtain⟨rfl,rfl⟩:=trodVars_none hV;have B:∀n∈R.weights Tryz.prog 27,n<=reachBytes:=λn f=>Vd (Zb.1 o n (DataW.weights_mem_each (j:=0) (t:=27) (d:=R) (by rw[Tryz.params3];rfl) rfl n f));have E:∀n∈T.weights Tryz.prog 28,n<=reachBytes:=λn f=>Vd (Zb.1 o n (DataW.weights_mem_each (j:=1) (t:=28) (d:=T) (by rw[Tryz.params3];rfl) rfl n f));have F:∀n∈d2.weights Tryz.prog 29,n<=reachBytes:=λn f=>Vd (Zb.1 o n (DataW.weights_mem_each (j:=2) (t:=29) (d:=d2) (by rw[Tryz.params3];rfl) rfl n f));have G:∀x∈p0,x.block<W.heap.size:=by obtain⟨m,g⟩:=y;exact DataW.trod_lt m _ _ _ g
 obtain⟨c0,rfl⟩:=atc Tryz.underlying27 (k 0 27 Q rfl rfl);obtain⟨x0,s0,e0⟩:=Sb QQ (by decide) B y;obtain⟨a0,rfl,w0⟩:=asl s0;have J:∀x∈p1,x.block<W.heap.size:=by obtain⟨m,g⟩:=z;exact DataW.trod_lt m _ _ _ g
 obtain⟨b1,l1,c1,rfl⟩:=okWide_slice Tryz.underlying28 (k 1 28 S rfl rfl);obtain⟨x1,s1,e1⟩:=Sb QQ (by decide) E z;obtain⟨a1,rfl,w1⟩:=apr s1;have K:∀x∈p2,x.block<W.heap.size:=by obtain⟨m,g⟩:=A;exact DataW.trod_lt m _ _ _ g
 obtain⟨b2,l2,c2,rfl⟩:=okWide_slice Tryz.underlying29 (k 2 29 v2 rfl rfl);obtain⟨x2,s2,e2⟩:=Sb QQ (by decide) F A;obtain⟨a2,rfl,w2⟩:=anv s2;clear b M;refine(ajd (an7 a0 a1 a2 w0 w1 w2) (anA hL) _ rfl λi u c l L=> ?_).mono λe W' ⟨he,KA⟩=> ?_
 ·match i with
  |0=>cases l;cases L;exact aog rfl e0
  |1=>cases l;cases L;exact Yw rfl e1
  |2=>cases l;cases L;exact Yw rfl e2
  |i+3=>simp at l
 ·subst he;exact⟨_,rfl,_,_,_,[],_,[],r,trodAll_mk1 (shut_bool Tryz.underlying4 _),(trodAll_cons_mk (Below.trod Px (by kernel_rfl) (Vd (by kernel_rfl)) y KA G) (trodAll_cons_mk (Below.trod Px (by kernel_rfl) (Vd (by kernel_rfl)) z KA J) (trodAll_cons_mk (Below.trod Px (by kernel_rfl) (Vd (by kernel_rfl)) A KA K) trodAll_mk0))),rfl,KA.frame _,λh=>by cases h⟩
end Go.Proofs.YtnnapanbbbcalaaGreatDoor
