/-
  Part 17.
-/
import Derived.Test.YtnnapanbbbcalaaGreatDoorPe16
import Derived.Test.YtnnapanbbbcalaaGreatDoorCards
import Derived.Test.YtnnapanbbbcalaaGreatDoorTie
import Derived.SevenTiedAt
import Derived.Carry
namespace Go.Proofs.YtnnapanbbbcalaaGreatDoor
open Go.ChangeShapes Go.WideShapes Go.ChangeAt Go.RowKit
open Go.ChangeMaps (open_string shut_string)
set_option maxRecDepth 100000
set_option linter.unusedVariables false
theorem KU:laidOutB Tryz.prog=true:=by kernel_rfl
theorem alI(os:Os)(started:os.Started)(H:Type)(enc:TypeId×kd->H):
 ReturnsInHanded {} Tryz.checked os 5 .any (λw args=>(Rows.evalRunsSpec.pre enc Tryz.prog Tryz.f5 [] false w args/\laidMetH Tryz.prog wy w)/\sizedMet enc Tryz.prog Tryz.f5 (OpenSpec.ofChange Rows.evalRunsSpec) false w args)
  (Rows.evalRunsSpec.post enc Tryz.prog Tryz.f5 false true false false):=by
 refine returnsInHanded_of_change_and (C:=Tryz.checked) (X:=λw _=>laidMetH Tryz.prog wy w) (λ_ _ _ hh h=>h.of_heap hh) asa started (by kernel_rfl) Tryz.func5
  (akj (enc:=enc) (os:=os) false #[.agg #[.slice none 0 0,.slice none 0 0,.slice none 0 0,.slice none 0 0,.slice none 0 0],.slice none 0 0,.slice none 0 0] 8 (by kernel_rfl) (by kernel_rfl) (by kernel_rfl)) ?_
 intro W a args ds gs before b N _ r hL _;have l:∀(j:Nat) t v,Tryz.f5.params[j]?=some t->args[j]?=some v->Value.okWide Tryz.prog W .any a t v:=b;have y:=N;obtain⟨p,q,f,hV,rfl,hfz,k8⟩:=N;have P:DataW.TrodAll enc Tryz.prog W 0 (λ_=>true) true Tryz.f5.params.toList args.toList ds p:=f;rw[Tryz.params5]at P l;obtain⟨Q,vs0,R,ds0,p0,q0,uU,rfl,rfl,z,r0⟩:=trodAll_cons P;obtain⟨S,vs1,T,ds1,p1,q1,rfl,rfl,rfl,A,r1⟩:=trodAll_cons r0;obtain⟨v2,vs2,d2,ds2,p2,q2,rfl,rfl,rfl,B,r2⟩:=trodAll_cons r1;obtain⟨rfl,rfl,rfl⟩:=trodAll_nil r2;obtain rfl:args= #[Q,S,v2]:=by cases args;simp_all
 obtain⟨rfl,rfl⟩:=trodVars_none hV;have E:∀n∈R.weights Tryz.prog 27,n<=reachBytes:=λn g=>U0 (Zd.1 r n (DataW.weights_mem_each (j:=0) (t:=27) (d:=R) (by rw[Tryz.params5];rfl) rfl n g));have F:∀n∈T.weights Tryz.prog 28,n<=reachBytes:=λn g=>U0 (Zd.1 r n (DataW.weights_mem_each (j:=1) (t:=28) (d:=T) (by rw[Tryz.params5];rfl) rfl n g));have G:∀n∈d2.weights Tryz.prog 29,n<=reachBytes:=λn g=>U0 (Zd.1 r n (DataW.weights_mem_each (j:=2) (t:=29) (d:=d2) (by rw[Tryz.params5];rfl) rfl n g));have J:∀x∈p0,x.block<W.heap.size:=by obtain⟨m,k⟩:=z;exact DataW.trod_lt m _ _ _ k
 obtain⟨c0,rfl⟩:=atq Tryz.underlying27 (l 0 27 Q rfl rfl);obtain⟨x0,s0,e0⟩:=Q1 R1 (by decide) E z;obtain⟨a0,rfl,w0⟩:=asp s0;have K:∀x∈p1,x.block<W.heap.size:=by obtain⟨m,k⟩:=A;exact DataW.trod_lt m _ _ _ k
 obtain⟨b1,l1,c1,rfl⟩:=okWide_slice Tryz.underlying28 (l 1 28 S rfl rfl);obtain⟨x1,s1,e1⟩:=Q1 R1 (by decide) F A;obtain⟨a1,rfl,w1⟩:=anK s1;have L:∀x∈p2,x.block<W.heap.size:=by obtain⟨m,k⟩:=B;exact DataW.trod_lt m _ _ _ k
 obtain⟨b2,l2,c2,rfl⟩:=okWide_slice Tryz.underlying29 (l 2 29 v2 rfl rfl);obtain⟨x2,s2,e2⟩:=Q1 R1 (by decide) G B;obtain⟨a2,rfl,w2⟩:=ajc s2;clear f b;refine(aoT (as2 a0 a1 a2 w0 w1 w2) (anx hL) _ rfl λi u c o M=> ?_).mono λe W' ⟨he,OB⟩=> ?_
 ·match i with
  |0=>cases o;cases M;exact akB rfl e0
  |1=>cases o;cases M;exact aeh rfl e1
  |2=>cases o;cases M;exact aeh rfl e2
  |i+3=>simp at o
 ·subst he;exact⟨_,rfl,_,_,_,[],_,[],y,trodAll_mk1 (shut_bool Tryz.underlying4 _),(trodAll_cons_mk (Below.trod KU (by kernel_rfl) (U0 (by kernel_rfl)) z OB J) (trodAll_cons_mk (Below.trod KU (by kernel_rfl) (U0 (by kernel_rfl)) A OB K) (trodAll_cons_mk (Below.trod KU (by kernel_rfl) (U0 (by kernel_rfl)) B OB L) trodAll_mk0))),rfl,OB.frame _,λh=>by cases h⟩
end Go.Proofs.YtnnapanbbbcalaaGreatDoor
