/-
  Part 14 of the proof: CnRenCarda.
-/
import Derived.Test.YtmkmibahjanejaaGreatDoorPr13
import Derived.Test.YtmkmibahjanejaaGreatDoorCards
import Derived.Test.YtmkmibahjanejaaGreatDoorTie
import Derived.SevenTiedAt
import Derived.Carry
namespace Go.Proofs.YtmkmibahjanejaaGreatDoor
open Go.ChangeShapes Go.WideShapes Go.ChangeAt Go.RowKit
open Go.ChangeMaps (open_string shut_string)
set_option maxRecDepth 100000
set_option linter.unusedVariables false
theorem OU:laidOutB Tryz.prog=true:=by kernel_rfl
theorem an1(os:Os)(started:os.Started)(H:Type)(enc:TypeId×apL->H):
 ReturnsInHanded {} Tryz.checked os 5 .any (λw args=>(Rows.canonRenamingSpec.pre enc Tryz.prog Tryz.f5 [] false w args/\laidMetH Tryz.prog uX w)/\sizedMet enc Tryz.prog Tryz.f5 (OpenSpec.ofChange Rows.canonRenamingSpec) false w args)
  (Rows.canonRenamingSpec.post enc Tryz.prog Tryz.f5 false true false false):=by
 refine returnsInHanded_of_change_and (C:=Tryz.checked) (X:=λw _=>laidMetH Tryz.prog uX w) (λ_ _ _ hh h=>h.of_heap hh) aju started (by kernel_rfl) Tryz.func5
  (ajK (enc:=enc) (os:=os) false #[.agg #[.slice none 0 0, .slice none 0 0, .slice none 0 0, .slice none 0 0, .slice none 0 0], .slice none 0 0, .int .u8 0] 8 (by kernel_rfl) (by kernel_rfl) (by kernel_rfl)) ?_
 intro W base args ds gs before Z9 hW _ wi hL _;have lI:∀(j:Nat) t v,Tryz.f5.params[j]?=some t->args[j]?=some v->Value.okWide Tryz.prog W .any base t v:=Z9;have hW':=hW;obtain⟨p,q,UQ,hV,rfl,hfz,fW⟩:=hW;have hA:DataW.TrodAll enc Tryz.prog W 0 (λ_=>true) true Tryz.f5.params.toList args.toList ds p:=UQ;rw[Tryz.params5]at hA lI;obtain⟨v0,vs0,d0,ds0,p0,q0,ot,rfl,rfl,h0,r0⟩:=trodAll_cons hA;obtain⟨v1,vs1,d1,ds1,p1,q1,rfl,rfl,rfl,h1,r1⟩:=trodAll_cons r0;obtain⟨v2,vs2,d2,ds2,p2,q2,rfl,rfl,rfl,h2,r2⟩:=trodAll_cons r1;obtain⟨rfl,rfl,rfl⟩:=trodAll_nil r2;obtain rfl:args= #[v0,v1,v2]:=by cases args;simp_all
 obtain⟨rfl,rfl⟩:=trodVars_none hV;have wt0:∀n∈d0.weights Tryz.prog 27,n<=reachBytes:=λn hn=>of_decide_eq_true (api.1 wi n (DataW.weights_mem_each (j:=0) (t:=27) (d:=d0) (by rw[Tryz.params5];rfl) rfl n hn));have wt1:∀n∈d1.weights Tryz.prog 35,n<=reachBytes:=λn hn=>of_decide_eq_true (api.1 wi n (DataW.weights_mem_each (j:=1) (t:=35) (d:=d1) (by rw[Tryz.params5];rfl) rfl n hn));have lt0:∀x∈p0,x.block<W.heap.size:=by obtain⟨m,hm⟩:=h0;exact DataW.trod_lt m _ _ _ hm
 obtain⟨c0,rfl⟩:=aoy Tryz.underlying27 (lI 0 27 v0 rfl rfl);obtain⟨x0,s0,e0⟩:=Tv ZY (by decide) wt0 h0;obtain⟨a0,rfl,w0⟩:=ahx s0;have lt1:∀x∈p1,x.block<W.heap.size:=by obtain⟨m,hm⟩:=h1;exact DataW.trod_lt m _ _ _ hm
 obtain⟨b1,l1,c1,rfl⟩:=okWide_slice Tryz.underlying35 (lI 1 35 v1 rfl rfl);obtain⟨x1,s1,e1⟩:=Tv ZY (by decide) wt1 h1;obtain⟨a1,rfl,w1⟩:=amg s1;obtain⟨a2,rfl,rfl,rfl,w2⟩:=open_int Tryz.underlying5 (lI 2 5 v2 rfl rfl) h2;clear UQ Z9;refine(aii (alu a0 a1 a2 w0 w1 w2) (ai0 hL) _ rfl λi u c hu hc=> ?_).mono λe W' ⟨he,Ng⟩=> ?_
 ·match i with
  |0=>cases hu;cases hc;exact aik rfl e0
  |1=>cases hu;cases hc;exact ai6 rfl e1
  |2=>cases hu;cases hc;exact .d (.v _)
  |i+3=>simp at hu
 ·subst he;exact⟨_,rfl,_,_,_,[],_,[],hW',trodAll_mk1 (shut_bool Tryz.underlying4 _),(trodAll_cons_mk (Below.trod OU (by kernel_rfl) (of_decide_eq_true (by kernel_rfl)) h0 Ng lt0) (trodAll_cons_mk (Below.trod OU (by kernel_rfl) (of_decide_eq_true (by kernel_rfl)) h1 Ng lt1) (trodAll_cons_mk (shut_int Tryz.underlying5 w2) trodAll_mk0))),rfl,Ng.frame _,λh=>by cases h⟩
end Go.Proofs.YtmkmibahjanejaaGreatDoor
