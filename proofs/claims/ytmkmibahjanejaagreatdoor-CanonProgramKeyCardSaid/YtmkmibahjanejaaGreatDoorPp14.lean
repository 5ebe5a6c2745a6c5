/-
  Part 14 of the proof: CnKeyCarda.
-/
import Derived.Test.YtmkmibahjanejaaGreatDoorPp13
import Derived.Test.YtmkmibahjanejaaGreatDoorCards
import Derived.Test.YtmkmibahjanejaaGreatDoorTie
import Derived.SevenTiedAt
import Derived.Carry
namespace Go.Proofs.YtmkmibahjanejaaGreatDoor
open Go.ChangeShapes Go.WideShapes Go.ChangeAt Go.RowKit
open Go.ChangeMaps (open_string shut_string)
set_option maxRecDepth 100000
set_option linter.unusedVariables false
theorem Sg:laidOutB Tryz.prog=true:=by kernel_rfl
theorem aiD(os:Os)(started:os.Started)(H:Type)(enc:TypeId×aqB->H):
 ReturnsInHanded {} Tryz.checked os 4 .any (λw args=>(Rows.canonProgramKeySpec.pre enc Tryz.prog Tryz.f4 [] false w args/\laidMetH Tryz.prog vf w)/\sizedMet enc Tryz.prog Tryz.f4 (OpenSpec.ofChange Rows.canonProgramKeySpec) false w args)
  (Rows.canonProgramKeySpec.post enc Tryz.prog Tryz.f4 false true false false):=by
 refine returnsInHanded_of_change_and (C:=Tryz.checked) (X:=λw _=>laidMetH Tryz.prog vf w) (λ_ _ _ hh h=>h.of_heap hh) ajr started (by kernel_rfl) Tryz.func4
  (anb (enc:=enc) (os:=os) false #[.agg #[.slice none 0 0, .slice none 0 0, .slice none 0 0, .slice none 0 0, .slice none 0 0], .slice none 0 0] 8 (by kernel_rfl) (by kernel_rfl) (by kernel_rfl)) ?_
 intro W base args ds gs before Wc hW _ wu hL _;have mi:∀(j:Nat) t v,Tryz.f4.params[j]?=some t->args[j]?=some v->Value.okWide Tryz.prog W .any base t v:=Wc;have hW':=hW;obtain⟨p,q,UA,hV,rfl,hfz,gd⟩:=hW;have hA:DataW.TrodAll enc Tryz.prog W 0 (λ_=>true) true Tryz.f4.params.toList args.toList ds p:=UA;rw[Tryz.params4]at hA mi;obtain⟨v0,vs0,d0,ds0,p0,q0,nR,rfl,rfl,h0,r0⟩:=trodAll_cons hA;obtain⟨v1,vs1,d1,ds1,p1,q1,rfl,rfl,rfl,h1,r1⟩:=trodAll_cons r0;obtain⟨rfl,rfl,rfl⟩:=trodAll_nil r1;obtain rfl:args= #[v0,v1]:=by cases args;simp_all
 obtain⟨rfl,rfl⟩:=trodVars_none hV;have wt0:∀n∈d0.weights Tryz.prog 27,n<=reachBytes:=λn hn=>of_decide_eq_true (ap9.1 wu n (DataW.weights_mem_each (j:=0) (t:=27) (d:=d0) (by rw[Tryz.params4];rfl) rfl n hn));have wt1:∀n∈d1.weights Tryz.prog 35,n<=reachBytes:=λn hn=>of_decide_eq_true (ap9.1 wu n (DataW.weights_mem_each (j:=1) (t:=35) (d:=d1) (by rw[Tryz.params4];rfl) rfl n hn));have lt0:∀x∈p0,x.block<W.heap.size:=by obtain⟨m,hm⟩:=h0;exact DataW.trod_lt m _ _ _ hm
 obtain⟨c0,rfl⟩:=apr Tryz.underlying27 (mi 0 27 v0 rfl rfl);obtain⟨x0,s0,e0⟩:=acG UJ (by decide) wt0 h0;obtain⟨a0,rfl,w0⟩:=ak6 s0;have lt1:∀x∈p1,x.block<W.heap.size:=by obtain⟨m,hm⟩:=h1;exact DataW.trod_lt m _ _ _ hm
 obtain⟨b1,l1,c1,rfl⟩:=okWide_slice Tryz.underlying35 (mi 1 35 v1 rfl rfl);obtain⟨x1,s1,e1⟩:=acG UJ (by decide) wt1 h1;obtain⟨a1,rfl,w1⟩:=adI s1;clear UA Wc;refine(alF (anj a0 a1 w0 w1) (afn hL) _ rfl λi u c hu hc=> ?_).mono λe W' ⟨he,Oo⟩=> ?_
 ·match i with
  |0=>cases hu;cases hc;exact ajH rfl e0
  |1=>cases hu;cases hc;exact aiM rfl e1
  |i+2=>simp at hu
 ·subst he;exact⟨_,rfl,_,_,_,[],_,[],hW',trodAll_mk1 (shut_bool Tryz.underlying4 _),(trodAll_cons_mk (Below.trod Sg (by kernel_rfl) (of_decide_eq_true (by kernel_rfl)) h0 Oo lt0) (trodAll_cons_mk (Below.trod Sg (by kernel_rfl) (of_decide_eq_true (by kernel_rfl)) h1 Oo lt1) trodAll_mk0)),rfl,Oo.frame _,λh=>by cases h⟩
end Go.Proofs.YtmkmibahjanejaaGreatDoor
