/-
  Part 16 of the proof: EvExprsCarda.
-/
import Derived.Test.YtnnapanbbbcalaaGreatDoorPp15
import Derived.Test.YtnnapanbbbcalaaGreatDoorCards
import Derived.Test.YtnnapanbbbcalaaGreatDoorTie
import Derived.SevenTiedAt
import Derived.Carry
namespace Go.Proofs.YtnnapanbbbcalaaGreatDoor
open Go.ChangeShapes Go.WideShapes Go.ChangeAt Go.RowKit
open Go.ChangeMaps (open_string shut_string)
set_option maxRecDepth 100000
set_option linter.unusedVariables false
theorem JN:laidOutB Tryz.prog=true:=by kernel_rfl
theorem adO(os:Os)(started:os.Started)(H:Type)(enc:TypeId×amX->H):
 ReturnsInHanded {} Tryz.checked os 6 .any (λw args=>(Rows.evalExprsSpec.pre enc Tryz.prog Tryz.f6 [] false w args/\laidMetH Tryz.prog tK w)/\sizedMet enc Tryz.prog Tryz.f6 (OpenSpec.ofChange Rows.evalExprsSpec) false w args)
  (Rows.evalExprsSpec.post enc Tryz.prog Tryz.f6 false true false false):=by
 refine returnsInHanded_of_change_and (C:=Tryz.checked) (X:=λw _=>laidMetH Tryz.prog tK w) (λ_ _ _ hh h=>h.of_heap hh) aar started (by kernel_rfl) Tryz.func6
  (ade (enc:=enc) (os:=os) false #[.slice none 0 0, .slice none 0 0, .agg #[.int .i64 0, .string ⟨#[]⟩, .int .i64 0, .int .i64 0, .int .i64 0, .int .i64 0, .int .i64 0, .int .i64 0, .int .i64 0, .int .i64 0, .slice none 0 0, .slice none 0 0, .slice none 0 0]] 8 (by kernel_rfl) (by kernel_rfl) (by kernel_rfl)) ?_
 intro W base args ds gs before S5 hW _ sb hL _;have sQ:∀(j:Nat) t v,Tryz.f6.params[j]?=some t->args[j]?=some v->Value.okWide Tryz.prog W .any base t v:=S5;have hW':=hW;obtain⟨p,q,VJ,hV,rfl,hfz,jV⟩:=hW;have hA:DataW.TrodAll enc Tryz.prog W 0 (λ_=>true) true Tryz.f6.params.toList args.toList ds p:=VJ;rw[Tryz.params6]at hA sQ;obtain⟨v0,vs0,d0,ds0,p0,q0,rl,rfl,rfl,h0,r0⟩:=trodAll_cons hA;obtain⟨v1,vs1,d1,ds1,p1,q1,rfl,rfl,rfl,h1,r1⟩:=trodAll_cons r0;obtain⟨v2,vs2,d2,ds2,p2,q2,rfl,rfl,rfl,h2,r2⟩:=trodAll_cons r1;obtain⟨rfl,rfl,rfl⟩:=trodAll_nil r2;obtain rfl:args= #[v0,v1,v2]:=by cases args;simp_all
 obtain⟨rfl,rfl⟩:=trodVars_none hV;have wt0:∀n∈d0.weights Tryz.prog 29,n<=reachBytes:=λn hn=>of_decide_eq_true (amv.1 sb n (DataW.weights_mem_each (j:=0) (t:=29) (d:=d0) (by rw[Tryz.params6];rfl) rfl n hn));have wt1:∀n∈d1.weights Tryz.prog 28,n<=reachBytes:=λn hn=>of_decide_eq_true (amv.1 sb n (DataW.weights_mem_each (j:=1) (t:=28) (d:=d1) (by rw[Tryz.params6];rfl) rfl n hn));have wt2:∀n∈d2.weights Tryz.prog 52,n<=reachBytes:=λn hn=>of_decide_eq_true (amv.1 sb n (DataW.weights_mem_each (j:=2) (t:=52) (d:=d2) (by rw[Tryz.params6];rfl) rfl n hn));have lt0:∀x∈p0,x.block<W.heap.size:=by obtain⟨m,hm⟩:=h0;exact DataW.trod_lt m _ _ _ hm
 obtain⟨b0,l0,c0,rfl⟩:=okWide_slice Tryz.underlying29 (sQ 0 29 v0 rfl rfl);obtain⟨x0,s0,e0⟩:=PD Mh (by decide) wt0 h0;obtain⟨a0,rfl,w0⟩:=af8 s0;have lt1:∀x∈p1,x.block<W.heap.size:=by obtain⟨m,hm⟩:=h1;exact DataW.trod_lt m _ _ _ hm
 obtain⟨b1,l1,c1,rfl⟩:=okWide_slice Tryz.underlying28 (sQ 1 28 v1 rfl rfl);obtain⟨x1,s1,e1⟩:=PD Mh (by decide) wt1 h1;obtain⟨a1,rfl,w1⟩:=ZT s1;have lt2:∀x∈p2,x.block<W.heap.size:=by obtain⟨m,hm⟩:=h2;exact DataW.trod_lt m _ _ _ hm
 obtain⟨c2,rfl⟩:=alR Tryz.underlying52 (sQ 2 52 v2 rfl rfl);obtain⟨x2,s2,e2⟩:=PD Mh (by decide) wt2 h2;obtain⟨a2,rfl,w2⟩:=ac2 s2;clear VJ S5;refine(aaz (agN a0 a1 a2 w0 w1 w2) (ajF hL) _ rfl λi u c hu hc=> ?_).mono λe W' ⟨he,Jy⟩=> ?_
 ·match i with
  |0=>cases hu;cases hc;exact Sr rfl e0
  |1=>cases hu;cases hc;exact Sr rfl e1
  |2=>cases hu;cases hc;exact aeX rfl e2
  |i+3=>simp at hu
 ·subst he;exact⟨_,rfl,_,_,_,[],_,[],hW',trodAll_mk1 (shut_bool Tryz.underlying4 _),(trodAll_cons_mk (Below.trod JN (by kernel_rfl) (of_decide_eq_true (by kernel_rfl)) h0 Jy lt0) (trodAll_cons_mk (Below.trod JN (by kernel_rfl) (of_decide_eq_true (by kernel_rfl)) h1 Jy lt1) (trodAll_cons_mk (Below.trod JN (by kernel_rfl) (of_decide_eq_true (by kernel_rfl)) h2 Jy lt2) trodAll_mk0))),rfl,Jy.frame _,λh=>by cases h⟩
end Go.Proofs.YtnnapanbbbcalaaGreatDoor
