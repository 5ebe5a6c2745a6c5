/-
  Part 23 of the proof: SmStepCarda.
-/
import Derived.Test.YtpgmcallngdceaaGreatDoorSp22
import Derived.Test.YtpgmcallngdceaaGreatDoorCards
import Derived.Test.YtpgmcallngdceaaGreatDoorTie
import Derived.SevenTiedAt
import Derived.Carry
namespace Go.Proofs.YtpgmcallngdceaaGreatDoor
open Go.ChangeShapes Go.WideShapes Go.ChangeAt Go.RowKit
open Go.ChangeMaps (open_string shut_string)
set_option maxRecDepth 100000
set_option linter.unusedVariables false
theorem OU:laidOutB Tryz.prog=true:=by kernel_rfl
theorem ZW(os:Os)(started:os.Started)(H:Type)(enc:TypeId×akf→H):
 ReturnsInHanded {} Tryz.checked os 3 .any (fun w args=>(Rows.simplifyStepSpec.pre enc Tryz.prog Tryz.f3 [] false w args∧laidMetH Tryz.prog tY w)∧sizedMet enc Tryz.prog Tryz.f3 (OpenSpec.ofChange Rows.simplifyStepSpec) false w args)
  (Rows.simplifyStepSpec.post enc Tryz.prog Tryz.f3 false true false false):=by
 refine returnsInHanded_of_change_and (C:=Tryz.checked) (X:=fun w _=>laidMetH Tryz.prog tY w) (fun _ _ _ hh h=>h.of_heap hh) aec started (by kernel_rfl) Tryz.func3
  (Zi (enc:=enc) (os:=os) false #[.agg #[.int .i64 0, .int .i64 0, .int .i64 0, .int .i64 0, .int .i64 0], .agg #[.int .i64 0, .string ⟨#[]⟩, .int .i64 0, .int .i64 0, .int .i64 0, .int .i64 0, .int .i64 0, .int .i64 0, .int .i64 0, .int .i64 0, .slice none 0 0, .slice none 0 0, .slice none 0 0]] 8 (by kernel_rfl) (by kernel_rfl) (by kernel_rfl)) ?_
 intro W base args ds gs before Ww hW _ rT hL _;have lG:∀(j:Nat) t v,Tryz.f3.params[j]?=some t→args[j]?=some v→Value.okWide Tryz.prog W .any base t v:=Ww;have hW':=hW;obtain⟨p,q,UL,hV,rfl,hfz,jm⟩:=hW;have hA:DataW.TrodAll enc Tryz.prog W 0 (fun _=>true) true Tryz.f3.params.toList args.toList ds p:=UL;rw[Tryz.params3]at hA lG;obtain⟨v0,vs0,d0,ds0,p0,q0,ve,rfl,rfl,h0,r0⟩:=trodAll_cons hA;obtain⟨v1,vs1,d1,ds1,p1,q1,rfl,rfl,rfl,h1,r1⟩:=trodAll_cons r0;obtain⟨rfl,rfl,rfl⟩:=trodAll_nil r1;obtain rfl:args= #[v0,v1]:=by cases args;simp_all
 obtain⟨rfl,rfl⟩:=trodVars_none hV;have wt0:∀n∈d0.weights Tryz.prog 23,n≤reachBytes:=fun n hn=>of_decide_eq_true (ajN.1 rT n (DataW.weights_mem_each (j:=0) (t:=23) (d:=d0) (by rw[Tryz.params3];rfl) rfl n hn));have wt1:∀n∈d1.weights Tryz.prog 32,n≤reachBytes:=fun n hn=>of_decide_eq_true (ajN.1 rT n (DataW.weights_mem_each (j:=1) (t:=32) (d:=d1) (by rw[Tryz.params3];rfl) rfl n hn));have Yq:∀x∈p0,x.block<W.heap.size:=by obtain⟨m,hm⟩:=h0;exact DataW.trod_lt m _ _ _ hm
 obtain⟨c0,rfl⟩:=WU Tryz.underlying23 (lG 0 23 v0 rfl rfl);obtain⟨x0,s0,e0⟩:=PC PF (by decide) wt0 h0;obtain⟨a0,rfl,w0⟩:=WK s0;have XV:∀x∈p1,x.block<W.heap.size:=by obtain⟨m,hm⟩:=h1;exact DataW.trod_lt m _ _ _ hm
 obtain⟨c1,rfl⟩:=WU Tryz.underlying32 (lG 1 32 v1 rfl rfl);obtain⟨x1,s1,e1⟩:=PC PF (by decide) wt1 h1;obtain⟨a1,rfl,w1⟩:=XD s1;clear UL Ww;refine(aa9 (W7 a0 a1 w0 w1) (ain hL) _ rfl fun i u c hu hc=> ?_).mono fun e W' ⟨he,M5⟩=> ?_
 ·match i with
  |0=>cases hu;cases hc;exact UU rfl e0
  |1=>cases hu;cases hc;exact UU rfl e1
  |i+2=>simp at hu
 ·subst he;exact⟨_,rfl,_,_,_,[],_,[],hW',trodAll_mk1 (shut_bool Tryz.underlying4 _),(trodAll_cons_mk (Below.trod OU (by kernel_rfl) (of_decide_eq_true (by kernel_rfl)) h0 M5 Yq) (trodAll_cons_mk (Below.trod OU (by kernel_rfl) (of_decide_eq_true (by kernel_rfl)) h1 M5 XV) trodAll_mk0)),rfl,M5.frame _,fun h=>by cases h⟩
end Go.Proofs.YtpgmcallngdceaaGreatDoor
