/-
  Part 23 of the proof: SmExprCarda.
-/
import Derived.Test.YtpgmcallngdceaaGreatDoorSe22
import Derived.Test.YtpgmcallngdceaaGreatDoorCards
import Derived.Test.YtpgmcallngdceaaGreatDoorTie
import Derived.SevenTiedAt
import Derived.Carry
namespace Go.Proofs.YtpgmcallngdceaaGreatDoor
open Go.ChangeShapes Go.WideShapes Go.ChangeAt Go.RowKit
open Go.ChangeMaps (open_string shut_string)
set_option maxRecDepth 100000
set_option linter.unusedVariables false
theorem Lg:laidOutB Tryz.prog=true:=by kernel_rfl
theorem ae4(os:Os)(started:os.Started)(H:Type)(enc:TypeId×ak7→H):
 ReturnsInHanded {} Tryz.checked os 4 .any (fun w args=>(Rows.simplifyExprSpec.pre enc Tryz.prog Tryz.f4 [] false w args∧laidMetH Tryz.prog uk w)∧sizedMet enc Tryz.prog Tryz.f4 (OpenSpec.ofChange Rows.simplifyExprSpec) false w args)
  (Rows.simplifyExprSpec.post enc Tryz.prog Tryz.f4 false true false false):=by
 refine returnsInHanded_of_change_and (C:=Tryz.checked) (X:=fun w _=>laidMetH Tryz.prog uk w) (fun _ _ _ hh h=>h.of_heap hh) YO started (by kernel_rfl) Tryz.func4
  (ajm (enc:=enc) (os:=os) false #[.agg #[.int .i64 0, .int .i64 0, .int .i64 0, .int .i64 0, .int .i64 0], .agg #[.int .i64 0, .string ⟨#[]⟩, .int .i64 0, .int .i64 0, .int .i64 0, .int .i64 0, .int .i64 0, .int .i64 0, .int .i64 0, .int .i64 0, .slice none 0 0, .slice none 0 0, .slice none 0 0]] 8 (by kernel_rfl) (by kernel_rfl) (by kernel_rfl)) ?_
 intro W base args ds gs before Ra hW _ uB hL _;have lU:∀(j:Nat) t v,Tryz.f4.params[j]?=some t→args[j]?=some v→Value.okWide Tryz.prog W .any base t v:=Ra;have hW':=hW;obtain⟨p,q,W2,hV,rfl,hfz,jy⟩:=hW;have hA:DataW.TrodAll enc Tryz.prog W 0 (fun _=>true) true Tryz.f4.params.toList args.toList ds p:=W2;rw[Tryz.params4]at hA lU;obtain⟨v0,vs0,d0,ds0,p0,q0,wx,rfl,rfl,h0,r0⟩:=trodAll_cons hA;obtain⟨v1,vs1,d1,ds1,p1,q1,rfl,rfl,rfl,h1,r1⟩:=trodAll_cons r0;obtain⟨rfl,rfl,rfl⟩:=trodAll_nil r1;obtain rfl:args= #[v0,v1]:=by cases args;simp_all
 obtain⟨rfl,rfl⟩:=trodVars_none hV;have wt0:∀n∈d0.weights Tryz.prog 23,n≤reachBytes:=fun n hn=>of_decide_eq_true (akF.1 uB n (DataW.weights_mem_each (j:=0) (t:=23) (d:=d0) (by rw[Tryz.params4];rfl) rfl n hn));have wt1:∀n∈d1.weights Tryz.prog 32,n≤reachBytes:=fun n hn=>of_decide_eq_true (akF.1 uB n (DataW.weights_mem_each (j:=1) (t:=32) (d:=d1) (by rw[Tryz.params4];rfl) rfl n hn));have lt0:∀x∈p0,x.block<W.heap.size:=by obtain⟨m,hm⟩:=h0;exact DataW.trod_lt m _ _ _ hm
 obtain⟨c0,rfl⟩:=XL Tryz.underlying23 (lU 0 23 v0 rfl rfl);obtain⟨x0,s0,e0⟩:=QR WK (by decide) wt0 h0;obtain⟨a0,rfl,w0⟩:=U7 s0;have lt1:∀x∈p1,x.block<W.heap.size:=by obtain⟨m,hm⟩:=h1;exact DataW.trod_lt m _ _ _ hm
 obtain⟨c1,rfl⟩:=XL Tryz.underlying32 (lU 1 32 v1 rfl rfl);obtain⟨x1,s1,e1⟩:=QR WK (by decide) wt1 h1;obtain⟨a1,rfl,w1⟩:=Zc s1;clear W2 Ra;refine(abf (ajr a0 a1 w0 w1) (ag6 hL) _ rfl fun i u c hu hc=> ?_).mono fun e W' ⟨he,Me⟩=> ?_
 ·match i with
  |0=>cases hu;cases hc;exact Vk rfl e0
  |1=>cases hu;cases hc;exact Vk rfl e1
  |i+2=>simp at hu
 ·subst he;exact⟨_,rfl,_,_,_,[],_,[],hW',trodAll_mk1 (shut_bool Tryz.underlying4 _),(trodAll_cons_mk (Below.trod Lg (by kernel_rfl) (of_decide_eq_true (by kernel_rfl)) h0 Me lt0) (trodAll_cons_mk (Below.trod Lg (by kernel_rfl) (of_decide_eq_true (by kernel_rfl)) h1 Me lt1) trodAll_mk0)),rfl,Me.frame _,fun h=>by cases h⟩
end Go.Proofs.YtpgmcallngdceaaGreatDoor
